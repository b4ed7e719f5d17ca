/-
  What an event does to a message: (*state).act, by hand.
  What an event does to a message: edit and deletion.
  Maps whose keys are numbers of kind int, as lists of keys and values: what lookup, a store of a new key, do. Over any program.
-/
import Derived.Test.YtljdbikodogeiaaGreatDoorPkA
import Derived.Test.YtljdbikodogeiaaGreatDoorDrawn
import Derived.Deep.DeepCutAuto
import Derived.Deep.CutBlock
import Derived.Test.YtljdbikodogeiaaGreatDoorMem
import Derived.MapKept
namespace Go.Proofs.YtljdbikodogeiaaGreatDoor
open Go.RowKit
/-- one block turned, all else as it was -/
structure Turned (w w' : World) (b : Nat) (o : Obj) : Prop where
  os : w'.os = w.os
  tape : w'.tape = w.tape
  output : w'.output = w.output
  size : w.heap.size ≤ w'.heap.size
  block : ∀ k, k < w.heap.size → k ≠ b → w'.heap[k]? = w.heap[k]?
  at_ : w'.heap[b]? = some o
/-- the cells of a state -/
def stC (id au gr pa qu wh : Int) (tx : ByteArray) (fl : Value) (ed : Int) (gone : Bool) (rm : Value) : Array Value :=
  #[.int .i64 id, .int .i64 au, .int .i64 gr, .int .i64 pa, .int .i64 qu, .int .i64 wh, .string tx, fl, .int .i64 ed, .slice none 0 0, .bool gone, rm]
def evC (ea es : Int) (ec : Value) (ek eg et eq ew en : Int) (ex : ByteArray) (ef : Value) (ep : Int) : Array Value :=
  #[.int .i64 ea, .int .i64 es, ec, .int .i64 ek, .int .i64 eg, .int .i64 et, .int .i64 eq, .int .i64 ew, .int .i64 en, .string ex, ef, .int .i64 ep]
theorem row12 {w : World} {b : Nat} {a0 a1 a2 a3 a4 a5 a6 a7 a8 a9 a10 a11 : Value} {T : TypeId} (h : w.heap[b]? = some (.cells #[a0, a1, a2, a3, a4, a5, a6, a7, a8, a9, a10, a11] T (0, 0))) :
    w.cell? ⟨b, 0, none⟩ = some a0 ∧ w.cell? ⟨b, 1, none⟩ = some a1 ∧ w.cell? ⟨b, 2, none⟩ = some a2 ∧ w.cell? ⟨b, 3, none⟩ = some a3 ∧ w.cell? ⟨b, 4, none⟩ = some a4 ∧ w.cell? ⟨b, 5, none⟩ = some a5 ∧ w.cell? ⟨b, 6, none⟩ = some a6 ∧ w.cell? ⟨b, 7, none⟩ = some a7 ∧ w.cell? ⟨b, 8, none⟩ = some a8 ∧ w.cell? ⟨b, 9, none⟩ = some a9 ∧ w.cell? ⟨b, 10, none⟩ = some a10 ∧ w.cell? ⟨b, 11, none⟩ = some a11 := by
  refine ⟨?_, ?_, ?_, ?_, ?_, ?_, ?_, ?_, ?_, ?_, ?_, ?_⟩ <;> (rw [cell_of_row _ _ _ _ _ _ h]; rfl)
set_option maxRecDepth 100000 in
set_option maxHeartbeats 4000000 in
theorem act_skip (w : World) (bx : Nat) (id au gr pa qu wh : Int) (tx : ByteArray) (fl : Value) (ed : Int) (gone : Bool) (rm : Value) (ea es : Int) (ec : Value) (ek eg et eq ew en : Int) (ex : ByteArray) (ef : Value) (ep : Int)
    (hbx : w.heap[bx]? = some (.cells (stC id au gr pa qu wh tx fl ed gone rm) 82 (0, 0))) (hc : (eg != gr) = true ∨ (eg != gr) = false ∧ gone = true) :
    Calls Tryz.prog 38 #[.pointer (some ⟨bx, 0, none⟩), .agg (evC ea es ec ek eg et eq ew en ex ef ep)] w fun e w' => e = .returned (.tuple #[]) ∧ Below w.heap.size w w' := by
  unfold stC at hbx
  unfold evC
  have hlt := lt_of_block hbx
  go_enter Tryz.func38, Tryz.ntmps38
  go_wp2_with fail
  obtain ⟨W0, hW0⟩ : ∃ W0, w.alloc (.cells #[.int .i64 ea, .int .i64 es, ec, .int .i64 ek, .int .i64 eg, .int .i64 et, .int .i64 eq, .int .i64 ew, .int .i64 en, .string ex, ef, .int .i64 ep] 45) = W0 := ⟨_, rfl⟩
  have hE := row12 (w := W0) (b := w.heap.size) (by rw [← hW0]; exact heap_alloc_new w _)
  have hS := row12 (w := W0) (b := bx) (by rw [← hW0]; exact (Below.heap_alloc _ _ _ hlt).trans hbx)
  have hB : Below w.heap.size w W0 := by rw [← hW0]; exact (Below.refl _ w).alloc (Nat.le_refl _) _
  rw [hW0]
  obtain ⟨s0, s1, s2, s3, s4, s5, s6, s7, s8, s9, s10, s11⟩ := hS
  obtain ⟨e0, e1, e2, e3, e4, e5, e6, e7, e8, e9, e10, e11⟩ := hE
  have HB := Lib.hid hB
  clear hB hW0 hbx
  have hne : bx ≠ w.heap.size := by omega
  generalize hqe : w.heap.size = eb at e0 e1 e2 e3 e4 e5 e6 e7 e8 e9 e10 e11 hne ⊢
  clear hqe hlt
  rcases hc with hc | ⟨hc, rfl⟩
  all_goals
    go_quiet (fail)
    go_wp2_with fail
    go_end0
    exact ⟨rfl, bd HB.out⟩
set_option maxRecDepth 100000 in
set_option maxHeartbeats 4000000 in
theorem act_none (w : World) (bx : Nat) (id au gr pa qu wh : Int) (tx : ByteArray) (fl : Value) (ed : Int) (gone : Bool) (rm : Value) (ea es : Int) (ec : Value) (ek eg et eq ew en : Int) (ex : ByteArray) (ef : Value) (ep : Int)
    (hbx : w.heap[bx]? = some (.cells (stC id au gr pa qu wh tx fl ed gone rm) 82 (0, 0))) (hg : (eg != gr) = false) (hgo : gone = false) (hk : (ek == 1) = true ∧ (ek == 2) = false ∧ (ek == 3) = false ∧ (ek == 4) = false ∧ (ea == au) = false ∨ (ek == 1) = false ∧ (ek == 2) = false ∧ (ek == 3) = false ∧ (ek == 4) = false) :
    Calls Tryz.prog 38 #[.pointer (some ⟨bx, 0, none⟩), .agg (evC ea es ec ek eg et eq ew en ex ef ep)] w fun e w' => e = .returned (.tuple #[]) ∧ Below w.heap.size w w' := by
  unfold stC at hbx
  unfold evC
  have hlt := lt_of_block hbx
  go_enter Tryz.func38, Tryz.ntmps38
  go_wp2_with fail
  obtain ⟨W0, hW0⟩ : ∃ W0, w.alloc (.cells #[.int .i64 ea, .int .i64 es, ec, .int .i64 ek, .int .i64 eg, .int .i64 et, .int .i64 eq, .int .i64 ew, .int .i64 en, .string ex, ef, .int .i64 ep] 45) = W0 := ⟨_, rfl⟩
  have hE := row12 (w := W0) (b := w.heap.size) (by rw [← hW0]; exact heap_alloc_new w _)
  have hS := row12 (w := W0) (b := bx) (by rw [← hW0]; exact (Below.heap_alloc _ _ _ hlt).trans hbx)
  have hB : Below w.heap.size w W0 := by rw [← hW0]; exact (Below.refl _ w).alloc (Nat.le_refl _) _
  rw [hW0]
  obtain ⟨s0, s1, s2, s3, s4, s5, s6, s7, s8, s9, s10, s11⟩ := hS
  obtain ⟨e0, e1, e2, e3, e4, e5, e6, e7, e8, e9, e10, e11⟩ := hE
  have HB := Lib.hid hB
  clear hB hW0 hbx
  have hne : bx ≠ w.heap.size := by omega
  generalize hqe : w.heap.size = eb at e0 e1 e2 e3 e4 e5 e6 e7 e8 e9 e10 e11 hne ⊢
  clear hqe hlt
  subst hgo
  rcases hk with ⟨k1, k2, k3, k4, ka⟩ | ⟨k1, k2, k3, k4⟩
  all_goals
    go_quiet (fail)
    go_wp2_with fail
    go_quiet (fail)
    go_wp2_with fail
    go_end0
    exact ⟨rfl, bd HB.out⟩
end Go.Proofs.YtljdbikodogeiaaGreatDoor
namespace Go.Proofs.YtljdbikodogeiaaGreatDoor
open Go.RowKit Go.MapKept
theorem setCell_row {W : World} {b i : Nat} {cs : Array Value} {T : TypeId} (h : W.heap[b]? = some (.cells cs T (0, 0))) (v : Value) : (W.setCell ⟨b, i, none⟩ v).heap[b]? = some (.cells (cs.setIfInBounds i v) T (0, 0)) := by
  simp [World.setCell, Array.getElem?_modify, h]
theorem frz {W : World} {b : Nat} {cs : Array Value} {T : TypeId} (h : W.heap[b]? = some (.cells cs T (0, 0))) (i : Nat) : W.frozen? ⟨b, i, none⟩ = false := by
  simp [World.frozen?, h]
/-- in the middle of an act: the message and the event as they stand -/
structure ActS (w : World) (bx eb : Nat) (cs es : Array Value) (W : World) : Prop where
  os : W.os = w.os
  tape : W.tape = w.tape
  output : W.output = w.output
  size : w.heap.size ≤ W.heap.size
  block : ∀ k, k < w.heap.size → k ≠ bx → W.heap[k]? = w.heap[k]?
  row : W.heap[bx]? = some (.cells cs 82 (0, 0))
  ev : W.heap[eb]? = some (.cells es 45 (0, 0))
theorem ActS.drew {w W : World} {bx eb : Nat} {cs es : Array Value} (h : ActS w bx eb cs es W) (n : Nat) : ActS w bx eb cs es (W.drewN n) := ⟨h.os, h.tape, h.output, h.size, h.block, h.row, h.ev⟩
theorem ActS.drew1 {w W : World} {bx eb : Nat} {cs es : Array Value} (h : ActS w bx eb cs es W) : ActS w bx eb cs es W.drew := ⟨h.os, h.tape, h.output, h.size, h.block, h.row, h.ev⟩
theorem ActS.set {w W : World} {bx eb : Nat} {cs es : Array Value} (h : ActS w bx eb cs es W) (hne : bx ≠ eb) (i : Nat) (v : Value) : ActS w bx eb (cs.setIfInBounds i v) es (W.setCell ⟨bx, i, none⟩ v) :=
  ⟨h.os, h.tape, h.output, by show w.heap.size ≤ (Array.modify _ _ _).size; rw [Array.size_modify]; exact h.size, fun k hk hn => (Below.heap_setCell _ _ _ _ hn).trans (h.block k hk hn), setCell_row h.row v, (Below.heap_setCell _ _ _ _ (Ne.symm hne)).trans h.ev⟩
theorem ActS.turned {w W : World} {bx eb : Nat} {cs es : Array Value} (h : ActS w bx eb cs es W) : Turned w W bx (.cells cs 82 (0, 0)) := ⟨h.os, h.tape, h.output, h.size, h.block, h.row⟩
theorem ActS.start {w : World} {bx : Nat} {cs es : Array Value} (h : w.heap[bx]? = some (.cells cs 82 (0, 0))) : ActS w bx w.heap.size cs es (w.alloc (.cells es 45)) :=
  ⟨rfl, rfl, rfl, (below_alloc w _).size, fun _k hk _ => Below.heap_alloc _ _ _ hk, (Below.heap_alloc _ _ _ (lt_of_block h)).trans h, heap_alloc_new w _⟩
theorem evs {w W : World} {bx eb : Nat} {cs : Array Value} {ea es : Int} {ec : Value} {ek eg et eq ew en : Int} {ex : ByteArray} {ef : Value} {ep : Int} (h : ActS w bx eb cs #[.int .i64 ea, .int .i64 es, ec, .int .i64 ek, .int .i64 eg, .int .i64 et, .int .i64 eq, .int .i64 ew, .int .i64 en, .string ex, ef, .int .i64 ep] W) :
    W.cell? ⟨eb, 0, none⟩ = some (.int .i64 ea) ∧ W.cell? ⟨eb, 8, none⟩ = some (.int .i64 en) ∧ W.cell? ⟨eb, 9, none⟩ = some (.string ex) ∧ W.cell? ⟨eb, 10, none⟩ = some ef := by
  refine ⟨?_, ?_, ?_, ?_⟩ <;> (rw [cell_of_row _ _ _ _ _ _ h.ev]; rfl)
set_option maxRecDepth 100000 in
set_option maxHeartbeats 4000000 in
theorem act_edit (w : World) (bx : Nat) (id au gr pa qu wh : Int) (tx : ByteArray) (fl : Value) (ed : Int) (gone : Bool) (rm : Value) (ea es : Int) (ec : Value) (ek eg et eq ew en : Int) (ex : ByteArray) (eA : Option Addr) (eN eC : Nat) (ep : Int)
    (hbx : w.heap[bx]? = some (.cells (stC id au gr pa qu wh tx fl ed gone rm) 82 (0, 0))) (hg : (eg != gr) = false) (hgo : gone = false) (k1 : (ek == 1) = true) (ka : (ea == au) = true) :
    Calls Tryz.prog 38 #[.pointer (some ⟨bx, 0, none⟩), .agg (evC ea es ec ek eg et eq ew en ex (.slice eA eN eC) ep)] w fun e w' => e = .returned (.tuple #[]) ∧ Turned w w' bx (.cells (stC id au gr pa qu wh ex (.slice eA eN eC) (RowKit.wrap64 (ed + 1)) false rm) 82 (0, 0)) := by
  subst hgo
  unfold stC at hbx
  unfold evC
  have hlt := lt_of_block hbx
  have HSI := Lib.hid (ActS.start (es := #[.int .i64 ea, .int .i64 es, ec, .int .i64 ek, .int .i64 eg, .int .i64 et, .int .i64 eq, .int .i64 ew, .int .i64 en, .string ex, (.slice eA eN eC), .int .i64 ep]) hbx)
  go_enter Tryz.func38, Tryz.ntmps38
  go_wp2_with fail
  obtain ⟨W0, hW0⟩ : ∃ W0, w.alloc (.cells #[.int .i64 ea, .int .i64 es, ec, .int .i64 ek, .int .i64 eg, .int .i64 et, .int .i64 eq, .int .i64 ew, .int .i64 en, .string ex, (.slice eA eN eC), .int .i64 ep] 45) = W0 := ⟨_, rfl⟩
  rw [hW0]
  have HSW0 := HSI
  rw [hW0] at HSW0
  clear HSI hW0 hbx
  have hne : bx ≠ w.heap.size := by omega
  generalize hqe : w.heap.size = eb at HSW0 hne ⊢
  have Hq := Lib.hid hqe
  clear hqe hlt
  obtain ⟨s0, s1, s2, s3, s4, s5, s6, s7, s8, s9, s10, s11⟩ := row12 HSW0.out.row
  obtain ⟨e0, e1, e2, e3, e4, e5, e6, e7, e8, e9, e10, e11⟩ := row12 HSW0.out.ev
  go_quiet (fail)
  obtain ⟨W1, hW1⟩ : ∃ X, W0.drewN nq = X := ⟨_, rfl⟩
  have HSW1 := Lib.hid (HSW0.out.drew nq)
  rw [hW1] at HSW1 ⊢
  clear hW1
  clear s0 s1 s2 s3 s4 s5 s6 s7 s8 s9 s10 s11 e0 e1 e2 e3 e4 e5 e6 e7 e8 e9 e10 e11
  obtain ⟨s0, s1, s2, s3, s4, s5, s6, s7, s8, s9, s10, s11⟩ := row12 HSW1.out.row
  obtain ⟨e0, e1, e2, e3, e4, e5, e6, e7, e8, e9, e10, e11⟩ := row12 HSW1.out.ev
  go_wp2_with fail
  go_quiet (fail)
  obtain ⟨W2, hW2⟩ : ∃ X, W1.drewN nq = X := ⟨_, rfl⟩
  have HSW2 := Lib.hid (HSW1.out.drew nq)
  rw [hW2] at HSW2 ⊢
  clear hW2
  clear s0 s1 s2 s3 s4 s5 s6 s7 s8 s9 s10 s11 e0 e1 e2 e3 e4 e5 e6 e7 e8 e9 e10 e11
  obtain ⟨s0, s1, s2, s3, s4, s5, s6, s7, s8, s9, s10, s11⟩ := row12 HSW2.out.row
  obtain ⟨e0, e1, e2, e3, e4, e5, e6, e7, e8, e9, e10, e11⟩ := row12 HSW2.out.ev
  have f6 := frz HSW2.out.row 6
  have f7 := frz HSW2.out.row 7
  have f8 := frz HSW2.out.row 8
  have f10 := frz HSW2.out.row 10
  have f11 := frz HSW2.out.row 11
  go_upto_region 3 with fail
  refine wp_region_held_drew (S := fun W => W.cell? ⟨eb, 9, none⟩ = some (.string ex) ∧ W.cell? ⟨eb, 10, none⟩ = some (.slice eA eN eC)) (by kernel_rfl) ?_ (fun hHeld => ?_)
  focus (exact ⟨e9, e10⟩)
  refine wpAnyH_takes (by kernel_rfl) (fun d _ _ _ _ h => by cases d <;> exact h) [0, 1, 2, 3, 4, 5, 6, 7, 8] 5 _ _ _ ?_ _ (by rfl) (by kernel_rfl) ?_ (by assumption) ?_
  rotate_left
  focus
    simp only [pick_lit, List.filterMap_cons, List.filterMap_nil, List.getElem?_cons_zero, List.getElem?_cons_succ]
    (refine Takes.want ?_ (by rfl) (fun w' hw' => ?_) ?_; rotate_left; (focus ((try dsimp only at hw'); go_simp; (first | done | with_reducible rfl))); try simp only [Act.put, List.setIfInBounds_toArray, List.set_cons_zero, List.set_cons_succ])
    (refine Takes.want ?_ (by rfl) (fun w' hw' => ?_) ?_; rotate_left; (focus ((try dsimp only at hw'); go_simp; (first | done | with_reducible rfl))); try simp only [Act.put, List.setIfInBounds_toArray, List.set_cons_zero, List.set_cons_succ])
    (refine Takes.want ?_ (by rfl) (fun w' hw' => ?_) ?_; rotate_left; (focus ((try dsimp only at hw'); go_simp; (first | done | with_reducible rfl))); try simp only [Act.put, List.setIfInBounds_toArray, List.set_cons_zero, List.set_cons_succ])
    (refine Takes.want ?_ (by rfl) (fun w' hw' => ?_) ?_; rotate_left; (focus ((try dsimp only at hw'); go_simp; (first | done | with_reducible rfl))); try simp only [Act.put, List.setIfInBounds_toArray, List.set_cons_zero, List.set_cons_succ])
    (refine Takes.want ?_ (by rfl) (fun w' hw' => ?_) ?_; rotate_left; (focus ((try dsimp only at hw'); go_simp; (first | done | with_reducible rfl))); try simp only [Act.put, List.setIfInBounds_toArray, List.set_cons_zero, List.set_cons_succ])
    (refine Takes.want ?_ (by rfl) (fun w' hw' => ?_) ?_; rotate_left; (focus ((try dsimp only at hw'); go_simp; (first | done | with_reducible rfl))); try simp only [Act.put, List.setIfInBounds_toArray, List.set_cons_zero, List.set_cons_succ])
    (refine Takes.want ?_ (by rfl) (fun w' hw' => ?_) ?_; rotate_left; (focus ((try dsimp only at hw'); go_simp; (first | done | with_reducible rfl))); try simp only [Act.put, List.setIfInBounds_toArray, List.set_cons_zero, List.set_cons_succ])
    (refine Takes.want ?_ (by rfl) (fun w' hw' => ?_) ?_; rotate_left; (focus ((try dsimp only at hw'); go_simp; (first | done | with_reducible rfl))); try simp only [Act.put, List.setIfInBounds_toArray, List.set_cons_zero, List.set_cons_succ])
    (refine Takes.want ?_ (by rfl) (fun w' hw' => ?_) ?_; rotate_left; (focus ((try dsimp only at hw'); go_simp; (first | done | with_reducible rfl))); try simp only [Act.put, List.setIfInBounds_toArray, List.set_cons_zero, List.set_cons_succ])
    exact Takes.done
  refine wpAnyH_one 9 (fuel := 4) (by kernel_rfl) (by rfl) (fun K hK => ?_)
  simp only [pick_lit, List.filterMap_cons, List.filterMap_nil, List.getElem?_cons_zero, List.getElem?_cons_succ, AtOps]
  go_simp
  refine hK.out _ _ ?_ (fun hHeld => ?_)
  focus (first | exact (let h := evs (HSW2.out.drew1.set hne _ _); ⟨h.2.2.1, h.2.2.2⟩) | exact (let h := evs ((HSW2.out.drew1.set hne _ _).set hne _ _); ⟨h.2.2.1, h.2.2.2⟩))
  clear hK K
  try simp only [Act.put, List.setIfInBounds_toArray, List.set_cons_zero, List.set_cons_succ]
  refine wpAnyH_takes (by kernel_rfl) (fun d _ _ _ _ h => by cases d <;> exact h) [10, 11, 12] 1 _ _ _ ?_ _ (by rfl) (by kernel_rfl) ?_ (by assumption) ?_
  rotate_left
  focus
    simp only [pick_lit, List.filterMap_cons, List.filterMap_nil, List.getElem?_cons_zero, List.getElem?_cons_succ]
    (refine Takes.want ?_ (by rfl) (fun w' hw' => ?_) ?_; rotate_left; (focus ((try dsimp only at hw'); go_simp; (first | done | with_reducible rfl))); try simp only [Act.put, List.setIfInBounds_toArray, List.set_cons_zero, List.set_cons_succ])
    (refine Takes.want ?_ (by rfl) (fun w' hw' => ?_) ?_; rotate_left; (focus ((try dsimp only at hw'); go_simp; (first | done | with_reducible rfl))); try simp only [Act.put, List.setIfInBounds_toArray, List.set_cons_zero, List.set_cons_succ])
    (refine Takes.want ?_ (by rfl) (fun w' hw' => ?_) ?_; rotate_left; (focus ((try dsimp only at hw'); go_simp; (first | done | with_reducible rfl))); try simp only [Act.put, List.setIfInBounds_toArray, List.set_cons_zero, List.set_cons_succ])
    exact Takes.done
  refine wpAnyH_one 13 (fuel := 0) (by kernel_rfl) (by rfl) (fun K hK => ?_)
  simp only [pick_lit, List.filterMap_cons, List.filterMap_nil, List.getElem?_cons_zero, List.getElem?_cons_succ, AtOps]
  go_simp
  refine hK.out _ _ ?_ (fun hHeld => ?_)
  focus (first | exact (let h := evs (HSW2.out.drew1.set hne _ _); ⟨h.2.2.1, h.2.2.2⟩) | exact (let h := evs ((HSW2.out.drew1.set hne _ _).set hne _ _); ⟨h.2.2.1, h.2.2.2⟩))
  clear hK K
  try simp only [Act.put, List.setIfInBounds_toArray, List.set_cons_zero, List.set_cons_succ]
  refine wpAnyH_done (by kernel_rfl) ?_ _
  clear hHeld
  clear s0 s1 s2 s3 s4 s5 s6 s7 s8 s9 s10 s11 e0 e1 e2 e3 e4 e5 e6 e7 e8 e9 e10 e11
  clear f6 f7 f8 f10 f11
  obtain ⟨W3, hW3⟩ : ∃ X, ((W2.setCell ⟨bx, 6, none⟩ (.string ex)).setCell ⟨bx, 7, none⟩ (.slice eA eN eC)).drew = X := ⟨_, rfl⟩
  have HSW3 : Hid (ActS w bx eb #[.int .i64 id, .int .i64 au, .int .i64 gr, .int .i64 pa, .int .i64 qu, .int .i64 wh, .string ex, .slice eA eN eC, .int .i64 ed, .slice none 0 0, .bool false, rm] _ _) := Lib.hid ((HSW2.out.set hne 6 (.string ex)).set hne 7 (.slice eA eN eC)).drew1
  rw [hW3] at HSW3 ⊢
  obtain ⟨s0, s1, s2, s3, s4, s5, s6, s7, s8, s9, s10, s11⟩ := row12 HSW3.out.row
  obtain ⟨e0, e1, e2, e3, e4, e5, e6, e7, e8, e9, e10, e11⟩ := row12 HSW3.out.ev
  have f8 := frz HSW3.out.row 8
  go_wp2_with fail
  go_end0
  have hF := (HSW3.out.set hne 8 (.int .i64 (RowKit.wrap64 (ed + 1)))).turned
  exact ⟨rfl, hF⟩
set_option maxRecDepth 100000 in
set_option maxHeartbeats 4000000 in
theorem act_delete (w : World) (bx : Nat) (id au gr pa qu wh : Int) (tx : ByteArray) (fl : Value) (ed : Int) (gone : Bool) (rm : Value) (ea es : Int) (ec : Value) (ek eg et eq ew en : Int) (ex : ByteArray) (ef : Value) (ep : Int)
    (hbx : w.heap[bx]? = some (.cells (stC id au gr pa qu wh tx fl ed gone rm) 82 (0, 0))) (hg : (eg != gr) = false) (hgo : gone = false) (k1 : (ek == 1) = false) (k2 : (ek == 2) = true) :
    Calls Tryz.prog 38 #[.pointer (some ⟨bx, 0, none⟩), .agg (evC ea es ec ek eg et eq ew en ex ef ep)] w fun e w' => e = .returned (.tuple #[]) ∧ Turned w w' bx (.cells (stC id au gr pa qu wh ⟨#[]⟩ (.slice none 0 0) 0 true (.map none)) 82 (0, 0)) := by
  subst hgo
  unfold stC at hbx
  unfold evC
  have hlt := lt_of_block hbx
  have HSI := Lib.hid (ActS.start (es := #[.int .i64 ea, .int .i64 es, ec, .int .i64 ek, .int .i64 eg, .int .i64 et, .int .i64 eq, .int .i64 ew, .int .i64 en, .string ex, ef, .int .i64 ep]) hbx)
  go_enter Tryz.func38, Tryz.ntmps38
  go_wp2_with fail
  obtain ⟨W0, hW0⟩ : ∃ W0, w.alloc (.cells #[.int .i64 ea, .int .i64 es, ec, .int .i64 ek, .int .i64 eg, .int .i64 et, .int .i64 eq, .int .i64 ew, .int .i64 en, .string ex, ef, .int .i64 ep] 45) = W0 := ⟨_, rfl⟩
  rw [hW0]
  have HSW0 := HSI
  rw [hW0] at HSW0
  clear HSI hW0 hbx
  have hne : bx ≠ w.heap.size := by omega
  generalize hqe : w.heap.size = eb at HSW0 hne ⊢
  have Hq := Lib.hid hqe
  clear hqe hlt
  obtain ⟨s0, s1, s2, s3, s4, s5, s6, s7, s8, s9, s10, s11⟩ := row12 HSW0.out.row
  obtain ⟨e0, e1, e2, e3, e4, e5, e6, e7, e8, e9, e10, e11⟩ := row12 HSW0.out.ev
  go_quiet (fail)
  obtain ⟨W1, hW1⟩ : ∃ X, W0.drewN nq = X := ⟨_, rfl⟩
  have HSW1 := Lib.hid (HSW0.out.drew nq)
  rw [hW1] at HSW1 ⊢
  clear hW1
  clear s0 s1 s2 s3 s4 s5 s6 s7 s8 s9 s10 s11 e0 e1 e2 e3 e4 e5 e6 e7 e8 e9 e10 e11
  obtain ⟨s0, s1, s2, s3, s4, s5, s6, s7, s8, s9, s10, s11⟩ := row12 HSW1.out.row
  obtain ⟨e0, e1, e2, e3, e4, e5, e6, e7, e8, e9, e10, e11⟩ := row12 HSW1.out.ev
  go_wp2_with fail
  go_quiet (fail)
  obtain ⟨W2, hW2⟩ : ∃ X, W1.drewN nq = X := ⟨_, rfl⟩
  have HSW2 := Lib.hid (HSW1.out.drew nq)
  rw [hW2] at HSW2 ⊢
  clear hW2
  clear s0 s1 s2 s3 s4 s5 s6 s7 s8 s9 s10 s11 e0 e1 e2 e3 e4 e5 e6 e7 e8 e9 e10 e11
  obtain ⟨s0, s1, s2, s3, s4, s5, s6, s7, s8, s9, s10, s11⟩ := row12 HSW2.out.row
  obtain ⟨e0, e1, e2, e3, e4, e5, e6, e7, e8, e9, e10, e11⟩ := row12 HSW2.out.ev
  have f6 := frz HSW2.out.row 6
  have f7 := frz HSW2.out.row 7
  have f8 := frz HSW2.out.row 8
  have f10 := frz HSW2.out.row 10
  have f11 := frz HSW2.out.row 11
  go_wp2_with fail
  go_end0
  have hF := (((((HSW2.out.set hne 10 (.bool true)).set hne 6 (.string ⟨#[]⟩)).set hne 7 (.slice none 0 0)).set hne 8 (.int .i64 0)).set hne 11 (.map none)).turned
  exact ⟨rfl, hF⟩
set_option maxRecDepth 100000 in
set_option maxHeartbeats 4000000 in
theorem act_react (w : World) (bx : Nat) (id au gr pa qu wh : Int) (tx : ByteArray) (fl : Value) (ed : Int) (gone : Bool) (rb : Nat) (ea es : Int) (ec : Value) (ek eg et eq ew en : Int) (ex : ByteArray) (ef : Value) (ep : Int) (ents : Array MapEntry) (clock : Nat) (l : List Pr)
    (hbx : w.heap[bx]? = some (.cells (stC id au gr pa qu wh tx fl ed gone (.map (some rb))) 82 (0, 0))) (hrb : w.heap[rb]? = some (.map ents clock)) (hst : Stamped ents clock) (hk : KeysAre ents l) (hin : ∀ x ∈ l, inR x) (hx : inR (ea, en))
    (hg : (eg != gr) = false) (hgo : gone = false) (k1 : (ek == 1) = false) (k2 : (ek == 2) = false) (k3 : (ek == 3) = true) :
    Calls Tryz.prog 38 #[.pointer (some ⟨bx, 0, none⟩), .agg (evC ea es ec ek eg et eq ew en ex ef ep)] w fun e w' => e = .returned (.tuple #[]) ∧ ∃ es' clock', Turned w w' rb (.map es' clock') ∧ Stamped es' clock' ∧ KeysAre es' (putP l (ea, en)) := by
  subst hgo
  have HRB := Lib.hid hrb
  have HBX := Lib.hid hbx
  have hEB : w.heap.size ≠ rb := by have := lt_of_block hrb; omega
  have HEB0 := Lib.hid hEB
  clear hEB
  have HST := Lib.hid hst
  have HK := Lib.hid hk
  have HIN := Lib.hid hin
  have HX := Lib.hid hx
  have hlr := lt_of_block hrb
  have hnb : bx ≠ rb := fun e => by rw [e] at hbx; rw [hbx] at hrb; cases hrb
  have HLR := Lib.hid hlr
  have HNB := Lib.hid hnb
  clear hrb hst hk hin hx hlr hnb
  unfold stC at hbx
  unfold evC
  have hlt := lt_of_block hbx
  have HSI := Lib.hid (ActS.start (es := #[.int .i64 ea, .int .i64 es, ec, .int .i64 ek, .int .i64 eg, .int .i64 et, .int .i64 eq, .int .i64 ew, .int .i64 en, .string ex, ef, .int .i64 ep]) hbx)
  go_enter Tryz.func38, Tryz.ntmps38
  go_wp2_with fail
  obtain ⟨W0, hW0⟩ : ∃ W0, w.alloc (.cells #[.int .i64 ea, .int .i64 es, ec, .int .i64 ek, .int .i64 eg, .int .i64 et, .int .i64 eq, .int .i64 ew, .int .i64 en, .string ex, ef, .int .i64 ep] 45) = W0 := ⟨_, rfl⟩
  rw [hW0]
  have HSW0 := HSI
  rw [hW0] at HSW0
  clear HSI hW0 hbx
  have hne : bx ≠ w.heap.size := by omega
  generalize hqe : w.heap.size = eb at HSW0 hne ⊢
  have Hq := Lib.hid hqe
  clear hqe hlt
  have HEB : Hid (eb ≠ rb) := Lib.hid (by rw [← Hq.out]; exact HEB0.out)
  obtain ⟨s0, s1, s2, s3, s4, s5, s6, s7, s8, s9, s10, s11⟩ := row12 HSW0.out.row
  obtain ⟨e0, e1, e2, e3, e4, e5, e6, e7, e8, e9, e10, e11⟩ := row12 HSW0.out.ev
  go_quiet (fail)
  obtain ⟨W1, hW1⟩ : ∃ X, W0.drewN nq = X := ⟨_, rfl⟩
  have HSW1 := Lib.hid (HSW0.out.drew nq)
  rw [hW1] at HSW1 ⊢
  clear hW1
  clear s0 s1 s2 s3 s4 s5 s6 s7 s8 s9 s10 s11 e0 e1 e2 e3 e4 e5 e6 e7 e8 e9 e10 e11
  obtain ⟨s0, s1, s2, s3, s4, s5, s6, s7, s8, s9, s10, s11⟩ := row12 HSW1.out.row
  obtain ⟨e0, e1, e2, e3, e4, e5, e6, e7, e8, e9, e10, e11⟩ := row12 HSW1.out.ev
  go_wp2_with fail
  go_quiet (fail)
  obtain ⟨W2, hW2⟩ : ∃ X, W1.drewN nq = X := ⟨_, rfl⟩
  have HSW2 := Lib.hid (HSW1.out.drew nq)
  rw [hW2] at HSW2 ⊢
  clear hW2
  clear s0 s1 s2 s3 s4 s5 s6 s7 s8 s9 s10 s11 e0 e1 e2 e3 e4 e5 e6 e7 e8 e9 e10 e11
  obtain ⟨s0, s1, s2, s3, s4, s5, s6, s7, s8, s9, s10, s11⟩ := row12 HSW2.out.row
  obtain ⟨e0, e1, e2, e3, e4, e5, e6, e7, e8, e9, e10, e11⟩ := row12 HSW2.out.ev
  go_upto_region 8 with fail
  have hW2 : W2.heap[rb]? = some (.map ents clock) := (HSW2.out.block rb HLR.out (Ne.symm HNB.out)).trans HRB.out
  obtain ⟨es', clock', hrun, hst', hk'⟩ := run_mupd W2.drew rb ents clock l (ea, en) (.bool true) hW2 HST.out HK.out HIN.out HX.out
  obtain ⟨W3, hW3⟩ : ∃ X : World, { W2.drew with heap := W2.drew.heap.setIfInBounds rb (.map es' clock') } = X := ⟨_, rfl⟩
  rw [hW3] at hrun
  simp only [pairV] at hrun
  have hH : ∀ k, k ≠ rb → W3.heap[k]? = W2.heap[k]? := fun k hk => by
    rw [← hW3]
    show (W2.heap.setIfInBounds rb _)[k]? = _
    rw [Array.getElem?_setIfInBounds, if_neg (Ne.symm hk)]
  have hR : W3.heap[rb]? = some (.map es' clock') := by
    rw [← hW3]
    show (W2.heap.setIfInBounds rb _)[rb]? = _
    rw [Array.getElem?_setIfInBounds, if_pos rfl, if_pos (lt_of_block hW2)]
  have hbx2 := HBX.out
  unfold stC at hbx2
  have hT : Turned w W3 rb (.map es' clock') := ⟨by rw [← hW3]; exact HSW2.out.os, by rw [← hW3]; exact HSW2.out.tape, by rw [← hW3]; exact HSW2.out.output, by rw [← hW3]; show _ ≤ (Array.setIfInBounds _ _ _).size; rw [Array.size_setIfInBounds]; exact HSW2.out.size,
    fun k hk hn => (hH k hn).trans (by
      by_cases hkb : k = bx
      · rw [hkb, HSW2.out.row, hbx2]
      · exact HSW2.out.block k hk hkb), hR⟩
  have hkeep : W3.cell? ⟨bx, 11, none⟩ = some (.map (some rb)) ∧ W3.cell? ⟨eb, 0, none⟩ = some (.int .i64 ea) ∧ W3.cell? ⟨eb, 8, none⟩ = some (.int .i64 en) := by
    refine ⟨?_, ?_, ?_⟩
    · rw [World.cell?_of_block (w := W2) (hH bx HNB.out)]; exact s11
    · rw [World.cell?_of_block (w := W2) (hH eb HEB.out)]; exact e0
    · rw [World.cell?_of_block (w := W2) (hH eb HEB.out)]; exact e8
  have HT := Lib.hid hT
  have HKP := Lib.hid hkeep
  have HST' := Lib.hid hst'
  have HK' := Lib.hid hk'
  clear hst' hk' hW2 hH hR hT hkeep hW3 hbx2
  refine wp_region_held_drew (S := fun W => W.cell? ⟨bx, 11, none⟩ = some (.map (some rb)) ∧ W.cell? ⟨eb, 0, none⟩ = some (.int .i64 ea) ∧ W.cell? ⟨eb, 8, none⟩ = some (.int .i64 en)) (by kernel_rfl) ?_ (fun hHeld => ?_)
  focus (exact ⟨s11, e0, e8⟩)
  refine wpAnyH_takes (by kernel_rfl) (fun d _ _ _ _ h => by cases d <;> exact h) [0, 1, 2, 3, 4, 5, 6, 7, 8] 1 _ _ _ ?_ _ (by rfl) (by kernel_rfl) ?_ (by assumption) ?_
  rotate_left
  focus
    simp only [pick_lit, List.filterMap_cons, List.filterMap_nil, List.getElem?_cons_zero, List.getElem?_cons_succ]
    (refine Takes.want ?_ (by rfl) (fun w' hw' => ?_) ?_; rotate_left; (focus ((try dsimp only at hw'); go_simp; (first | done | with_reducible rfl))); try simp only [Act.put, List.setIfInBounds_toArray, List.set_cons_zero, List.set_cons_succ])
    (refine Takes.want ?_ (by rfl) (fun w' hw' => ?_) ?_; rotate_left; (focus ((try dsimp only at hw'); go_simp; (first | done | with_reducible rfl))); try simp only [Act.put, List.setIfInBounds_toArray, List.set_cons_zero, List.set_cons_succ])
    (refine Takes.want ?_ (by rfl) (fun w' hw' => ?_) ?_; rotate_left; (focus ((try dsimp only at hw'); go_simp; (first | done | with_reducible rfl))); try simp only [Act.put, List.setIfInBounds_toArray, List.set_cons_zero, List.set_cons_succ])
    (refine Takes.want ?_ (by rfl) (fun w' hw' => ?_) ?_; rotate_left; (focus ((try dsimp only at hw'); go_simp; (first | done | with_reducible rfl))); try simp only [Act.put, List.setIfInBounds_toArray, List.set_cons_zero, List.set_cons_succ])
    (refine Takes.want ?_ (by rfl) (fun w' hw' => ?_) ?_; rotate_left; (focus ((try dsimp only at hw'); go_simp; (first | done | with_reducible rfl))); try simp only [Act.put, List.setIfInBounds_toArray, List.set_cons_zero, List.set_cons_succ])
    (refine Takes.want ?_ (by rfl) (fun w' hw' => ?_) ?_; rotate_left; (focus ((try dsimp only at hw'); go_simp; (first | done | with_reducible rfl))); try simp only [Act.put, List.setIfInBounds_toArray, List.set_cons_zero, List.set_cons_succ])
    (refine Takes.want ?_ (by rfl) (fun w' hw' => ?_) ?_; rotate_left; (focus ((try dsimp only at hw'); go_simp; (first | done | with_reducible rfl))); try simp only [Act.put, List.setIfInBounds_toArray, List.set_cons_zero, List.set_cons_succ])
    (refine Takes.want ?_ (by rfl) (fun w' hw' => ?_) ?_; rotate_left; (focus ((try dsimp only at hw'); go_simp; (first | done | with_reducible rfl))); try simp only [Act.put, List.setIfInBounds_toArray, List.set_cons_zero, List.set_cons_succ])
    (refine Takes.want ?_ (by rfl) (fun w' hw' => ?_) ?_; rotate_left; (focus ((try dsimp only at hw'); go_simp; (first | done | with_reducible rfl))); try simp only [Act.put, List.setIfInBounds_toArray, List.set_cons_zero, List.set_cons_succ])
    exact Takes.done
  refine wpAnyH_one 9 (fuel := 0) (by kernel_rfl) (by rfl) (fun K hK => ?_)
  simp only [pick_lit, List.filterMap_cons, List.filterMap_nil, List.getElem?_cons_zero, List.getElem?_cons_succ, AtOps]
  go_simp
  refine hK.out _ _ ?_ (fun hHeld => ?_)
  focus (exact HKP.out)
  clear hK K
  try simp only [Act.put, List.setIfInBounds_toArray, List.set_cons_zero, List.set_cons_succ]
  refine wpAnyH_done (by kernel_rfl) ?_ _
  clear hHeld
  go_wp2_with fail
  go_end0
  exact ⟨rfl, es', clock', HT.out, HST'.out, HK'.out⟩
set_option maxRecDepth 100000 in
set_option maxHeartbeats 4000000 in
theorem act_unreact (w : World) (bx : Nat) (id au gr pa qu wh : Int) (tx : ByteArray) (fl : Value) (ed : Int) (gone : Bool) (rb : Nat) (ea es : Int) (ec : Value) (ek eg et eq ew en : Int) (ex : ByteArray) (ef : Value) (ep : Int) (ents : Array MapEntry) (clock : Nat) (l : List Pr)
    (hbx : w.heap[bx]? = some (.cells (stC id au gr pa qu wh tx fl ed gone (.map (some rb))) 82 (0, 0))) (hrb : w.heap[rb]? = some (.map ents clock)) (hst : Stamped ents clock) (hk : KeysAre ents l) (hin : ∀ x ∈ l, inR x) (hx : inR (ea, en))
    (hg : (eg != gr) = false) (hgo : gone = false) (k1 : (ek == 1) = false) (k2 : (ek == 2) = false) (k3 : (ek == 3) = false) (k4 : (ek == 4) = true) :
    Calls Tryz.prog 38 #[.pointer (some ⟨bx, 0, none⟩), .agg (evC ea es ec ek eg et eq ew en ex ef ep)] w fun e w' => e = .returned (.tuple #[]) ∧ ∃ es' clock', Turned w w' rb (.map es' clock') ∧ Stamped es' clock' ∧ KeysAre es' (l.erase (ea, en)) := by
  subst hgo
  have HRB := Lib.hid hrb
  have HBX := Lib.hid hbx
  have hEB : w.heap.size ≠ rb := by have := lt_of_block hrb; omega
  have HEB0 := Lib.hid hEB
  clear hEB
  have HST := Lib.hid hst
  have HK := Lib.hid hk
  have HIN := Lib.hid hin
  have HX := Lib.hid hx
  have hlr := lt_of_block hrb
  have hnb : bx ≠ rb := fun e => by rw [e] at hbx; rw [hbx] at hrb; cases hrb
  have HLR := Lib.hid hlr
  have HNB := Lib.hid hnb
  clear hrb hst hk hin hx hlr hnb
  unfold stC at hbx
  unfold evC
  have hlt := lt_of_block hbx
  have HSI := Lib.hid (ActS.start (es := #[.int .i64 ea, .int .i64 es, ec, .int .i64 ek, .int .i64 eg, .int .i64 et, .int .i64 eq, .int .i64 ew, .int .i64 en, .string ex, ef, .int .i64 ep]) hbx)
  go_enter Tryz.func38, Tryz.ntmps38
  go_wp2_with fail
  obtain ⟨W0, hW0⟩ : ∃ W0, w.alloc (.cells #[.int .i64 ea, .int .i64 es, ec, .int .i64 ek, .int .i64 eg, .int .i64 et, .int .i64 eq, .int .i64 ew, .int .i64 en, .string ex, ef, .int .i64 ep] 45) = W0 := ⟨_, rfl⟩
  rw [hW0]
  have HSW0 := HSI
  rw [hW0] at HSW0
  clear HSI hW0 hbx
  have hne : bx ≠ w.heap.size := by omega
  generalize hqe : w.heap.size = eb at HSW0 hne ⊢
  have Hq := Lib.hid hqe
  clear hqe hlt
  have HEB : Hid (eb ≠ rb) := Lib.hid (by rw [← Hq.out]; exact HEB0.out)
  obtain ⟨s0, s1, s2, s3, s4, s5, s6, s7, s8, s9, s10, s11⟩ := row12 HSW0.out.row
  obtain ⟨e0, e1, e2, e3, e4, e5, e6, e7, e8, e9, e10, e11⟩ := row12 HSW0.out.ev
  go_quiet (fail)
  obtain ⟨W1, hW1⟩ : ∃ X, W0.drewN nq = X := ⟨_, rfl⟩
  have HSW1 := Lib.hid (HSW0.out.drew nq)
  rw [hW1] at HSW1 ⊢
  clear hW1
  clear s0 s1 s2 s3 s4 s5 s6 s7 s8 s9 s10 s11 e0 e1 e2 e3 e4 e5 e6 e7 e8 e9 e10 e11
  obtain ⟨s0, s1, s2, s3, s4, s5, s6, s7, s8, s9, s10, s11⟩ := row12 HSW1.out.row
  obtain ⟨e0, e1, e2, e3, e4, e5, e6, e7, e8, e9, e10, e11⟩ := row12 HSW1.out.ev
  go_wp2_with fail
  go_quiet (fail)
  obtain ⟨W2, hW2⟩ : ∃ X, W1.drewN nq = X := ⟨_, rfl⟩
  have HSW2 := Lib.hid (HSW1.out.drew nq)
  rw [hW2] at HSW2 ⊢
  clear hW2
  clear s0 s1 s2 s3 s4 s5 s6 s7 s8 s9 s10 s11 e0 e1 e2 e3 e4 e5 e6 e7 e8 e9 e10 e11
  obtain ⟨s0, s1, s2, s3, s4, s5, s6, s7, s8, s9, s10, s11⟩ := row12 HSW2.out.row
  obtain ⟨e0, e1, e2, e3, e4, e5, e6, e7, e8, e9, e10, e11⟩ := row12 HSW2.out.ev
  go_upto_region 10 with fail
  have hW2 : W2.heap[rb]? = some (.map ents clock) := (HSW2.out.block rb HLR.out (Ne.symm HNB.out)).trans HRB.out
  obtain ⟨es', clock', hrun, hst', hk'⟩ := run_mdel W2.drew rb ents clock l (ea, en) 0 hW2 HST.out HK.out HIN.out HX.out
  obtain ⟨W3, hW3⟩ : ∃ X : World, { W2.drew with heap := W2.drew.heap.setIfInBounds rb (.map es' clock') } = X := ⟨_, rfl⟩
  rw [hW3] at hrun
  simp only [pairV] at hrun
  have hH : ∀ k, k ≠ rb → W3.heap[k]? = W2.heap[k]? := fun k hk => by
    rw [← hW3]
    show (W2.heap.setIfInBounds rb _)[k]? = _
    rw [Array.getElem?_setIfInBounds, if_neg (Ne.symm hk)]
  have hR : W3.heap[rb]? = some (.map es' clock') := by
    rw [← hW3]
    show (W2.heap.setIfInBounds rb _)[rb]? = _
    rw [Array.getElem?_setIfInBounds, if_pos rfl, if_pos (lt_of_block hW2)]
  have hbx2 := HBX.out
  unfold stC at hbx2
  have hT : Turned w W3 rb (.map es' clock') := ⟨by rw [← hW3]; exact HSW2.out.os, by rw [← hW3]; exact HSW2.out.tape, by rw [← hW3]; exact HSW2.out.output, by rw [← hW3]; show _ ≤ (Array.setIfInBounds _ _ _).size; rw [Array.size_setIfInBounds]; exact HSW2.out.size,
    fun k hk hn => (hH k hn).trans (by
      by_cases hkb : k = bx
      · rw [hkb, HSW2.out.row, hbx2]
      · exact HSW2.out.block k hk hkb), hR⟩
  have hkeep : W3.cell? ⟨bx, 11, none⟩ = some (.map (some rb)) ∧ W3.cell? ⟨eb, 0, none⟩ = some (.int .i64 ea) ∧ W3.cell? ⟨eb, 8, none⟩ = some (.int .i64 en) := by
    refine ⟨?_, ?_, ?_⟩
    · rw [World.cell?_of_block (w := W2) (hH bx HNB.out)]; exact s11
    · rw [World.cell?_of_block (w := W2) (hH eb HEB.out)]; exact e0
    · rw [World.cell?_of_block (w := W2) (hH eb HEB.out)]; exact e8
  have HT := Lib.hid hT
  have HKP := Lib.hid hkeep
  have HST' := Lib.hid hst'
  have HK' := Lib.hid hk'
  clear hst' hk' hW2 hH hR hT hkeep hW3 hbx2
  refine wp_region_held_drew (S := fun W => W.cell? ⟨bx, 11, none⟩ = some (.map (some rb)) ∧ W.cell? ⟨eb, 0, none⟩ = some (.int .i64 ea) ∧ W.cell? ⟨eb, 8, none⟩ = some (.int .i64 en)) (by kernel_rfl) ?_ (fun hHeld => ?_)
  focus (exact ⟨s11, e0, e8⟩)
  refine wpAnyH_takes (by kernel_rfl) (fun d _ _ _ _ h => by cases d <;> exact h) [0, 1, 2, 3, 4, 5, 6, 7, 8] 1 _ _ _ ?_ _ (by rfl) (by kernel_rfl) ?_ (by assumption) ?_
  rotate_left
  focus
    simp only [pick_lit, List.filterMap_cons, List.filterMap_nil, List.getElem?_cons_zero, List.getElem?_cons_succ]
    (refine Takes.want ?_ (by rfl) (fun w' hw' => ?_) ?_; rotate_left; (focus ((try dsimp only at hw'); go_simp; (first | done | with_reducible rfl))); try simp only [Act.put, List.setIfInBounds_toArray, List.set_cons_zero, List.set_cons_succ])
    (refine Takes.want ?_ (by rfl) (fun w' hw' => ?_) ?_; rotate_left; (focus ((try dsimp only at hw'); go_simp; (first | done | with_reducible rfl))); try simp only [Act.put, List.setIfInBounds_toArray, List.set_cons_zero, List.set_cons_succ])
    (refine Takes.want ?_ (by rfl) (fun w' hw' => ?_) ?_; rotate_left; (focus ((try dsimp only at hw'); go_simp; (first | done | with_reducible rfl))); try simp only [Act.put, List.setIfInBounds_toArray, List.set_cons_zero, List.set_cons_succ])
    (refine Takes.want ?_ (by rfl) (fun w' hw' => ?_) ?_; rotate_left; (focus ((try dsimp only at hw'); go_simp; (first | done | with_reducible rfl))); try simp only [Act.put, List.setIfInBounds_toArray, List.set_cons_zero, List.set_cons_succ])
    (refine Takes.want ?_ (by rfl) (fun w' hw' => ?_) ?_; rotate_left; (focus ((try dsimp only at hw'); go_simp; (first | done | with_reducible rfl))); try simp only [Act.put, List.setIfInBounds_toArray, List.set_cons_zero, List.set_cons_succ])
    (refine Takes.want ?_ (by rfl) (fun w' hw' => ?_) ?_; rotate_left; (focus ((try dsimp only at hw'); go_simp; (first | done | with_reducible rfl))); try simp only [Act.put, List.setIfInBounds_toArray, List.set_cons_zero, List.set_cons_succ])
    (refine Takes.want ?_ (by rfl) (fun w' hw' => ?_) ?_; rotate_left; (focus ((try dsimp only at hw'); go_simp; (first | done | with_reducible rfl))); try simp only [Act.put, List.setIfInBounds_toArray, List.set_cons_zero, List.set_cons_succ])
    (refine Takes.want ?_ (by rfl) (fun w' hw' => ?_) ?_; rotate_left; (focus ((try dsimp only at hw'); go_simp; (first | done | with_reducible rfl))); try simp only [Act.put, List.setIfInBounds_toArray, List.set_cons_zero, List.set_cons_succ])
    (refine Takes.want ?_ (by rfl) (fun w' hw' => ?_) ?_; rotate_left; (focus ((try dsimp only at hw'); go_simp; (first | done | with_reducible rfl))); try simp only [Act.put, List.setIfInBounds_toArray, List.set_cons_zero, List.set_cons_succ])
    exact Takes.done
  refine wpAnyH_one 9 (fuel := 0) (by kernel_rfl) (by rfl) (fun K hK => ?_)
  simp only [pick_lit, List.filterMap_cons, List.filterMap_nil, List.getElem?_cons_zero, List.getElem?_cons_succ, AtOps]
  go_simp
  refine hK.out _ _ ?_ (fun hHeld => ?_)
  focus (exact HKP.out)
  clear hK K
  try simp only [Act.put, List.setIfInBounds_toArray, List.set_cons_zero, List.set_cons_succ]
  refine wpAnyH_done (by kernel_rfl) ?_ _
  clear hHeld
  go_wp2_with fail
  go_end0
  exact ⟨rfl, es', clock', HT.out, HST'.out, HK'.out⟩
end Go.Proofs.YtljdbikodogeiaaGreatDoor
namespace Go.Proofs.YtljdbikodogeiaaGreatDoor
open Go.RowKit Go.MapKept
/-- the map at a block, as a list -/
def IMap (W : World) (r : Nat) (l : List (Int × Value)) : Prop := ∃ ents clock, W.heap[r]? = some (.map ents clock) ∧ Stamped ents clock ∧ ents.toList.map (fun e => (e.key, e.val)) = l.map fun p => (Value.int .i64 p.1, p.2)
theorem IMap.of_block {W W' : World} {r : Nat} {l : List (Int × Value)} (h : IMap W r l) (hb : W'.heap[r]? = W.heap[r]?) : IMap W' r l := by
  obtain ⟨e, c, h1, h2⟩ := h
  exact ⟨e, c, hb.trans h1, h2⟩
theorem IMap.lt {W : World} {r : Nat} {l : List (Int × Value)} (h : IMap W r l) : r < W.heap.size := by
  obtain ⟨e, c, h1, _⟩ := h
  exact lt_of_block h1
theorem imap_ent {ents : Array MapEntry} {l : List (Int × Value)} (h : ents.toList.map (fun e => (e.key, e.val)) = l.map fun p => (Value.int .i64 p.1, p.2)) {j : Nat} {e : MapEntry} (he : ents.toList[j]? = some e) : ∃ p, l[j]? = some p ∧ e.key = .int .i64 p.1 ∧ e.val = p.2 := by
  have h1 : (ents.toList.map fun e => (e.key, e.val))[j]? = some (e.key, e.val) := by rw [List.getElem?_map, he]; rfl
  rw [h, List.getElem?_map] at h1
  cases hq : l[j]? with
  | none => rw [hq] at h1; cases h1
  | some p =>
    rw [hq] at h1
    injection h1 with h1
    injection h1 with h1 h2
    exact ⟨p, rfl, h1.symm, h2.symm⟩
theorem imap_key {ents : Array MapEntry} {l : List (Int × Value)} (h : ents.toList.map (fun e => (e.key, e.val)) = l.map fun p => (Value.int .i64 p.1, p.2)) : ∀ x ∈ ents.toList, IsKey (.int .i64) x.key := fun x hx => by
  obtain ⟨j, hj⟩ := List.getElem?_of_mem hx
  obtain ⟨p, _, h1, _⟩ := imap_ent h hj
  rw [h1]
  rfl
theorem imap_mem {ents : Array MapEntry} {l : List (Int × Value)} (h : ents.toList.map (fun e => (e.key, e.val)) = l.map fun p => (Value.int .i64 p.1, p.2)) {p : Int × Value} (hp : p ∈ l) : ∃ e ∈ ents.toList, e.key = .int .i64 p.1 ∧ e.val = p.2 := by
  have h1 : (Value.int .i64 p.1, p.2) ∈ l.map fun p => (Value.int .i64 p.1, p.2) := List.mem_map_of_mem hp
  rw [← h] at h1
  obtain ⟨e, he, h2⟩ := List.mem_map.1 h1
  injection h2 with h2 h3
  exact ⟨e, he, h2, h3⟩
section
variable {P : Program} {W : World} {mt kt et : TypeId} {r : Nat} {l : List (Int × Value)}
theorem IMap.get (hm : P.underlying mt = some (.map kt et)) (hk : P.underlying kt = some (.int .i64)) (h : IMap W r l) {k : Int} {v : Value} (hl : (k, v) ∈ l) (hn : (l.map Prod.fst).Nodup) (ok : Bool) :
    (Instr.lookup mt (.map (some r)) (.int .i64 k) ok).run P W = .ok (if ok then .tuple #[v, .bool true] else v) W := by
  obtain ⟨ents, clock, hb, hst, he⟩ := h
  have hik : IsKey (.int .i64) (.int .i64 k) := rfl
  rcases findNow_spec hik ents.toList 0 (imap_key he) with ⟨_, h2⟩ | ⟨j, e, h1, h2, h3⟩
  · obtain ⟨e, hem, h4, _⟩ := imap_mem he hl
    exact absurd h4 (h2 e hem)
  · obtain ⟨p, hp, hp1, hp2⟩ := imap_ent he h2
    have hpe : p = (k, v) := by
      rw [h3] at hp1
      injection hp1 with _ hp1
      obtain ⟨i, hi⟩ := List.getElem?_of_mem hl
      have g1 : (l.map Prod.fst)[j]? = some k := by rw [List.getElem?_map, hp, hp1]; rfl
      have g2 : (l.map Prod.fst)[i]? = some k := by rw [List.getElem?_map, hi]; rfl
      have hij : j = i := (List.getElem?_inj (List.getElem?_eq_some_iff.1 g1).1 hn).1 (g1.trans g2.symm)
      subst hij
      rw [hp] at hi
      injection hi
    have hv : e.val = v := by rw [hp2, hpe]
    simp [Instr.lookup, run_underlying hm, MapKept.run_getObj_map hb, MapKept.run_checkKey hk hik, MapKept.run_findKey hk h1, Result.andThen, hv]
theorem IMap.get_none (hm : P.underlying mt = some (.map kt et)) (hk : P.underlying kt = some (.int .i64)) {ei : TypeInfo} {z : Value} (hei : P.info? et = some ei) (hez : ei.zero = some z) (h : IMap W r l) {k : Int} (hl : k ∉ l.map Prod.fst) (ok : Bool) :
    (Instr.lookup mt (.map (some r)) (.int .i64 k) ok).run P W = .ok (if ok then .tuple #[z, .bool false] else z) W := by
  obtain ⟨ents, clock, hb, hst, he⟩ := h
  have hik : IsKey (.int .i64) (.int .i64 k) := rfl
  rcases findNow_spec hik ents.toList 0 (imap_key he) with ⟨h1, _⟩ | ⟨j, e, h1, h2, h3⟩
  · simp [Instr.lookup, run_underlying hm, MapKept.run_getObj_map hb, MapKept.run_checkKey hk hik, MapKept.run_findKey hk h1, zeroValue, typeInfo, hei, hez, Result.andThen]
  · obtain ⟨p, hp, hp1, _⟩ := imap_ent he h2
    rw [h3] at hp1
    injection hp1 with _ hp1
    exact absurd (List.mem_map.2 ⟨p, List.mem_of_getElem? hp, hp1.symm⟩) hl
theorem IMap.put_new (hm : P.underlying mt = some (.map kt et)) (hk : P.underlying kt = some (.int .i64)) (h : IMap W r l) {k : Int} (hl : k ∉ l.map Prod.fst) (v : Value) :
    ∃ W', (Instr.mapUpdate mt (.map (some r)) (.int .i64 k) v).run P W = .ok () W' ∧ IMap W' r (l ++ [(k, v)]) ∧ (∀ b, b ≠ r → W'.heap[b]? = W.heap[b]?) ∧ W'.heap.size = W.heap.size ∧ W'.os = W.os ∧ W'.tape = W.tape ∧ W'.output = W.output ∧ W'.drawn = W.drawn := by
  obtain ⟨ents, clock, hb, hst, he⟩ := h
  have hik : IsKey (.int .i64) (.int .i64 k) := rfl
  rcases findNow_spec hik ents.toList 0 (imap_key he) with ⟨h1, h2⟩ | ⟨j, e, h1, h2, h3⟩
  · have hset := heap_set (o' := .map (ents.push ⟨.int .i64 k, v, clock⟩) (clock + 1)) hb
    refine ⟨{ W with heap := W.heap.setIfInBounds r (.map (ents.push ⟨.int .i64 k, v, clock⟩) (clock + 1)) }, ?_, ⟨_, _, hset.1, stamped_push hst h2, ?_⟩, hset.2, by simp, rfl, rfl, rfl, rfl⟩
    · simp [Instr.mapUpdate, run_underlying hm, MapKept.run_getObj_map hb, MapKept.run_checkKey hk hik, MapKept.run_findKey hk h1, MapKept.run_setObj_map _ hb, Result.andThen]
    · rw [Array.toList_push, List.map_append, he, List.map_append]
      rfl
  · obtain ⟨p, hp, hp1, _⟩ := imap_ent he h2
    rw [h3] at hp1
    injection hp1 with _ hp1
    exact absurd (List.mem_map.2 ⟨p, List.mem_of_getElem? hp, hp1.symm⟩) hl
end
/-- what a new map is -/
theorem IMap.empty (w : World) : IMap (w.alloc (.map #[] 0)) w.heap.size [] := ⟨#[], 0, heap_alloc_new w _, stamped_empty 0, rfl⟩
end Go.Proofs.YtljdbikodogeiaaGreatDoor

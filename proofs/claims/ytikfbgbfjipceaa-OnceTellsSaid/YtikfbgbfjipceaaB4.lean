/-
  The contract of slices.Insert at lists of ranges, for one element, in the middle, where there is room.
-/
import Derived.Test.YtikfbgbfjipceaaB3
namespace Go.Proofs.Ytikfbgbfjipceaa
open Go.RowKit

/-- the list with x at index i -/
def insAt (xs : List Rg) (i : Nat) (x : Rg) : List Rg := xs.take i ++ x :: xs.drop i
theorem ins_flat (xs : List Rg) (i : Nat) (x : Rg) : (insAt xs i x).flatMap pairC = (xs.take i).flatMap pairC ++ (pairC x ++ (xs.drop i).flatMap pairC) := by
  simp [insAt, List.flatMap_append]
theorem z46 (w : World) : (Go.sizeOf 46).run Try.prog w = .ok 2 w := by
  obtain ⟨i0, hi0, hz0, hz1, hz2⟩ := info_parts info46
  simp [sizeOf, typeInfo, hi0, hz1]
theorem no_overlap {w : World} {g gv cap m : Nat} {cur : Array Value} {x : Rg} (hne : gv ≠ g) (hg : w.heap[g]? = some (.cells cur 46 (0, 0))) (hpos : 0 < cur.size) (hv : w.heap[gv]? = some (.cells #[.int .i64 x.1, .int .i64 x.2] 46 (0, 0))) (o : Nat) :
    (callFunc 25 #[.slice (some ⟨gv, 0, none⟩) 1 1, .slice (some ⟨g, o, none⟩) m cap]).run Try.prog w = .ok (.value (.bool false)) w := by
  rw [run_callFunc_extern Try.func25 (by kernel_rfl) (by kernel_rfl) (by kernel_rfl) (e := Extern.SlicesOverlaps.overlaps #[22, 22] #[4]) (by kernel_rfl),
    Lib.run_overlaps_apart w 22 4 46 Try.underlying22 2 z46 ⟨gv, 0, none⟩ ⟨g, o, none⟩ 1 1 m cap hne 46 46 2 cur.size (by simp [World.shape?, hv]) (by simp [World.shape?, hg]) (by omega) (by simp [World.frozen?, hv]) (by simp [World.frozen?, hv])]
  rfl
theorem take3 {a b : Nat} (A B C : List Value) (c : Nat) (ha : A.length = a) (hb : B.length = b) : (A ++ (B ++ C)).take (a + b + c) = A ++ (B ++ C.take c) := by
  subst ha; subst hb
  rw [Nat.add_assoc, List.take_length_add_append, List.take_length_add_append]
/-- the first copy: everything from i on goes one further -/
theorem ins_copy1 {w : World} {g cap n i : Nat} {xs : List Rg} (hR : RowAt 46 2 w g cap n (xs.flatMap pairC)) (hi : i < n) (hc : n + 1 ≤ cap) (c1 c2 : Nat) :
    ∃ cur1 : Array Value, (∀ ty, (Builtin.copy_ #[22, 22] ty #[.slice (some ⟨g, (i + 1) * 2, none⟩) (n - i) c1, .slice (some ⟨g, i * 2, none⟩) (n + 1 - i) c2]).run Try.prog w.drew = .ok (goInt ((n - i : Nat) : Int)) (w.drew.setRow g cur1)) ∧
      cur1.size = cap * 2 ∧ (cur1.toList.take (i * 2) = (xs.take i).flatMap pairC) ∧ ((cur1.toList.drop (i * 2 + 2)).take ((n - i) * 2) = (xs.drop i).flatMap pairC) ∧ (w.drew.setRow g cur1).heap[g]? = some (.cells cur1 46 (0, 0)) := by
  obtain ⟨i0, hi0, hz0, hz1, hz2⟩ := info_parts info46
  have hsl := hR.sl
  obtain ⟨cur, hg, hcs, hnc, hxl, htake⟩ := hR
  have hl : xs.length = n := by rw [pair_len] at hxl; omega
  have hnl : ((xs.drop i).flatMap pairC).length = (n - i) * 2 := by rw [pair_len, List.length_drop]; omega
  have hmin : Nat.min (n + 1 - i) (n - i) = n - i := Nat.min_eq_right (by omega)
  have hcells : ∀ j u, ((xs.drop i).flatMap pairC)[j]? = some u → w.drew.cell? ((⟨g, i * 2, none⟩ : Addr).add j) = some u := by
    intro j u hu
    rw [add_eq]
    obtain ⟨b, o, e, _, hc⟩ := hsl.2 (by omega)
    injection e with e
    injection e with e1 e2
    subst e1; subst e2
    have := hc (i * 2 + j) u (by rw [flat_drop, List.getElem?_drop] at hu; exact hu)
    rw [Nat.zero_add] at this
    exact this
  have hr := fun ty => run_copy_gen (P := Try.prog) w.drew 22 ty 46 i0 Try.underlying22 hi0 g ((i + 1) * 2) (n - i) c1 cur hg ⟨g, i * 2, none⟩ (n + 1 - i) c2 ((xs.drop i).flatMap pairC) (by rw [hnl, hz1, hmin]) hcells (pair_one _) (by rw [hnl, hcs]; omega)
  rw [hmin] at hr
  refine ⟨_, hr, ?_, ?_, ?_, setRow_heap w.drew g cur _ 46 _ hg⟩
  · simp only [List.size_toArray, List.length_append, List.length_take, List.length_drop, Array.length_toList, hnl, hcs]
    omega
  · simp only [List.append_assoc]
    rw [List.take_append_of_le_length (by simp [hcs]; omega), List.take_take, flat_take, ← htake, List.take_take]
    congr 1
    omega
  · simp only [List.append_assoc]
    have hlen : (cur.toList.take ((i + 1) * 2)).length = i * 2 + 2 := by simp [hcs]; omega
    rw [← hlen, List.drop_left, ← hnl, List.take_left]
/-- the second copy: the element goes into its place -/
theorem ins_copy2 {w : World} {g gv cap n i : Nat} {xs : List Rg} {x : Rg} {cur1 : Array Value} (hg : w.heap[g]? = some (.cells cur1 46 (0, 0))) (hs : cur1.size = cap * 2) (hi : i < n) (hc : n + 1 ≤ cap) (hl : xs.length = n)
    (h1 : cur1.toList.take (i * 2) = (xs.take i).flatMap pairC) (h2 : (cur1.toList.drop (i * 2 + 2)).take ((n - i) * 2) = (xs.drop i).flatMap pairC) (hx : Sl w (some ⟨gv, 0, none⟩) 1 2 (pairC x)) (d c1 : Nat) (hd : 1 ≤ d) :
    ∃ w2, (∀ ty, (Builtin.copy_ #[22, 22] ty #[.slice (some ⟨g, i * 2, none⟩) d c1, .slice (some ⟨gv, 0, none⟩) 1 1]).run Try.prog w = .ok (goInt 1) w2) ∧ RowAt 46 2 w2 g cap (n + 1) ((insAt xs i x).flatMap pairC) ∧ w.grownBy w2 (some g) := by
  obtain ⟨i0, hi0, hz0, hz1, hz2⟩ := info_parts info46
  have hxc : ∀ j u, (pairC x)[j]? = some u → w.cell? ((⟨gv, 0, none⟩ : Addr).add j) = some u := by
    intro j u hu
    obtain ⟨b, o, e, _, hc⟩ := hx.2 (by omega)
    injection e with e
    injection e with e1 e2
    subst e1; subst e2
    rw [add_eq]
    exact hc j u hu
  have hone : ∀ u ∈ pairC x, u.oneCell' = true := by
    have := pair_one [x]
    simpa using this
  have hpl : (pairC x).length = 2 := rfl
  have hmin : Nat.min 1 d = 1 := Nat.min_eq_left hd
  have hr := fun ty => run_copy_gen (P := Try.prog) w 22 ty 46 i0 Try.underlying22 hi0 g (i * 2) d c1 cur1 hg ⟨gv, 0, none⟩ 1 1 (pairC x) (by rw [hpl, hz1, hmin]) hxc hone (by rw [hpl, hs]; omega)
  rw [hmin] at hr
  refine ⟨_, hr, ⟨_, setRow_heap w g cur1 _ 46 _ hg, ?_, hc, ?_, ?_⟩, grown_setRow _ _ _⟩
  · simp only [List.size_toArray, List.length_append, List.length_take, List.length_drop, Array.length_toList, hpl, hs]
    omega
  · rw [pair_len]; simp [insAt, hl]; omega
  · rw [ins_flat, h1, hpl, ← h2]
    have hl1 : ((xs.take i).flatMap pairC).length = i * 2 := by rw [pair_len, List.length_take]; omega
    simp only [List.append_assoc]
    rw [show (n + 1) * 2 = i * 2 + 2 + (n - i) * 2 by omega]
    exact take3 _ _ _ _ hl1 hpl

set_option maxRecDepth 100000 in
set_option maxHeartbeats 2000000 in
theorem insert_shift (g gv cap n i : Nat) (xs : List Rg) (x : Rg) (w : World) (hR : RowAt 46 2 w g cap n (xs.flatMap pairC)) (hi : i < n) (hc : n + 1 ≤ cap) (hcm : cap ≤ maxLen) (hn : n ≤ 1000000) (hne : gv ≠ g)
    (hv : w.heap[gv]? = some (.cells #[.int .i64 x.1, .int .i64 x.2] 46 (0, 0))) :
    Calls Try.prog 22 #[.slice (some ⟨g, 0, none⟩) n cap, .int .i64 i, .slice (some ⟨gv, 0, none⟩) 1 1] w fun e w' => e = .returned (.slice (some ⟨g, 0, none⟩) (n + 1) cap) ∧ RowAt 46 2 w' g cap (n + 1) ((insAt xs i x).flatMap pairC) ∧ w.grownBy w' (some g) := by
  have hov : ∀ m c o, (callFunc 25 #[.slice (some ⟨gv, 0, none⟩) 1 1, .slice (some ⟨g, o, none⟩) m c]).run Try.prog w = .ok (.value (.bool false)) w := by
    obtain ⟨cur, hg, hcs, _⟩ := hR
    exact fun m c o => no_overlap hne hg (by omega) hv o
  have hl : xs.length = n := by obtain ⟨_, _, _, _, h, _⟩ := hR; rw [pair_len] at h; omega
  obtain ⟨cur1, hr1, hs1, ht1, hd1, hg1⟩ := ins_copy1 hR hi hc (cap - (i + 1)) (cap - i)
  have hx1 : Sl (w.drew.setRow g cur1) (some ⟨gv, 0, none⟩) 1 2 (pairC x) := by
    refine ⟨rfl, fun _ => ⟨gv, 0, rfl, by simp; exact lt_of_block hv, fun j u hu => ?_⟩⟩
    rw [Nat.zero_add, cell_setRow_other _ _ _ _ hne]
    show w.cell? _ = _
    rw [cell_of_row _ _ _ _ 46 (0, 0) hv]
    simpa [pairC] using hu
  obtain ⟨w2, hr2, hR2, hG2⟩ := ins_copy2 (x := x) hg1 hs1 hi hc hl ht1 hd1 hx1 (n + 1 - i) (cap - i) (by omega)
  have RUN1 := Lib.hid hr1
  have R2 := Lib.hid hR2
  have G2 := Lib.hid (grown_trans (grown_of_drew (grown_setRow w.drew g cur1)) hG2)
  clear hr1 hs1 ht1 hd1 hg1 hx1 hR2 hG2 hR hl hv
  unfold maxLen at hcm
  have hb1 : ((i : Int) == (n : Int)) = false := by simp; omega
  have hcap1 : ¬ cap = i := by omega
  have hcap2 : ¬ cap = i + 1 := by omega
  go_enter Try.func22, Try.ntmps22
  go_wp2_with fail
  have hwr : IntKind.i64.wrap ((i : Int) + 1) = (i : Int) + 1 := IntWalk.i64_in ((i : Int) + 1) (by omega)
  have hnn : (0 : Int) ≤ (i : Int) + 1 := by omega
  have htn : ((i : Int) + 1).toNat = i + 1 := by omega
  have hle1 : i + 1 ≤ n + 1 := by omega
  have hle2 : i ≤ n + 1 := by omega
  have hle3 : i ≤ n := by omega
  have hle4 : (i : Int) + 1 ≤ (n : Int) + 1 := by omega
  have hle5 : (i : Int) ≤ (n : Int) + 1 := by omega
  go_region_law (refine step_of_wp _ rfl (wp_copy_run _ (.tmp 73) (.tmp 76) 22 22 rfl (.slice (some ⟨g, (i + 1) * 2, none⟩) (n - i) (cap - (i + 1))) (.slice (some ⟨g, i * 2, none⟩) (n + 1 - i) (cap - i)) _ _ (by simp [Act.eval, Act.put]) (by simp [Act.eval, Act.put]) (RUN1.out _) ?_))
  clear hwr hnn htn hle4 hle5
  generalize w.drew.setRow g cur1 = w1 at *
  go_wp2_with fail
  go_ret
  exact ⟨rfl, R2.out, G2.out⟩
end Go.Proofs.Ytikfbgbfjipceaa

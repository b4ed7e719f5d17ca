/-
  The contract of slices.Delete at lists of ranges, for one element.
-/
import Derived.Test.YtikfbgbfjipceaaB1
import Derived.Test.YtikfbgbfjipceaaRowLaws
import Derived.Deep.RegionLaw
namespace Go.Proofs.Ytikfbgbfjipceaa
open Go.RowKit

theorem flat_take (l : List Rg) (k : Nat) : (l.take k).flatMap pairC = (l.flatMap pairC).take (k * 2) := by
  induction l generalizing k with
  | nil => simp
  | cons x l ih =>
    cases k with
    | zero => simp
    | succ k => simp only [List.take_succ_cons, List.flatMap_cons, ih, pairC, Nat.add_mul]; rfl
theorem flat_drop (l : List Rg) (k : Nat) : (l.drop k).flatMap pairC = (l.flatMap pairC).drop (k * 2) := by
  induction l generalizing k with
  | nil => simp
  | cons x l ih =>
    cases k with
    | zero => simp
    | succ k => simp only [List.drop_succ_cons, List.flatMap_cons, ih, pairC, Nat.add_mul]; rfl

theorem erase_flat (xs : List Rg) (i : Nat) : (xs.eraseIdx i).flatMap pairC = (xs.take i).flatMap pairC ++ (xs.drop (i + 1)).flatMap pairC := by
  rw [List.eraseIdx_eq_take_drop_succ, List.flatMap_append]
theorem zero1 : (Builtin.zeroCells (Value.cells (.agg #[.int .i64 0, .int .i64 0])) 1).toList = [.int .i64 0, .int .i64 0] := by kernel_rfl
theorem zero1s : (Builtin.zeroCells (Value.cells (.agg #[.int .i64 0, .int .i64 0])) 1).size = 2 := by kernel_rfl

/-- what the append within the row leaves -/
theorem del_row {w : World} {g cap k i : Nat} {xs : List Rg} (hR : RowAt 46 2 w g cap (k + 1) (xs.flatMap pairC)) (hi : i ≤ k) (a : Addr) (ha : i < k → a = ⟨g, (i + 1) * 2, none⟩) (c : Nat) :
    ∃ cur2 : Array Value, (Builtin.append_ #[22, 22] 22 #[.slice (some ⟨g, 0, none⟩) i cap, .slice (some a) (k - i) c]).run Try.prog w.drew = .ok (.slice (some ⟨g, 0, none⟩) k cap) (w.drew.setRow g cur2) ∧
      cur2.size = cap * 2 ∧ cur2.toList.take (k * 2) = (xs.eraseIdx i).flatMap pairC ∧ (xs.eraseIdx i).length = k ∧ (w.drew.setRow g cur2).heap[g]? = some (.cells cur2 46 (0, 0)) := by
  obtain ⟨i0, hi0, hz0, hz1, hz2⟩ := info_parts info46
  have hsl := hR.sl
  obtain ⟨cur, hg, hcs, hnc, hxl, htake⟩ := hR
  have hl : xs.length = k + 1 := by rw [pair_len] at hxl; omega
  have hnl : ((xs.drop (i + 1)).flatMap pairC).length = (k - i) * 2 := by rw [pair_len, List.length_drop]; omega
  have hnews : ∀ j u, ((xs.drop (i + 1)).flatMap pairC)[j]? = some u → w.drew.cell? (a.add j) = some u := by
    intro j u hu
    have hj := (List.getElem?_eq_some_iff.1 hu).1
    rw [hnl] at hj
    rw [ha (by omega), add_eq]
    obtain ⟨b, o, e, _, hc⟩ := hsl.2 (by omega)
    injection e with e
    injection e with e1 e2
    subst e1; subst e2
    have := hc ((i + 1) * 2 + j) u (by rw [flat_drop, List.getElem?_drop] at hu; exact hu)
    rw [Nat.zero_add] at this
    exact this
  have hr := run_append_room (P := Try.prog) w.drew 22 22 46 i0 Try.underlying22 hi0 g i cap cur hg a (k - i) c _ (by rw [hnl, hz1]) hnews (pair_one _) (by omega) (by rw [hnl, hz1, hcs]; omega)
  rw [show i + (k - i) = k by omega] at hr
  refine ⟨_, hr, ?_, ?_, ?_, setRow_heap w.drew g cur _ 46 _ hg⟩
  · simp only [List.size_toArray, List.length_append, List.length_take, List.length_drop, Array.length_toList, hnl, hz1, hcs]
    omega
  · have ht : cur.toList.take (i * 2) = (xs.take i).flatMap pairC := by
      rw [flat_take, ← htake, List.take_take]
      congr 1
      omega
    have htl : ((xs.take i).flatMap pairC).length = i * 2 := by rw [pair_len, List.length_take]; omega
    rw [hz1, ht, erase_flat]
    exact List.take_left' (by rw [List.length_append, htl, hnl]; omega)
  · rw [List.length_eraseIdx]
    simp [hl]
    omega

/-- what the clearing of the last element leaves -/
theorem del_clear {w2 : World} {g cap k : Nat} {cur2 : Array Value} {ys : List Value} (hg : w2.heap[g]? = some (.cells cur2 46 (0, 0))) (hs : cur2.size = cap * 2) (hk : k + 1 ≤ cap) (hl : ys.length = k * 2) (ht : cur2.toList.take (k * 2) = ys) (c : Nat) :
    ∃ w3, (∀ ty, (Builtin.clear_ #[22] ty #[.slice (some ⟨g, k * 2, none⟩) 1 c]).run Try.prog w2 = .ok (.tuple #[]) w3) ∧ RowAt 46 2 w3 g cap k ys ∧ w2.grownBy w3 (some g) := by
  obtain ⟨i0, hi0, hz0, hz1, hz2⟩ := info_parts info46
  refine ⟨_, fun ty => run_clear_gen (P := Try.prog) w2 22 ty 46 i0 _ Try.underlying22 hi0 hz0 g (k * 2) 1 c (by omega) cur2 hg ?_ ?_, ?_, grown_setRow _ _ _⟩
  · rw [zero1]; simp [Value.oneCell']
  · rw [zero1s, hs]; omega
  · refine ⟨_, setRow_heap w2 g cur2 _ 46 _ hg, ?_, by omega, hl, ?_⟩
    · rw [zero1, zero1s]
      simp only [List.size_toArray, List.length_append, List.length_take, List.length_drop, Array.length_toList, List.length_cons, List.length_nil, hs]
      omega
    · rw [ht, List.append_assoc]
      exact List.take_left' hl
theorem grown_of_drew {w w' : World} {r : Option Nat} (h : w.drew.grownBy w' r) : w.grownBy w' r := ⟨h.os, h.tape, h.output, h.size, h.block⟩
set_option maxHeartbeats 1000000 in
theorem delete_any (g cap k i : Nat) (xs : List Rg) (w : World) (hR : RowAt 46 2 w g cap (k + 1) (xs.flatMap pairC)) (hi : i ≤ k) (hc : cap ≤ maxLen) :
    Calls Try.prog 21 #[.slice (some ⟨g, 0, none⟩) (k + 1) cap, .int .i64 i, .int .i64 (i + 1)] w fun e w' => e = .returned (.slice (some ⟨g, 0, none⟩) k cap) ∧ RowAt 46 2 w' g cap k ((xs.eraseIdx i).flatMap pairC) ∧ w.grownBy w' (some g) := by
  obtain ⟨i0, hi0, hz0, hz1, hz2⟩ := info_parts info46
  have hkc : k + 1 ≤ cap := by obtain ⟨_, _, _, h, _⟩ := hR; exact h
  unfold maxLen at hc
  have HR := Lib.hid hR
  clear hR
  have hb1 : ((i : Int) == (i : Int) + 1) = false := by simp; omega
  by_cases hcap : cap = i + 1
  · have hik : i = k := by omega
    obtain ⟨cur2, hr, hs2, ht2, hl2, hg2⟩ := del_row HR.out hi ⟨g, 0, none⟩ (fun h => absurd h (by omega)) 0
    have RUN := Lib.hid hr
    have S2 := Lib.hid hs2
    have T2 := Lib.hid ht2
    have L2 := Lib.hid hl2
    have G2 := Lib.hid hg2
    clear hr hs2 ht2 hl2 hg2
    subst hik
    subst hcap
    have hici : (i : Int) ≤ (i : Int) + 1 := by omega
    have hr0 := RUN.out
    rw [Nat.sub_self] at hr0
    have RUN := Lib.hid hr0
    clear hr0
    have hnn : (0 : Int) ≤ (i : Int) + 1 := by omega
    have htn : ((i : Int) + 1).toNat = i + 1 := by omega
    go_enter Try.func21, Try.ntmps21
    go_wp2_with fail
    go_region_law (refine step_of_wp _ rfl (wp_append_run _ (.tmp 22) (.tmp 25) 22 22 rfl (.slice (some ⟨g, 0, none⟩) i (i + 1)) (.slice (some ⟨g, 0, none⟩) 0 0) _ _ (by simp [Act.eval, Act.put]) (by simp [Act.eval, Act.put]) RUN.out ?_))
    have GR := Lib.hid (grown_of_drew (grown_setRow w.drew g cur2))
    generalize w.drew.setRow g cur2 = w2 at *
    obtain ⟨w3, hclr, hR3, hg3⟩ := del_clear G2.out S2.out hkc (by rw [pair_len, L2.out]) T2.out 1
    have R3 := Lib.hid hR3
    have G3 := Lib.hid (grown_trans GR.out hg3)
    clear hR3 hg3 RUN htn hnn
    go_wp2_with fail
    go_ret
    exact ⟨rfl, R3.out, G3.out⟩
  · obtain ⟨cur2, hr, hs2, ht2, hl2, hg2⟩ := del_row HR.out hi ⟨g, (i + 1) * 2, none⟩ (fun _ => rfl) (cap - (i + 1))
    have RUN := Lib.hid hr
    have S2 := Lib.hid hs2
    have T2 := Lib.hid ht2
    have L2 := Lib.hid hl2
    have G2 := Lib.hid hg2
    clear hr hs2 ht2 hl2 hg2
    have hic : i ≤ cap := by omega
    have hic1 : i ≤ k := hi
    have hic2 : i + 1 ≤ k + 1 := by omega
    have hic3 : i + 1 ≤ cap := by omega
    have hnn : (0 : Int) ≤ (i : Int) + 1 := by omega
    have htn : ((i : Int) + 1).toNat = i + 1 := by omega
    go_enter Try.func21, Try.ntmps21
    go_wp2_with fail
    go_region_law (refine step_of_wp _ rfl (wp_append_run _ (.tmp 22) (.tmp 25) 22 22 rfl (.slice (some ⟨g, 0, none⟩) i cap) (.slice (some ⟨g, (i + 1) * 2, none⟩) (k - i) (cap - (i + 1))) _ _ (by simp [Act.eval, Act.put]) (by simp [Act.eval, Act.put]) RUN.out ?_))
    have GR := Lib.hid (grown_of_drew (grown_setRow w.drew g cur2))
    generalize w.drew.setRow g cur2 = w2 at *
    obtain ⟨w3, hclr, hR3, hg3⟩ := del_clear G2.out S2.out hkc (by rw [pair_len, L2.out]) T2.out (cap - k)
    have R3 := Lib.hid hR3
    have G3 := Lib.hid (grown_trans GR.out hg3)
    clear hR3 hg3 RUN htn hnn
    go_wp2_with fail
    go_ret
    exact ⟨rfl, R3.out, G3.out⟩
end Go.Proofs.Ytikfbgbfjipceaa

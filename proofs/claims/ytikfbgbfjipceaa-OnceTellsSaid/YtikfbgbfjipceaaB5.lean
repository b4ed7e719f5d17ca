/-
  The contract of slices.Insert at lists of ranges, for one element, in the middle, where there is no room; and for every index.
-/
import Derived.Test.YtikfbgbfjipceaaB4
namespace Go.Proofs.Ytikfbgbfjipceaa
open Go.RowKit

/-- the new row: what is before i, and zeros -/
theorem grow1 {w : World} {g cap n i : Nat} {xs : List Rg} (hR : RowAt 46 2 w g cap n (xs.flatMap pairC)) (hi : i < n) (hc : cap = n) (hn : n ≤ 1000000) :
    ∃ (C : Nat) (wA : World) (curA : Array Value), (∀ ty, (Builtin.append_ #[22, 3] ty #[.slice (some ⟨g, 0, none⟩) i cap, .int .i64 ((n : Int) + 1 - (i : Int))]).run Try.prog w = .ok (.slice (some ⟨w.heap.size, 0, none⟩) (n + 1) C) wA) ∧
      n + 1 ≤ C ∧ C ≤ maxLen ∧ wA.heap[w.heap.size]? = some (.cells curA 46 (0, 0)) ∧ curA.size = C * 2 ∧ curA.toList.take (i * 2) = (xs.take i).flatMap pairC ∧ Below w.heap.size w wA := by
  obtain ⟨i0, hi0, hz0, hz1, hz2⟩ := info_parts info46
  have hsl := hR.sl
  obtain ⟨cur, hg, hcs, hnc, hxl, htake⟩ := hR
  have hl : xs.length = n := by rw [pair_len] at hxl; omega
  have htl : ((xs.take i).flatMap pairC).length = i * 2 := by rw [pair_len, List.length_take]; omega
  have hcells : ∀ j u, ((xs.take i).flatMap pairC)[j]? = some u → w.cell? ((⟨g, 0, none⟩ : Addr).add j) = some u := by
    intro j u hu
    rw [add_eq]
    obtain ⟨b, o, e, _, hc⟩ := hsl.2 (by omega)
    injection e with e
    injection e with e1 e2
    subst e1; subst e2
    have hj := (List.getElem?_eq_some_iff.1 hu).1
    refine hc j u ?_
    rw [flat_take, List.getElem?_take_of_lt (by omega)] at hu
    exact hu
  have hk : ((n + 1 - i : Nat) : Int) = (n : Int) + 1 - (i : Int) := by omega
  have hne : i + (n + 1 - i) = n + 1 := by omega
  have hr := fun ty => run_zeros_grow (P := Try.prog) w 22 3 ty 46 .i64 i0 _ Try.underlying22 Try.underlying3 hi0 hz0 (by omega) ⟨g, 0, none⟩ i cap ((xs.take i).flatMap pairC) (by rw [htl, hz1]) hcells (n + 1 - i) (by omega) (by omega) (by omega) (growslice_fits (by omega) (by rw [hz2]; omega)) (by rw [hz2]; omega)
  rw [hk, hne] at hr
  have hge := grownCap_ge w (n + 1) cap 46
  refine ⟨_, _, _, hr, hge, grownCap_le_maxLen w (n + 1) cap 46 (by simp only [maxLen]; omega), heap_alloc_new w.drew _, ?_, ?_, ?_⟩
  · simp only [Array.size_append, List.size_toArray, size_zeroCells, htl]
    simp only [Value.cells, List.size_toArray, List.length_cons, List.length_nil]
    omega
  · simp only [Array.toList_append, List.append_assoc]
    exact List.take_left' htl
  · exact ⟨rfl, rfl, rfl, by simp, fun k hk => Below.heap_alloc w.drew _ k hk⟩
/-- the element into its place of the new row -/
theorem grow2 {w : World} {g gv C n i : Nat} {xs : List Rg} {x : Rg} {cur1 : Array Value} (hg : w.heap[g]? = some (.cells cur1 46 (0, 0))) (hs : cur1.size = C * 2) (hi : i < n) (hc : n + 1 ≤ C) (hl : xs.length = n)
    (h1 : cur1.toList.take (i * 2) = (xs.take i).flatMap pairC) (hx : Sl w (some ⟨gv, 0, none⟩) 1 2 (pairC x)) (d c1 : Nat) (hd : 1 ≤ d) :
    ∃ cur2 : Array Value, (∀ ty, (Builtin.copy_ #[22, 22] ty #[.slice (some ⟨g, i * 2, none⟩) d c1, .slice (some ⟨gv, 0, none⟩) 1 1]).run Try.prog w = .ok (goInt 1) (w.setRow g cur2)) ∧ (w.setRow g cur2).heap[g]? = some (.cells cur2 46 (0, 0)) ∧
      cur2.size = C * 2 ∧ cur2.toList.take (i * 2 + 2) = (xs.take i).flatMap pairC ++ pairC x := by
  obtain ⟨i0, hi0, hz0, hz1, hz2⟩ := info_parts info46
  have hxc : ∀ j u, (pairC x)[j]? = some u → w.cell? ((⟨gv, 0, none⟩ : Addr).add j) = some u := by
    intro j u hu
    obtain ⟨b, o, e, _, hc⟩ := hx.2 (by omega)
    injection e with e
    injection e with e1 e2
    subst e1; subst e2
    rw [add_eq]
    exact hc j u hu
  have hone : ∀ u ∈ pairC x, u.oneCell' = true := by
    have := pair_one [x]
    simpa using this
  have hpl : (pairC x).length = 2 := rfl
  have hmin : Nat.min 1 d = 1 := Nat.min_eq_left hd
  have hl1 : ((xs.take i).flatMap pairC).length = i * 2 := by rw [pair_len, List.length_take]; omega
  have hr := fun ty => run_copy_gen (P := Try.prog) w 22 ty 46 i0 Try.underlying22 hi0 g (i * 2) d c1 cur1 hg ⟨gv, 0, none⟩ 1 1 (pairC x) (by rw [hpl, hz1, hmin]) hxc hone (by rw [hpl, hs]; omega)
  rw [hmin] at hr
  refine ⟨_, hr, setRow_heap w g cur1 _ 46 _ hg, ?_, ?_⟩
  · simp only [List.size_toArray, List.length_append, List.length_take, List.length_drop, Array.length_toList, hpl, hs]
    omega
  · rw [h1]
    exact List.take_left' (by rw [List.length_append, hl1, hpl])
/-- the rest behind it -/
theorem grow3 {w : World} {g gs cap C n i : Nat} {xs : List Rg} {x : Rg} {cur2 : Array Value} (hg : w.heap[g]? = some (.cells cur2 46 (0, 0))) (hs : cur2.size = C * 2) (hi : i < n) (hc : n + 1 ≤ C) (hl : xs.length = n)
    (h1 : cur2.toList.take (i * 2 + 2) = (xs.take i).flatMap pairC ++ pairC x) (hR : RowAt 46 2 w gs cap n (xs.flatMap pairC)) (c1 c2 : Nat) :
    ∃ w3, (∀ ty, (Builtin.copy_ #[22, 22] ty #[.slice (some ⟨g, (i + 1) * 2, none⟩) (n - i) c1, .slice (some ⟨gs, i * 2, none⟩) (n - i) c2]).run Try.prog w.drew = .ok (goInt ((n - i : Nat) : Int)) w3) ∧ RowAt 46 2 w3 g C (n + 1) ((insAt xs i x).flatMap pairC) ∧ w.grownBy w3 (some g) := by
  obtain ⟨i0, hi0, hz0, hz1, hz2⟩ := info_parts info46
  have hsl := hR.sl
  have hnl : ((xs.drop i).flatMap pairC).length = (n - i) * 2 := by rw [pair_len, List.length_drop]; omega
  have hmin : Nat.min (n - i) (n - i) = n - i := Nat.min_self _
  have hcells : ∀ j u, ((xs.drop i).flatMap pairC)[j]? = some u → w.drew.cell? ((⟨gs, i * 2, none⟩ : Addr).add j) = some u := by
    intro j u hu
    rw [add_eq]
    obtain ⟨b, o, e, _, hc⟩ := hsl.2 (by omega)
    injection e with e
    injection e with e1 e2
    subst e1; subst e2
    have := hc (i * 2 + j) u (by rw [flat_drop, List.getElem?_drop] at hu; exact hu)
    rw [Nat.zero_add] at this
    exact this
  have hr := fun ty => run_copy_gen (P := Try.prog) w.drew 22 ty 46 i0 Try.underlying22 hi0 g ((i + 1) * 2) (n - i) c1 cur2 hg ⟨gs, i * 2, none⟩ (n - i) c2 ((xs.drop i).flatMap pairC) (by rw [hnl, hz1, hmin]) hcells (pair_one _) (by rw [hnl, hs]; omega)
  rw [hmin] at hr
  refine ⟨_, hr, ⟨_, setRow_heap w.drew g cur2 _ 46 _ hg, ?_, hc, ?_, ?_⟩, grown_of_drew (grown_setRow _ _ _)⟩
  · simp only [List.size_toArray, List.length_append, List.length_take, List.length_drop, Array.length_toList, hnl, hs]
    omega
  · rw [pair_len]; simp [insAt, hl]; omega
  · rw [ins_flat, show (i + 1) * 2 = i * 2 + 2 by omega, h1]
    have hl1 : ((xs.take i).flatMap pairC).length = i * 2 := by rw [pair_len, List.length_take]; omega
    simp only [List.append_assoc]
    rw [show (n + 1) * 2 = i * 2 + 2 + (n - i) * 2 by omega]
    rw [take3 (a := i * 2) (b := 2) _ _ _ _ hl1 rfl, ← hnl, List.take_left]

set_option maxRecDepth 100000 in
set_option maxHeartbeats 2000000 in
theorem insert_grow (g gv cap n i : Nat) (xs : List Rg) (x : Rg) (w : World) (hR : RowAt 46 2 w g cap n (xs.flatMap pairC)) (hi : i < n) (hc : cap = n) (hn : n ≤ 1000000) (hx : Sl w (some ⟨gv, 0, none⟩) 1 2 (pairC x)) :
    Calls Try.prog 22 #[.slice (some ⟨g, 0, none⟩) n cap, .int .i64 i, .slice (some ⟨gv, 0, none⟩) 1 1] w fun e w' => ∃ C, e = .returned (.slice (some ⟨w.heap.size, 0, none⟩) (n + 1) C) ∧ C ≤ maxLen ∧ RowAt 46 2 w' w.heap.size C (n + 1) ((insAt xs i x).flatMap pairC) ∧ Below w.heap.size w w' := by
  have hl : xs.length = n := by obtain ⟨_, _, _, _, h, _⟩ := hR; rw [pair_len] at h; omega
  have hgl : g < w.heap.size := by obtain ⟨_, h, _⟩ := hR; exact lt_of_block h
  obtain ⟨C, wA, curA, hrA, hC1, hC2, hgA, hsA, htA, hbA⟩ := grow1 hR hi hc hn
  obtain ⟨cur2, hr2, hg2, hs2, ht2⟩ := grow2 (x := x) hgA hsA hi hC1 hl htA (hx.below hbA) (n + 1 - i) (C - i) (by omega)
  have hb2 : Below w.heap.size w (wA.setRow w.heap.size cur2) := hbA.grown (grown_setRow wA w.heap.size cur2) hbA.size (fun k hk => by injection hk with hk; omega)
  have hR2 : RowAt 46 2 (wA.setRow w.heap.size cur2) g cap n (xs.flatMap pairC) := by
    obtain ⟨cur, hg, h⟩ := hR
    exact ⟨cur, (hb2.block g hgl).trans hg, h⟩
  obtain ⟨w3, hr3, hR3, hG3⟩ := grow3 (x := x) hg2 hs2 hi hC1 hl ht2 hR2 (C - (i + 1)) (cap - i)
  have hb3 : Below w.heap.size w w3 := hb2.grown hG3 hb2.size (fun k hk => by injection hk with hk; omega)
  have RUN3 := Lib.hid hr3
  have R3 := Lib.hid hR3
  have B3 := Lib.hid hb3
  have HC2 := Lib.hid hC2
  have hC3 : C ≤ 9223372036854775807 := by simpa [maxLen] using hC2
  clear hr3 hR3 hb3 hG3 hgA hsA htA hbA hg2 hs2 ht2 hb2 hR2 hR hl hx hC2
  generalize hw2 : wA.setRow w.heap.size cur2 = w2 at *
  clear hw2
  subst hc
  have RUNA := Lib.hid hrA
  clear hrA
  have hb1 : ((i : Int) == (cap : Int)) = false := by simp; omega
  have hcap1 : ¬ cap = i := by omega
  have hcap2 : ¬ C = i := by omega
  have hcap3 : ¬ C = i + 1 := by omega
  go_enter Try.func22, Try.ntmps22
  go_wp2_with (at_builtin; refine wpList_plain rfl (fun K hK => wp_append_run _ (.tmp 34) (.tmp 39) 22 3 rfl _ _ _ _ rfl rfl (RUNA.out _) (hK _ _ ?_)))
  have hwr : IntKind.i64.wrap ((i : Int) + 1) = (i : Int) + 1 := IntWalk.i64_in ((i : Int) + 1) (by omega)
  have hnn : (0 : Int) ≤ (i : Int) + 1 := by omega
  have htn : ((i : Int) + 1).toNat = i + 1 := by omega
  have hle1 : i + 1 ≤ cap + 1 := by omega
  have hle2 : i ≤ cap + 1 := by omega
  have hle3 : i ≤ cap := by omega
  have hle4 : (i : Int) + 1 ≤ (cap : Int) + 1 := by omega
  have hle5 : (i : Int) ≤ (cap : Int) + 1 := by omega
  go_region_law (refine step_of_wp _ rfl (wp_copy_run _ (.tmp 50) (.tmp 53) 22 22 rfl (.slice (some ⟨w.heap.size, (i + 1) * 2, none⟩) (cap - i) (C - (i + 1))) (.slice (some ⟨g, i * 2, none⟩) (cap - i) (cap - i)) _ _ (by simp [Act.eval, Act.put]) (by simp [Act.eval, Act.put]) (RUN3.out _) ?_))
  clear hwr hnn htn hle4 hle5
  go_wp2_with fail
  go_ret
  exact ⟨C, rfl, HC2.out, R3.out, B3.out⟩

/-- slices.Insert of one element into a list that the call owns -/
theorem insert_any (v : Value) (n i gv base : Nat) (xs : List Rg) (x : Rg) (w : World) (hown : w.ownsRow base 46 2 v n (xs.flatMap pairC)) (hb : base ≤ w.heap.size) (hn : n ≤ 1000000) (hi : i ≤ n)
    (hv : w.heap[gv]? = some (.cells #[.int .i64 x.1, .int .i64 x.2] 46 (0, 0))) (hne : v.ownBlock ≠ some gv) :
    Calls Try.prog 22 #[v, .int .i64 i, .slice (some ⟨gv, 0, none⟩) 1 1] w fun e w' => ∃ v', e = .returned v' ∧ w'.ownsRow base 46 2 v' (n + 1) ((insAt xs i x).flatMap pairC) ∧ w.grownBy w' v.ownBlock := by
  have hl : xs.length = n := by have := hown.1; rw [pair_len] at this; omega
  have hx : Sl w (some ⟨gv, 0, none⟩) 1 2 (pairC x) := by
    refine ⟨rfl, fun _ => ⟨gv, 0, rfl, lt_of_block hv, fun j u hu => ?_⟩⟩
    rw [Nat.zero_add, cell_of_row _ _ _ _ 46 (0, 0) hv]
    simpa [pairC] using hu
  by_cases hin : i = n
  · subst hin
    have e : insAt xs i x = xs ++ [x] := by simp [insAt, ← hl]
    rw [e]
    exact insert_end v i gv base xs x w hown hb hn hx
  · obtain ⟨g, cap, rfl, hbg, hcm, hR⟩ := RowAt.of_own hown (by omega)
    have hgn : gv ≠ g := fun h => hne (by simp [Value.ownBlock, h])
    by_cases hroom : n + 1 ≤ cap
    · refine (insert_shift g gv cap n i xs x w hR (by omega) hroom hcm hn hgn hv).mono ?_
      rintro e w' ⟨rfl, hR', hG⟩
      exact ⟨_, rfl, hR'.own hbg hcm, hG⟩
    · have hcn : cap = n := by obtain ⟨_, _, _, h, _⟩ := hR; omega
      refine (insert_grow g gv cap n i xs x w hR (by omega) hcn hn hx).mono ?_
      rintro e w' ⟨C, rfl, hC, hR', hB⟩
      exact ⟨_, rfl, hR'.own hb hC, ⟨hB.os, hB.tape, hB.output, hB.size, fun k hk _ => hB.block k hk⟩⟩
end Go.Proofs.Ytikfbgbfjipceaa

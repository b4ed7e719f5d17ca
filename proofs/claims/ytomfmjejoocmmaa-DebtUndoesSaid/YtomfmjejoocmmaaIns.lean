/-
  slices.Insert of one element and slices.Delete of one element at lists of two numbers each: their contracts. (25, 30: the functions)
-/
import Derived.Test.YtomfmjejoocmmaaRowLaws
import Derived.Test.YtomfmjejoocmmaaEvT
import Derived.Lib.Overlaps
import Derived.Deep.RegionLaw
import Derived.Deep.RegionHeld3
namespace Go.Proofs.Ytomfmjejoocmmaa
open Go.RowKit
set_option maxRecDepth 100000
abbrev Rg := Int × Int
def pairV (x : Rg) : List Value := [.int .i64 x.1, .int .i64 x.2]
theorem pair_len (l : List Rg) : (l.flatMap pairV).length = l.length * 2 := flat_len _ 2 (fun _ => rfl) l
theorem infoE : (Try.prog.info? 27).map (fun i => (i.zero, i.size, i.bytes)) = some (some (.agg #[.int .i64 0, .int .i64 0]), 2, 16) := by kernel_rfl
theorem pair_one (l : List Rg) : ∀ u ∈ l.flatMap pairV, u.oneCell' = true := by
  intro u hu
  obtain ⟨x, _, hx⟩ := List.mem_flatMap.1 hu
  simp only [pairV, List.mem_cons, List.not_mem_nil, or_false] at hx
  rcases hx with rfl | rfl <;> rfl
/-- the two cells of an element -/
def PairAt (w : World) (gv ov : Nat) (x : Rg) : Prop := ∀ j u, (pairV x)[j]? = some u → w.cell? ((⟨gv, ov, none⟩ : Addr).add j) = some u

theorem PairAt.lt {w : World} {gv ov : Nat} {x : Rg} (h : PairAt w gv ov x) : gv < w.heap.size := by
  have h0 := h 0 (.int .i64 x.1) rfl
  rw [add_eq] at h0
  unfold World.cell? at h0
  apply Classical.byContradiction
  intro hc
  dsimp only at h0
  rw [Array.getElem?_eq_none (by omega)] at h0
  cases h0
theorem PairAt.same {w w' : World} {gv ov : Nat} {x : Rg} (h : PairAt w gv ov x) (hb : w'.heap[gv]? = w.heap[gv]?) : PairAt w' gv ov x := by
  intro j u hu
  have := h j u hu
  rw [add_eq] at this ⊢
  exact (World.cell?_of_block (w := w) hb).trans this
theorem PairAt.below {w w' : World} {gv ov : Nat} {x : Rg} (h : PairAt w gv ov x) (hb : Below w.heap.size w w') : PairAt w' gv ov x := h.same (hb.block _ h.lt)
theorem flat_take (l : List Rg) (k : Nat) : (l.take k).flatMap pairV = (l.flatMap pairV).take (k * 2) := by
  induction l generalizing k with
  | nil => simp
  | cons x l ih =>
    cases k with
    | zero => simp
    | succ k => simp only [List.take_succ_cons, List.flatMap_cons, ih, pairV, Nat.add_mul]; rfl
theorem flat_drop (l : List Rg) (k : Nat) : (l.drop k).flatMap pairV = (l.flatMap pairV).drop (k * 2) := by
  induction l generalizing k with
  | nil => simp
  | cons x l ih =>
    cases k with
    | zero => simp
    | succ k => simp only [List.drop_succ_cons, List.flatMap_cons, ih, pairV, Nat.add_mul]; rfl

theorem erase_flat (xs : List Rg) (i : Nat) : (xs.eraseIdx i).flatMap pairV = (xs.take i).flatMap pairV ++ (xs.drop (i + 1)).flatMap pairV := by
  rw [List.eraseIdx_eq_take_drop_succ, List.flatMap_append]
theorem zero1 : (Builtin.zeroCells (Value.cells (.agg #[.int .i64 0, .int .i64 0])) 1).toList = [.int .i64 0, .int .i64 0] := by kernel_rfl
theorem zero1s : (Builtin.zeroCells (Value.cells (.agg #[.int .i64 0, .int .i64 0])) 1).size = 2 := by kernel_rfl

/-- what the append within the row leaves -/
theorem del_row {tb : TypeId} {w : World} {g cap k i : Nat} {xs : List Rg} (hR : RowV tb 2 w g cap (k + 1) (xs.flatMap pairV)) (hi : i ≤ k) (a : Addr) (ha : i < k → a = ⟨g, (i + 1) * 2, none⟩) (c : Nat) :
    ∃ cur2 : Array Value, (Builtin.append_ #[25, 25] 25 #[.slice (some ⟨g, 0, none⟩) i cap, .slice (some a) (k - i) c]).run Try.prog w.drew = .ok (.slice (some ⟨g, 0, none⟩) k cap) (w.drew.setRow g cur2) ∧
      cur2.size = cap * 2 ∧ cur2.toList.take (k * 2) = (xs.eraseIdx i).flatMap pairV ∧ (xs.eraseIdx i).length = k ∧ (w.drew.setRow g cur2).heap[g]? = some (.cells cur2 tb (0, 0)) := by
  obtain ⟨i0, hi0, hz0, hz1, hz2⟩ := info_parts infoE
  have hsl := hR.sl
  obtain ⟨cur, hg, hcs, hnc, hxl, htake⟩ := hR
  have hl : xs.length = k + 1 := by rw [pair_len] at hxl; omega
  have hnl : ((xs.drop (i + 1)).flatMap pairV).length = (k - i) * 2 := by rw [pair_len, List.length_drop]; omega
  have hnews : ∀ j u, ((xs.drop (i + 1)).flatMap pairV)[j]? = some u → w.drew.cell? (a.add j) = some u := by
    intro j u hu
    have hj := (List.getElem?_eq_some_iff.1 hu).1
    rw [hnl] at hj
    rw [ha (by omega), add_eq]
    obtain ⟨b, o, e, _, hc⟩ := hsl.2 (by omega)
    injection e with e
    injection e with e1 e2
    subst e1; subst e2
    have := hc ((i + 1) * 2 + j) u (by rw [flat_drop, List.getElem?_drop] at hu; exact hu)
    rw [Nat.zero_add] at this
    exact this
  have hr := run_app_room (P := Try.prog) (ty := 25) (c := c) (cap := cap) (k := k - i) (n := i) (ad := a) w.drew Try.underlying25 hi0 (show w.drew.heap[g]? = _ from hg) (by rw [hnl, hz1]) hnews (pair_one _) (by omega) (by rw [hnl, hz1, hcs]; omega)
  unfold over at hr
  rw [show i + (k - i) = k by omega] at hr
  refine ⟨_, hr, ?_, ?_, ?_, setRow_heap w.drew g cur _ tb _ hg⟩
  · simp only [List.size_toArray, List.length_append, List.length_take, List.length_drop, Array.length_toList, hnl, hz1, hcs]
    omega
  · have ht : cur.toList.take (i * 2) = (xs.take i).flatMap pairV := by
      rw [flat_take, ← htake, List.take_take]
      congr 1
      omega
    have htl : ((xs.take i).flatMap pairV).length = i * 2 := by rw [pair_len, List.length_take]; omega
    rw [hz1, ht, erase_flat]
    exact List.take_left' (by rw [List.length_append, htl, hnl]; omega)
  · rw [List.length_eraseIdx]
    simp [hl]
    omega

/-- what the clearing of the last element leaves -/
theorem del_clear {tb : TypeId} {w2 : World} {g cap k : Nat} {cur2 : Array Value} {ys : List Value} (hg : w2.heap[g]? = some (.cells cur2 tb (0, 0))) (hs : cur2.size = cap * 2) (hk : k + 1 ≤ cap) (hl : ys.length = k * 2) (ht : cur2.toList.take (k * 2) = ys) (c : Nat) :
    ∃ w3, (∀ ty, (Builtin.clear_ #[25] ty #[.slice (some ⟨g, k * 2, none⟩) 1 c]).run Try.prog w2 = .ok (.tuple #[]) w3) ∧ RowV tb 2 w3 g cap k ys ∧ w2.grownBy w3 (some g) := by
  obtain ⟨i0, hi0, hz0, hz1, hz2⟩ := info_parts infoE
  refine ⟨_, fun ty => run_clear_gen (P := Try.prog) w2 25 ty 27 i0 _ Try.underlying25 hi0 hz0 g (k * 2) 1 c (by omega) cur2 hg ?_ ?_, ?_, grown_setRow _ _ _⟩
  · rw [zero1]; simp [Value.oneCell']
  · rw [zero1s, hs]; omega
  · refine ⟨_, setRow_heap w2 g cur2 _ tb _ hg, ?_, by omega, hl, ?_⟩
    · rw [zero1, zero1s]
      simp only [List.size_toArray, List.length_append, List.length_take, List.length_drop, Array.length_toList, List.length_cons, List.length_nil, hs]
      omega
    · rw [ht, List.append_assoc]
      exact List.take_left' hl
theorem grown_of_drew {w w' : World} {r : Option Nat} (h : w.drew.grownBy w' r) : w.grownBy w' r := ⟨h.os, h.tape, h.output, h.size, h.block⟩
set_option maxHeartbeats 1000000 in
theorem delete_any {tb : TypeId} (g cap k i : Nat) (xs : List Rg) (w : World) (hR : RowV tb 2 w g cap (k + 1) (xs.flatMap pairV)) (hi : i ≤ k) (hc : cap ≤ maxLen) :
    Calls Try.prog 30 #[.slice (some ⟨g, 0, none⟩) (k + 1) cap, .int .i64 i, .int .i64 (i + 1)] w fun e w' => e = .returned (.slice (some ⟨g, 0, none⟩) k cap) ∧ RowV tb 2 w' g cap k ((xs.eraseIdx i).flatMap pairV) ∧ w.grownBy w' (some g) := by
  obtain ⟨i0, hi0, hz0, hz1, hz2⟩ := info_parts infoE
  have hkc : k + 1 ≤ cap := by obtain ⟨_, _, _, h, _⟩ := hR; exact h
  unfold maxLen at hc
  have HR := Lib.hid hR
  clear hR
  have hb1 : ((i : Int) == (i : Int) + 1) = false := by simp; omega
  by_cases hcap : cap = i + 1
  · have hik : i = k := by omega
    obtain ⟨cur2, hr, hs2, ht2, hl2, hg2⟩ := del_row HR.out hi ⟨g, 0, none⟩ (fun h => absurd h (by omega)) 0
    have RUN := Lib.hid hr
    have S2 := Lib.hid hs2
    have T2 := Lib.hid ht2
    have L2 := Lib.hid hl2
    have G2 := Lib.hid hg2
    clear hr hs2 ht2 hl2 hg2
    subst hik
    subst hcap
    have hici : (i : Int) ≤ (i : Int) + 1 := by omega
    have hr0 := RUN.out
    rw [Nat.sub_self] at hr0
    have RUN := Lib.hid hr0
    clear hr0
    have hnn : (0 : Int) ≤ (i : Int) + 1 := by omega
    have htn : ((i : Int) + 1).toNat = i + 1 := by omega
    go_enter Try.func30, Try.ntmps30
    go_wp2_with fail
    go_region_law (refine step_of_wp _ rfl (wp_append_run _ (.tmp 22) (.tmp 25) 25 25 rfl (.slice (some ⟨g, 0, none⟩) i (i + 1)) (.slice (some ⟨g, 0, none⟩) 0 0) _ _ (by simp [Act.eval, Act.put]) (by simp [Act.eval, Act.put]) RUN.out ?_))
    have GR := Lib.hid (grown_of_drew (grown_setRow w.drew g cur2))
    generalize w.drew.setRow g cur2 = w2 at *
    obtain ⟨w3, hclr, hR3, hg3⟩ := del_clear G2.out S2.out hkc (by rw [pair_len, L2.out]) T2.out 1
    have R3 := Lib.hid hR3
    have G3 := Lib.hid (grown_trans GR.out hg3)
    clear hR3 hg3 RUN htn hnn
    go_wp2_with fail
    go_ret
    exact ⟨rfl, R3.out, G3.out⟩
  · obtain ⟨cur2, hr, hs2, ht2, hl2, hg2⟩ := del_row HR.out hi ⟨g, (i + 1) * 2, none⟩ (fun _ => rfl) (cap - (i + 1))
    have RUN := Lib.hid hr
    have S2 := Lib.hid hs2
    have T2 := Lib.hid ht2
    have L2 := Lib.hid hl2
    have G2 := Lib.hid hg2
    clear hr hs2 ht2 hl2 hg2
    have hic : i ≤ cap := by omega
    have hic1 : i ≤ k := hi
    have hic2 : i + 1 ≤ k + 1 := by omega
    have hic3 : i + 1 ≤ cap := by omega
    have hnn : (0 : Int) ≤ (i : Int) + 1 := by omega
    have htn : ((i : Int) + 1).toNat = i + 1 := by omega
    go_enter Try.func30, Try.ntmps30
    go_wp2_with fail
    go_region_law (refine step_of_wp _ rfl (wp_append_run _ (.tmp 22) (.tmp 25) 25 25 rfl (.slice (some ⟨g, 0, none⟩) i cap) (.slice (some ⟨g, (i + 1) * 2, none⟩) (k - i) (cap - (i + 1))) _ _ (by simp [Act.eval, Act.put]) (by simp [Act.eval, Act.put]) RUN.out ?_))
    have GR := Lib.hid (grown_of_drew (grown_setRow w.drew g cur2))
    generalize w.drew.setRow g cur2 = w2 at *
    obtain ⟨w3, hclr, hR3, hg3⟩ := del_clear G2.out S2.out hkc (by rw [pair_len, L2.out]) T2.out (cap - k)
    have R3 := Lib.hid hR3
    have G3 := Lib.hid (grown_trans GR.out hg3)
    clear hR3 hg3 RUN htn hnn
    go_wp2_with fail
    go_ret
    exact ⟨rfl, R3.out, G3.out⟩

/-- the list with x at index i -/
def insAt (xs : List Rg) (i : Nat) (x : Rg) : List Rg := xs.take i ++ x :: xs.drop i
theorem ins_flat (xs : List Rg) (i : Nat) (x : Rg) : (insAt xs i x).flatMap pairV = (xs.take i).flatMap pairV ++ (pairV x ++ (xs.drop i).flatMap pairV) := by
  simp [insAt, List.flatMap_append]
theorem zE (w : World) : (Go.sizeOf 27).run Try.prog w = .ok 2 w := by
  obtain ⟨i0, hi0, hz0, hz1, hz2⟩ := info_parts infoE
  simp [sizeOf, typeInfo, hi0, hz1]
theorem overlaps_own {P : Program} (w : World) (tS tR e : TypeId) (ht : P.underlying tS = some (.slice e)) (size : Nat) (hz : ∀ w, (Go.sizeOf e).run P w = .ok size w)
    (a b : Addr) (la ca lb cb : Nat) (hne : a.block ≠ b.block) {va vb : Array Value} {ta tb : TypeId} {fa : Nat × Nat} (ha : w.heap[a.block]? = some (.cells va ta fa)) (hva : 0 < va.size) (hb : w.heap[b.block]? = some (.cells vb tb (0, 0))) :
    (Extern.SlicesOverlaps.overlaps #[tS, tS] #[tR] #[.slice (some a) la ca, .slice (some b) lb cb]).run P w = .ok (.bool false) w := by
  have hnb : (a.block != b.block) = true := by simpa using hne
  have hnb' : (a.block == b.block) = false := by simpa using hne
  have hsa : w.shape? a.block = some (ta, va.size) := by simp [World.shape?, ha]
  have hsb : w.shape? b.block = some (tb, vb.size) := by simp [World.shape?, hb]
  have hfb : ∀ o sp, w.frozen? { block := b.block, off := o, spot := sp } = false := fun o sp => by simp [World.frozen?, hb]
  have hfb' : w.frozen? b = false := hfb _ _
  change Sem.run P (α := Value) (do
    let some t := (#[tS, tS] : Array TypeId)[0]? | stuck "slices.overlaps: no parameter types"
    let .slice elem ← underlying t | stuck "slices.overlaps: slice type expected"
    let size ← sizeOf elem
    match (some a : Option Addr), (some b : Option Addr) with
    | some a, some b =>
      if la = 0 ∨ lb = 0 ∨ size = 0 then pure (Value.bool false)
      else if a.block != b.block && (← frozen a) && (← frozen b) then unsupported .addressObserved
      else do
        if a.block != b.block then do
          noView a; noView b
          if ← mayBeOne a b then return Value.bool ((← choose (.extern "sameAddr.stringBytes" 2)) == 1)
        pure (Value.bool (a.block == b.block && a.off < b.off + lb * size && b.off < a.off + la * size))
    | _, _ => pure (Value.bool false)) w = _
  by_cases h0 : la = 0 ∨ lb = 0 ∨ size = 0
  · simp [run_underlying ht, hz, h0]
  · cases hk : va.size with
    | zero => omega
    | succ k =>
      rw [hk] at hsa
      simp only [hnb, hnb', frozen, noView, viewAt, mayBeOne, stringish, shape]
      cases h1 : w.frozen? a <;> cases h2 : w.frozen? { block := a.block, off := k + 1 } <;> simp [run_underlying ht, hz, h0, Sem.run, hsa, hsb, hfb, h1, h2]
theorem no_overlap {w : World} {g cap m c0 gv ov : Nat} {tb : TypeId} {cur : Array Value} {x : Rg} (hne : gv ≠ g) (hg : w.heap[g]? = some (.cells cur tb (0, 0))) (hx : PairAt w gv ov x) (o : Nat) :
    (callFunc 42 #[.slice (some ⟨gv, ov, none⟩) 1 c0, .slice (some ⟨g, o, none⟩) m cap]).run Try.prog w = .ok (.value (.bool false)) w := by
  have h0 := hx 0 (.int .i64 x.1) rfl
  rw [add_eq] at h0
  unfold World.cell? at h0
  dsimp only at h0
  cases hh : w.heap[gv]? with
  | none => rw [hh] at h0; cases h0
  | some ob =>
    rw [hh] at h0
    cases ob with
    | cells va ta fa =>
      have hva : 0 < va.size := by
        apply Classical.byContradiction
        intro hc
        have : va.size = 0 := by omega
        simp only [Option.isSome_none] at h0
        rw [if_neg (by simp), Array.getElem?_eq_none (by omega)] at h0
        cases h0
      rw [run_callFunc_extern Try.func42 (by kernel_rfl) (by kernel_rfl) (by kernel_rfl) (e := Extern.SlicesOverlaps.overlaps #[25, 25] #[4]) (by kernel_rfl),
        overlaps_own w 25 4 27 Try.underlying25 2 zE ⟨gv, ov, none⟩ ⟨g, o, none⟩ 1 c0 m cap hne hh hva hg]
      rfl
    | _ => cases h0
theorem take3 {a b : Nat} (A B C : List Value) (c : Nat) (ha : A.length = a) (hb : B.length = b) : (A ++ (B ++ C)).take (a + b + c) = A ++ (B ++ C.take c) := by
  subst ha; subst hb
  rw [Nat.add_assoc, List.take_length_add_append, List.take_length_add_append]
/-- the first copy: everything from i on goes one further -/
theorem ins_copy1 {tb : TypeId} {w : World} {g cap n i : Nat} {xs : List Rg} (hR : RowV tb 2 w g cap n (xs.flatMap pairV)) (hi : i < n) (hc : n + 1 ≤ cap) (c1 c2 : Nat) :
    ∃ cur1 : Array Value, (∀ ty, (Builtin.copy_ #[25, 25] ty #[.slice (some ⟨g, (i + 1) * 2, none⟩) (n - i) c1, .slice (some ⟨g, i * 2, none⟩) (n + 1 - i) c2]).run Try.prog w.drew = .ok (goInt ((n - i : Nat) : Int)) (w.drew.setRow g cur1)) ∧
      cur1.size = cap * 2 ∧ (cur1.toList.take (i * 2) = (xs.take i).flatMap pairV) ∧ ((cur1.toList.drop (i * 2 + 2)).take ((n - i) * 2) = (xs.drop i).flatMap pairV) ∧ (w.drew.setRow g cur1).heap[g]? = some (.cells cur1 tb (0, 0)) := by
  obtain ⟨i0, hi0, hz0, hz1, hz2⟩ := info_parts infoE
  have hsl := hR.sl
  obtain ⟨cur, hg, hcs, hnc, hxl, htake⟩ := hR
  have hl : xs.length = n := by rw [pair_len] at hxl; omega
  have hnl : ((xs.drop i).flatMap pairV).length = (n - i) * 2 := by rw [pair_len, List.length_drop]; omega
  have hmin : Nat.min (n + 1 - i) (n - i) = n - i := Nat.min_eq_right (by omega)
  have hcells : ∀ j u, ((xs.drop i).flatMap pairV)[j]? = some u → w.drew.cell? ((⟨g, i * 2, none⟩ : Addr).add j) = some u := by
    intro j u hu
    rw [add_eq]
    obtain ⟨b, o, e, _, hc⟩ := hsl.2 (by omega)
    injection e with e
    injection e with e1 e2
    subst e1; subst e2
    have := hc (i * 2 + j) u (by rw [flat_drop, List.getElem?_drop] at hu; exact hu)
    rw [Nat.zero_add] at this
    exact this
  have hr := fun ty => run_copy_gen (P := Try.prog) w.drew 25 ty 27 i0 Try.underlying25 hi0 g ((i + 1) * 2) (n - i) c1 cur hg ⟨g, i * 2, none⟩ (n + 1 - i) c2 ((xs.drop i).flatMap pairV) (by rw [hnl, hz1, hmin]) hcells (pair_one _) (by rw [hnl, hcs]; omega)
  rw [hmin] at hr
  refine ⟨_, hr, ?_, ?_, ?_, setRow_heap w.drew g cur _ tb _ hg⟩
  · simp only [List.size_toArray, List.length_append, List.length_take, List.length_drop, Array.length_toList, hnl, hcs]
    omega
  · simp only [List.append_assoc]
    rw [List.take_append_of_le_length (by simp [hcs]; omega), List.take_take, flat_take, ← htake, List.take_take]
    congr 1
    omega
  · simp only [List.append_assoc]
    have hlen : (cur.toList.take ((i + 1) * 2)).length = i * 2 + 2 := by simp [hcs]; omega
    rw [← hlen, List.drop_left, ← hnl, List.take_left]
/-- the second copy: the element goes into its place -/
theorem ins_copy2 {tb : TypeId} {w : World} {g cap n i c0 : Nat} {gv ov : Nat} {xs : List Rg} {x : Rg} {cur1 : Array Value} (hg : w.heap[g]? = some (.cells cur1 tb (0, 0))) (hs : cur1.size = cap * 2) (hi : i < n) (hc : n + 1 ≤ cap) (hl : xs.length = n)
    (h1 : cur1.toList.take (i * 2) = (xs.take i).flatMap pairV) (h2 : (cur1.toList.drop (i * 2 + 2)).take ((n - i) * 2) = (xs.drop i).flatMap pairV) (hx : PairAt w gv ov x) (d c1 : Nat) (hd : 1 ≤ d) :
    ∃ w2, (∀ ty, (Builtin.copy_ #[25, 25] ty #[.slice (some ⟨g, i * 2, none⟩) d c1, .slice (some ⟨gv, ov, none⟩) 1 c0]).run Try.prog w = .ok (goInt 1) w2) ∧ RowV tb 2 w2 g cap (n + 1) ((insAt xs i x).flatMap pairV) ∧ w.grownBy w2 (some g) := by
  obtain ⟨i0, hi0, hz0, hz1, hz2⟩ := info_parts infoE
  have hxc := hx
  have hone : ∀ u ∈ pairV x, u.oneCell' = true := by
    have := pair_one [x]
    simpa using this
  have hpl : (pairV x).length = 2 := rfl
  have hmin : Nat.min 1 d = 1 := Nat.min_eq_left hd
  have hr := fun ty => run_copy_gen (P := Try.prog) w 25 ty 27 i0 Try.underlying25 hi0 g (i * 2) d c1 cur1 hg ⟨gv, ov, none⟩ 1 c0 (pairV x) (by rw [hpl, hz1, hmin]) hxc hone (by rw [hpl, hs]; omega)
  rw [hmin] at hr
  refine ⟨_, hr, ⟨_, setRow_heap w g cur1 _ tb _ hg, ?_, hc, ?_, ?_⟩, grown_setRow _ _ _⟩
  · simp only [List.size_toArray, List.length_append, List.length_take, List.length_drop, Array.length_toList, hpl, hs]
    omega
  · rw [pair_len]; simp [insAt, hl]; omega
  · rw [ins_flat, h1, hpl, ← h2]
    have hl1 : ((xs.take i).flatMap pairV).length = i * 2 := by rw [pair_len, List.length_take]; omega
    simp only [List.append_assoc]
    rw [show (n + 1) * 2 = i * 2 + 2 + (n - i) * 2 by omega]
    exact take3 _ _ _ _ hl1 hpl

set_option maxRecDepth 100000 in
set_option maxHeartbeats 2000000 in
theorem insert_shift {tb : TypeId} (g cap n i c0 : Nat) (gv ov : Nat) (xs : List Rg) (x : Rg) (w : World) (hR : RowV tb 2 w g cap n (xs.flatMap pairV)) (hi : i < n) (hc : n + 1 ≤ cap) (hcm : cap ≤ maxLen) (hn : n ≤ 1000000) (hne : gv ≠ g) (hx : PairAt w gv ov x) :
    Calls Try.prog 25 #[.slice (some ⟨g, 0, none⟩) n cap, .int .i64 i, .slice (some ⟨gv, ov, none⟩) 1 c0] w fun e w' => e = .returned (.slice (some ⟨g, 0, none⟩) (n + 1) cap) ∧ RowV tb 2 w' g cap (n + 1) ((insAt xs i x).flatMap pairV) ∧ w.grownBy w' (some g) := by
  have hov : ∀ m c o, (callFunc 42 #[.slice (some ⟨gv, ov, none⟩) 1 c0, .slice (some ⟨g, o, none⟩) m c]).run Try.prog w = .ok (.value (.bool false)) w := by
    obtain ⟨cur, hg, _⟩ := hR
    exact fun m c o => no_overlap hne hg hx o
  have hl : xs.length = n := by obtain ⟨_, _, _, _, h, _⟩ := hR; rw [pair_len] at h; omega
  obtain ⟨cur1, hr1, hs1, ht1, hd1, hg1⟩ := ins_copy1 hR hi hc (cap - (i + 1)) (cap - i)
  have hx1 : PairAt (w.drew.setRow g cur1) gv ov x := hx.same (setRow_other w.drew g gv cur1 hne)
  obtain ⟨w2, hr2, hR2, hG2⟩ := ins_copy2 (x := x) (c0 := c0) hg1 hs1 hi hc hl ht1 hd1 hx1 (n + 1 - i) (cap - i) (by omega)
  have RUN1 := Lib.hid hr1
  have R2 := Lib.hid hR2
  have G2 := Lib.hid (grown_trans (grown_of_drew (grown_setRow w.drew g cur1)) hG2)
  clear hr1 hs1 ht1 hd1 hg1 hx1 hR2 hG2 hR hl hx
  unfold maxLen at hcm
  have hb1 : ((i : Int) == (n : Int)) = false := by simp; omega
  have hcap1 : ¬ cap = i := by omega
  have hcap2 : ¬ cap = i + 1 := by omega
  go_enter Try.func25, Try.ntmps25
  go_wp2_with fail
  have hwr : IntKind.i64.wrap ((i : Int) + 1) = (i : Int) + 1 := IntWalk.i64_in ((i : Int) + 1) (by omega)
  have hnn : (0 : Int) ≤ (i : Int) + 1 := by omega
  have htn : ((i : Int) + 1).toNat = i + 1 := by omega
  have hle1 : i + 1 ≤ n + 1 := by omega
  have hle2 : i ≤ n + 1 := by omega
  have hle3 : i ≤ n := by omega
  have hle4 : (i : Int) + 1 ≤ (n : Int) + 1 := by omega
  have hle5 : (i : Int) ≤ (n : Int) + 1 := by omega
  go_region_law (refine step_of_wp _ rfl (wp_copy_run _ (.tmp 73) (.tmp 76) 25 25 rfl (.slice (some ⟨g, (i + 1) * 2, none⟩) (n - i) (cap - (i + 1))) (.slice (some ⟨g, i * 2, none⟩) (n + 1 - i) (cap - i)) _ _ (by simp [Act.eval, Act.put]) (by simp [Act.eval, Act.put]) (RUN1.out _) ?_))
  clear hwr hnn htn hle4 hle5
  generalize w.drew.setRow g cur1 = w1 at *
  go_wp2_with fail
  go_ret
  exact ⟨rfl, R2.out, G2.out⟩

/-- the new row: what is before i, and zeros -/
theorem grow1 {tb : TypeId} {w : World} {g cap n i : Nat} {xs : List Rg} (hR : RowV tb 2 w g cap n (xs.flatMap pairV)) (hi : i < n) (hc : cap = n) (hn : n ≤ 1000000) :
    ∃ (C : Nat) (wA : World) (curA : Array Value), (∀ ty, (Builtin.append_ #[25, 3] ty #[.slice (some ⟨g, 0, none⟩) i cap, .int .i64 ((n : Int) + 1 - (i : Int))]).run Try.prog w = .ok (.slice (some ⟨w.heap.size, 0, none⟩) (n + 1) C) wA) ∧
      n + 1 ≤ C ∧ C ≤ maxLen ∧ wA.heap[w.heap.size]? = some (.cells curA 27 (0, 0)) ∧ curA.size = C * 2 ∧ curA.toList.take (i * 2) = (xs.take i).flatMap pairV ∧ Below w.heap.size w wA := by
  obtain ⟨i0, hi0, hz0, hz1, hz2⟩ := info_parts infoE
  have hsl := hR.sl
  obtain ⟨cur, hg, hcs, hnc, hxl, htake⟩ := hR
  have hl : xs.length = n := by rw [pair_len] at hxl; omega
  have htl : ((xs.take i).flatMap pairV).length = i * 2 := by rw [pair_len, List.length_take]; omega
  have hcells : ∀ j u, ((xs.take i).flatMap pairV)[j]? = some u → w.cell? ((⟨g, 0, none⟩ : Addr).add j) = some u := by
    intro j u hu
    rw [add_eq]
    obtain ⟨b, o, e, _, hc⟩ := hsl.2 (by omega)
    injection e with e
    injection e with e1 e2
    subst e1; subst e2
    have hj := (List.getElem?_eq_some_iff.1 hu).1
    refine hc j u ?_
    rw [flat_take, List.getElem?_take_of_lt (by omega)] at hu
    exact hu
  have hk : ((n + 1 - i : Nat) : Int) = (n : Int) + 1 - (i : Int) := by omega
  have hne : i + (n + 1 - i) = n + 1 := by omega
  have hr := fun ty => run_zeros_grow (P := Try.prog) w 25 3 ty 27 .i64 i0 _ Try.underlying25 Try.underlying3 hi0 hz0 (by omega) ⟨g, 0, none⟩ i cap ((xs.take i).flatMap pairV) (by rw [htl, hz1]) hcells (n + 1 - i) (by omega) (by omega) (by omega) (growslice_fits (by omega) (by rw [hz2]; omega)) (by rw [hz2]; omega)
  rw [hk, hne] at hr
  have hge := grownCap_ge w (n + 1) cap 27
  refine ⟨_, _, _, hr, hge, grownCap_le_maxLen w (n + 1) cap 27 (by simp only [maxLen]; omega), heap_alloc_new w.drew _, ?_, ?_, ?_⟩
  · simp only [Array.size_append, List.size_toArray, size_zeroCells, htl]
    simp only [Value.cells, List.size_toArray, List.length_cons, List.length_nil]
    omega
  · simp only [Array.toList_append, List.append_assoc]
    exact List.take_left' htl
  · exact ⟨rfl, rfl, rfl, by simp, fun k hk => Below.heap_alloc w.drew _ k hk⟩
/-- the element into its place of the new row -/
theorem grow2 {w : World} {g C n i c0 : Nat} {gv ov : Nat} {xs : List Rg} {x : Rg} {cur1 : Array Value} (hg : w.heap[g]? = some (.cells cur1 27 (0, 0))) (hs : cur1.size = C * 2) (hi : i < n) (hc : n + 1 ≤ C) (hl : xs.length = n)
    (h1 : cur1.toList.take (i * 2) = (xs.take i).flatMap pairV) (hx : PairAt w gv ov x) (d c1 : Nat) (hd : 1 ≤ d) :
    ∃ cur2 : Array Value, (∀ ty, (Builtin.copy_ #[25, 25] ty #[.slice (some ⟨g, i * 2, none⟩) d c1, .slice (some ⟨gv, ov, none⟩) 1 c0]).run Try.prog w = .ok (goInt 1) (w.setRow g cur2)) ∧ (w.setRow g cur2).heap[g]? = some (.cells cur2 27 (0, 0)) ∧
      cur2.size = C * 2 ∧ cur2.toList.take (i * 2 + 2) = (xs.take i).flatMap pairV ++ pairV x := by
  obtain ⟨i0, hi0, hz0, hz1, hz2⟩ := info_parts infoE
  have hxc := hx
  have hone : ∀ u ∈ pairV x, u.oneCell' = true := by
    have := pair_one [x]
    simpa using this
  have hpl : (pairV x).length = 2 := rfl
  have hmin : Nat.min 1 d = 1 := Nat.min_eq_left hd
  have hl1 : ((xs.take i).flatMap pairV).length = i * 2 := by rw [pair_len, List.length_take]; omega
  have hr := fun ty => run_copy_gen (P := Try.prog) w 25 ty 27 i0 Try.underlying25 hi0 g (i * 2) d c1 cur1 hg ⟨gv, ov, none⟩ 1 c0 (pairV x) (by rw [hpl, hz1, hmin]) hxc hone (by rw [hpl, hs]; omega)
  rw [hmin] at hr
  refine ⟨_, hr, setRow_heap w g cur1 _ 27 _ hg, ?_, ?_⟩
  · simp only [List.size_toArray, List.length_append, List.length_take, List.length_drop, Array.length_toList, hpl, hs]
    omega
  · rw [h1]
    exact List.take_left' (by rw [List.length_append, hl1, hpl])
/-- the rest behind it -/
theorem grow3 {tb : TypeId} {w : World} {g gs cap C n i : Nat} {xs : List Rg} {x : Rg} {cur2 : Array Value} (hg : w.heap[g]? = some (.cells cur2 27 (0, 0))) (hs : cur2.size = C * 2) (hi : i < n) (hc : n + 1 ≤ C) (hl : xs.length = n)
    (h1 : cur2.toList.take (i * 2 + 2) = (xs.take i).flatMap pairV ++ pairV x) (hR : RowV tb 2 w gs cap n (xs.flatMap pairV)) (c1 c2 : Nat) :
    ∃ w3, (∀ ty, (Builtin.copy_ #[25, 25] ty #[.slice (some ⟨g, (i + 1) * 2, none⟩) (n - i) c1, .slice (some ⟨gs, i * 2, none⟩) (n - i) c2]).run Try.prog w.drew = .ok (goInt ((n - i : Nat) : Int)) w3) ∧ RowV 27 2 w3 g C (n + 1) ((insAt xs i x).flatMap pairV) ∧ w.grownBy w3 (some g) := by
  obtain ⟨i0, hi0, hz0, hz1, hz2⟩ := info_parts infoE
  have hsl := hR.sl
  have hnl : ((xs.drop i).flatMap pairV).length = (n - i) * 2 := by rw [pair_len, List.length_drop]; omega
  have hmin : Nat.min (n - i) (n - i) = n - i := Nat.min_self _
  have hcells : ∀ j u, ((xs.drop i).flatMap pairV)[j]? = some u → w.drew.cell? ((⟨gs, i * 2, none⟩ : Addr).add j) = some u := by
    intro j u hu
    rw [add_eq]
    obtain ⟨b, o, e, _, hc⟩ := hsl.2 (by omega)
    injection e with e
    injection e with e1 e2
    subst e1; subst e2
    have := hc (i * 2 + j) u (by rw [flat_drop, List.getElem?_drop] at hu; exact hu)
    rw [Nat.zero_add] at this
    exact this
  have hr := fun ty => run_copy_gen (P := Try.prog) w.drew 25 ty 27 i0 Try.underlying25 hi0 g ((i + 1) * 2) (n - i) c1 cur2 hg ⟨gs, i * 2, none⟩ (n - i) c2 ((xs.drop i).flatMap pairV) (by rw [hnl, hz1, hmin]) hcells (pair_one _) (by rw [hnl, hs]; omega)
  rw [hmin] at hr
  refine ⟨_, hr, ⟨_, setRow_heap w.drew g cur2 _ 27 _ hg, ?_, hc, ?_, ?_⟩, grown_of_drew (grown_setRow _ _ _)⟩
  · simp only [List.size_toArray, List.length_append, List.length_take, List.length_drop, Array.length_toList, hnl, hs]
    omega
  · rw [pair_len]; simp [insAt, hl]; omega
  · rw [ins_flat, show (i + 1) * 2 = i * 2 + 2 by omega, h1]
    have hl1 : ((xs.take i).flatMap pairV).length = i * 2 := by rw [pair_len, List.length_take]; omega
    simp only [List.append_assoc]
    rw [show (n + 1) * 2 = i * 2 + 2 + (n - i) * 2 by omega]
    rw [take3 (a := i * 2) (b := 2) _ _ _ _ hl1 rfl, ← hnl, List.take_left]

set_option maxRecDepth 100000 in
set_option maxHeartbeats 2000000 in
theorem insert_grow {tb : TypeId} (g cap n i c0 : Nat) (gv ov : Nat) (xs : List Rg) (x : Rg) (w : World) (hR : RowV tb 2 w g cap n (xs.flatMap pairV)) (hi : i < n) (hc : cap = n) (hn : n ≤ 1000000) (hx : PairAt w gv ov x) :
    Calls Try.prog 25 #[.slice (some ⟨g, 0, none⟩) n cap, .int .i64 i, .slice (some ⟨gv, ov, none⟩) 1 c0] w fun e w' => ∃ C, e = .returned (.slice (some ⟨w.heap.size, 0, none⟩) (n + 1) C) ∧ C ≤ maxLen ∧ RowV 27 2 w' w.heap.size C (n + 1) ((insAt xs i x).flatMap pairV) ∧ Below w.heap.size w w' := by
  have hl : xs.length = n := by obtain ⟨_, _, _, _, h, _⟩ := hR; rw [pair_len] at h; omega
  have hgl : g < w.heap.size := by obtain ⟨_, h, _⟩ := hR; exact lt_of_block h
  obtain ⟨C, wA, curA, hrA, hC1, hC2, hgA, hsA, htA, hbA⟩ := grow1 hR hi hc hn
  obtain ⟨cur2, hr2, hg2, hs2, ht2⟩ := grow2 (x := x) (c0 := c0) hgA hsA hi hC1 hl htA (hx.below hbA) (n + 1 - i) (C - i) (by omega)
  have hb2 : Below w.heap.size w (wA.setRow w.heap.size cur2) := hbA.grown (grown_setRow wA w.heap.size cur2) hbA.size (fun k hk => by injection hk with hk; omega)
  have hR2 : RowV tb 2 (wA.setRow w.heap.size cur2) g cap n (xs.flatMap pairV) := by
    obtain ⟨cur, hg, h⟩ := hR
    exact ⟨cur, (hb2.block g hgl).trans hg, h⟩
  obtain ⟨w3, hr3, hR3, hG3⟩ := grow3 (x := x) hg2 hs2 hi hC1 hl ht2 hR2 (C - (i + 1)) (cap - i)
  have hb3 : Below w.heap.size w w3 := hb2.grown hG3 hb2.size (fun k hk => by injection hk with hk; omega)
  have RUN3 := Lib.hid hr3
  have R3 := Lib.hid hR3
  have B3 := Lib.hid hb3
  have HC2 := Lib.hid hC2
  have hC3 : C ≤ 9223372036854775807 := by simpa [maxLen] using hC2
  clear hr3 hR3 hb3 hG3 hgA hsA htA hbA hg2 hs2 ht2 hb2 hR2 hR hl hx hC2
  generalize hw2 : wA.setRow w.heap.size cur2 = w2 at *
  clear hw2
  subst hc
  have RUNA := Lib.hid hrA
  clear hrA
  have hb1 : ((i : Int) == (cap : Int)) = false := by simp; omega
  have hcap1 : ¬ cap = i := by omega
  have hcap2 : ¬ C = i := by omega
  have hcap3 : ¬ C = i + 1 := by omega
  go_enter Try.func25, Try.ntmps25
  go_wp2_with (at_builtin; refine wpList_plain rfl (fun K hK => wp_append_run _ (.tmp 34) (.tmp 39) 25 3 rfl _ _ _ _ rfl rfl (RUNA.out _) (hK _ _ ?_)))
  have hwr : IntKind.i64.wrap ((i : Int) + 1) = (i : Int) + 1 := IntWalk.i64_in ((i : Int) + 1) (by omega)
  have hnn : (0 : Int) ≤ (i : Int) + 1 := by omega
  have htn : ((i : Int) + 1).toNat = i + 1 := by omega
  have hle1 : i + 1 ≤ cap + 1 := by omega
  have hle2 : i ≤ cap + 1 := by omega
  have hle3 : i ≤ cap := by omega
  have hle4 : (i : Int) + 1 ≤ (cap : Int) + 1 := by omega
  have hle5 : (i : Int) ≤ (cap : Int) + 1 := by omega
  go_region_law (refine step_of_wp _ rfl (wp_copy_run _ (.tmp 50) (.tmp 53) 25 25 rfl (.slice (some ⟨w.heap.size, (i + 1) * 2, none⟩) (cap - i) (C - (i + 1))) (.slice (some ⟨g, i * 2, none⟩) (cap - i) (cap - i)) _ _ (by simp [Act.eval, Act.put]) (by simp [Act.eval, Act.put]) (RUN3.out _) ?_))
  clear hwr hnn htn hle4 hle5
  go_wp2_with fail
  go_ret
  exact ⟨C, rfl, HC2.out, R3.out, B3.out⟩

set_option maxRecDepth 100000 in
set_option maxHeartbeats 1000000 in
theorem insert_end {tb : TypeId} (g cap n c0 : Nat) (gv ov : Nat) (xs : List Rg) (x : Rg) (w : World) (hR : RowV tb 2 w g cap n (xs.flatMap pairV)) (hcm : cap ≤ maxLen) (hn : n ≤ 1000000) (hx : PairAt w gv ov x) :
    Calls Try.prog 25 #[.slice (some ⟨g, 0, none⟩) n cap, .int .i64 n, .slice (some ⟨gv, ov, none⟩) 1 c0] w fun e w' => ∃ (T' : TypeId) (g' cap' : Nat), e = .returned (.slice (some ⟨g', 0, none⟩) (n + 1) cap') ∧ cap' ≤ maxLen ∧ RowV T' 2 w' g' cap' (n + 1) ((xs ++ [x]).flatMap pairV) ∧
      ((g' = g ∧ w.grownBy w' (some g)) ∨ (w.heap.size ≤ g' ∧ Below w.heap.size w w')) := by
  obtain ⟨i0, hi0, hz0, hz1, hz2⟩ := info_parts infoE
  have hsl := hR.sl
  obtain ⟨cur, hg, hcs, hnc, hxl, htake⟩ := hR
  have hl : xs.length = n := by rw [pair_len] at hxl; omega
  have hone : ∀ u ∈ pairV x, u.oneCell' = true := by
    have := pair_one [x]
    simpa using this
  have hfl : (xs ++ [x]).flatMap pairV = xs.flatMap pairV ++ pairV x := by simp [List.flatMap_append]
  by_cases hroom : n + 1 ≤ cap
  · have hr := run_app_room (P := Try.prog) (ty := 25) (c := c0) (cap := cap) (k := 1) (n := n) (ad := ⟨gv, ov, none⟩) w Try.underlying25 hi0 hg (news := pairV x) (by rw [hz1]; rfl) hx hone hroom (by rw [hz1, hcs]; simp only [pairV, List.length_cons, List.length_nil]; omega)
    have HRx : RowV tb 2 (w.setRow g (over cur.toList (n * 2) (pairV x)).toArray) g cap (n + 1) ((xs ++ [x]).flatMap pairV) := by
      refine ⟨_, setRow_heap w g cur _ tb _ hg, ?_, hroom, by rw [hfl, List.length_append, hxl]; simp only [pairV, List.length_cons, List.length_nil]; omega, ?_⟩
      · simp only [over, List.size_toArray, List.length_append, List.length_take, List.length_drop, Array.length_toList, hcs, pairV, List.length_cons, List.length_nil]
        omega
      · rw [hfl]
        simp only [over]
        rw [htake]
        exact List.take_left' (by rw [List.length_append, hxl]; simp only [pairV, List.length_cons, List.length_nil]; omega)
    rw [hz1] at hr
    have HR := Lib.hid HRx
    have RUN := Lib.hid hr
    have GR := Lib.hid (grown_setRow w g (over cur.toList (n * 2) (pairV x)).toArray)
    clear HRx hr hsl hg hcs htake hxl hl hfl hx hone
    have HC := Lib.hid hcm
    unfold maxLen at hcm
    by_cases hcn : cap = n
    · omega
    · go_enter Try.func25, Try.ntmps25
      go_wp2_with (at_builtin; refine wpList_plain rfl (fun K hK => wp_append_run _ (.tmp 23) (.tmp 24) 25 25 rfl _ _ _ _ rfl rfl RUN.out (hK _ _ ?_)))
      go_ret
      exact ⟨tb, g, cap, rfl, HC.out, HR.out, Or.inl ⟨rfl, GR.out⟩⟩
  · have hcn : cap = n := by omega
    have hcells : ∀ b, some (⟨g, 0, none⟩ : Addr) = some b → ∀ (j : Nat) (u : Value), (xs.flatMap pairV)[j]? = some u → w.cell? (b.add j) = some u := by
      intro b hb j u hu
      injection hb with hb
      subst hb
      have hj := (List.getElem?_eq_some_iff.1 hu).1
      obtain ⟨b, o, e, _, hc⟩ := hsl.2 (by omega)
      injection e with e
      injection e with e1 e2
      subst e1; subst e2
      rw [add_eq]
      exact hc j u hu
    have hr := run_app_grow (P := Try.prog) (ty := 25) w Try.underlying25 hi0 hz0 (base := some ⟨g, 0, none⟩) (n := n) (cap := cap) (olds := xs.flatMap pairV) (by rw [hz1]; exact hxl) (fun h => by cases h) hcells (ad := ⟨gv, ov, none⟩) (k := 1) (c := c0) (news := pairV x) (by rw [hz1]; rfl) hx (by omega) (by omega) (by rw [hz2]; omega) (by omega)
    have hge := grownCap_ge w (n + 1) cap 27
    have HC := Lib.hid (show grownCap w (n + 1) cap 27 ≤ maxLen from grownCap_le_maxLen w (n + 1) cap 27 (by simp only [maxLen]; omega))
    have HRx : RowV 27 2 (w.drew.alloc (.cells ((xs.flatMap pairV).toArray ++ (pairV x).toArray ++ Builtin.zeroCells (Value.cells (.agg #[.int .i64 0, .int .i64 0])) (grownCap w (n + 1) cap 27 - (n + 1))) 27)) w.heap.size (grownCap w (n + 1) cap 27) (n + 1) ((xs ++ [x]).flatMap pairV) := by
      refine ⟨_, heap_alloc_new w.drew _, ?_, hge, by rw [hfl, List.length_append, hxl]; simp only [pairV, List.length_cons, List.length_nil]; omega, ?_⟩
      · simp only [Array.size_append, List.size_toArray, size_zeroCells, hxl, pairV, List.length_cons, List.length_nil]
        simp only [Value.cells, List.size_toArray, List.length_cons, List.length_nil]
        omega
      · rw [hfl]
        simp only [Array.toList_append]
        exact List.take_left' (by rw [List.length_append, hxl]; simp only [pairV, List.length_cons, List.length_nil]; omega)
    have HBx : Below w.heap.size w (w.drew.alloc (.cells ((xs.flatMap pairV).toArray ++ (pairV x).toArray ++ Builtin.zeroCells (Value.cells (.agg #[.int .i64 0, .int .i64 0])) (grownCap w (n + 1) cap 27 - (n + 1))) 27)) := ⟨rfl, rfl, rfl, by simp, fun k hk => Below.heap_alloc w.drew _ k hk⟩
    generalize w.drew.alloc (.cells ((xs.flatMap pairV).toArray ++ (pairV x).toArray ++ Builtin.zeroCells (Value.cells (.agg #[.int .i64 0, .int .i64 0])) (grownCap w (n + 1) cap 27 - (n + 1))) 27) = w2 at hr HRx HBx
    have HB := Lib.hid HBx
    have HR := Lib.hid HRx
    have RUN := Lib.hid hr
    clear HRx HBx hr hsl hg hcs htake hxl hl hfl hx hone hge hroom hcells hnc
    unfold maxLen at hcm
    subst hcn
    go_enter Try.func25, Try.ntmps25
    go_wp2_with (at_builtin; refine wpList_plain rfl (fun K hK => wp_append_run _ (.tmp 23) (.tmp 24) 25 25 rfl _ _ _ _ rfl rfl RUN.out (hK _ _ ?_)))
    go_ret
    exact ⟨27, w.heap.size, _, rfl, HC.out, HR.out, Or.inr ⟨Nat.le_refl _, HB.out⟩⟩
set_option maxRecDepth 100000 in
set_option maxHeartbeats 1000000 in
theorem insert_none (B : Option Addr) (c0 : Nat) (gv ov : Nat) (x : Rg) (w : World) (hx : PairAt w gv ov x) :
    Calls Try.prog 25 #[.slice B 0 0, .int .i64 0, .slice (some ⟨gv, ov, none⟩) 1 c0] w fun e w' => ∃ (cap' : Nat), e = .returned (.slice (some ⟨w.heap.size, 0, none⟩) 1 cap') ∧ cap' ≤ maxLen ∧ RowV 27 2 w' w.heap.size cap' 1 ([x].flatMap pairV) ∧ Below w.heap.size w w' := by
  obtain ⟨i0, hi0, hz0, hz1, hz2⟩ := info_parts infoE
  have hfl : [x].flatMap pairV = pairV x := by simp
  have hr := run_app_grow (P := Try.prog) (ty := 25) w Try.underlying25 hi0 hz0 (base := B) (n := 0) (cap := 0) (olds := []) (by simp) (fun _ => ⟨rfl, rfl⟩) (fun b _ j u hu => by simp at hu) (ad := ⟨gv, ov, none⟩) (k := 1) (c := c0) (news := pairV x) (by rw [hz1]; rfl) hx (by omega) (by omega) (by rw [hz2]; omega) (by omega)
  have hge := grownCap_ge w (0 + 1) 0 27
  have HC := Lib.hid (show grownCap w (0 + 1) 0 27 ≤ maxLen from grownCap_le_maxLen w (0 + 1) 0 27 (by simp only [maxLen]; omega))
  have HRx : RowV 27 2 (w.drew.alloc (.cells (([] : List Value).toArray ++ (pairV x).toArray ++ Builtin.zeroCells (Value.cells (.agg #[.int .i64 0, .int .i64 0])) (grownCap w (0 + 1) 0 27 - (0 + 1))) 27)) w.heap.size (grownCap w (0 + 1) 0 27) 1 ([x].flatMap pairV) := by
    refine ⟨_, heap_alloc_new w.drew _, ?_, hge, by rw [hfl]; rfl, ?_⟩
    · simp only [Array.size_append, List.size_toArray, size_zeroCells, pairV, List.length_cons, List.length_nil]
      simp only [Value.cells, List.size_toArray, List.length_cons, List.length_nil]
      omega
    · rw [hfl]
      simp only [Array.toList_append, List.nil_append]
      exact List.take_left' rfl
  have HBx : Below w.heap.size w (w.drew.alloc (.cells (([] : List Value).toArray ++ (pairV x).toArray ++ Builtin.zeroCells (Value.cells (.agg #[.int .i64 0, .int .i64 0])) (grownCap w (0 + 1) 0 27 - (0 + 1))) 27)) := ⟨rfl, rfl, rfl, by simp, fun k hk => Below.heap_alloc w.drew _ k hk⟩
  generalize w.drew.alloc (.cells (([] : List Value).toArray ++ (pairV x).toArray ++ Builtin.zeroCells (Value.cells (.agg #[.int .i64 0, .int .i64 0])) (grownCap w (0 + 1) 0 27 - (0 + 1))) 27) = w2 at hr HRx HBx
  have HB := Lib.hid HBx
  have HR := Lib.hid HRx
  have RUN := Lib.hid hr
  clear HRx HBx hr hfl hx hge
  cases B with
  | none =>
    go_enter Try.func25, Try.ntmps25
    go_wp2_with (at_builtin; refine wpList_plain rfl (fun K hK => wp_append_run _ (.tmp 23) (.tmp 24) 25 25 rfl _ _ _ _ rfl rfl RUN.out (hK _ _ ?_)))
    go_ret
    exact ⟨_, rfl, HC.out, HR.out, HB.out⟩
  | some b =>
    go_enter Try.func25, Try.ntmps25
    go_wp2_with (at_builtin; refine wpList_plain rfl (fun K hK => wp_append_run _ (.tmp 23) (.tmp 24) 25 25 rfl _ _ _ _ rfl rfl RUN.out (hK _ _ ?_)))
    go_ret
    exact ⟨_, rfl, HC.out, HR.out, HB.out⟩
section
variable {A : Type} (enc : A → List D) (pr : A → Rg) (henc : ∀ x, enc x = [.v (.int .i64 (pr x).1), .v (.int .i64 (pr x).2)])
theorem relD_v {S : Nat → Prop} {w : World} {u z : Value} (h : RelD S w (.v u) z) : z = u := by
  cases h
  rfl
theorem pairV_get (l : List Rg) {i j : Nat} (hj : j < 2) : (l.flatMap pairV)[i * 2 + j]? = (l[i]?).bind fun x => (pairV x)[j]? := by
  by_cases hi : i < l.length
  · rw [List.getElem?_eq_getElem hi]
    exact flat_get pairV 2 (fun _ => rfl) l i j hi hj
  · rw [List.getElem?_eq_none (show (l.flatMap pairV).length ≤ i * 2 + j by rw [pair_len]; omega), List.getElem?_eq_none (show l.length ≤ i by omega)]
    rfl
include henc in
theorem row_of_own {S : Nat → Prop} {w : World} {s : List A} {g cap : Nat} {T : TypeId} {cur : Array Value} (hh : w.heap[g]? = some (.cells cur T (0, 0))) (hle : (s.map enc).length ≤ cap) (hc : cur.size = cap * 2)
    (hr : ∀ (i j : Nat) (e : List D) (x : D), (s.map enc)[i]? = some e → e[j]? = some x → ∃ v, cur[i * 2 + j]? = some v ∧ RelD S w x v) : RowV T 2 w g cap s.length ((s.map pr).flatMap pairV) := by
  rw [List.length_map] at hle
  refine ⟨cur, hh, hc, hle, by rw [pair_len, List.length_map], ?_⟩
  apply List.ext_getElem?
  intro k
  by_cases hk : k < s.length * 2
  · rw [List.getElem?_take_of_lt hk]
    obtain ⟨i, j, hj, rfl⟩ : ∃ i j, j < 2 ∧ k = i * 2 + j := ⟨k / 2, k % 2, by omega, by omega⟩
    have hi : i < s.length := by omega
    rw [pairV_get _ hj, List.getElem?_map, List.getElem?_eq_getElem hi]
    have he : (s.map enc)[i]? = some (enc s[i]) := by rw [List.getElem?_map, List.getElem?_eq_getElem hi]; rfl
    simp only [Option.map_some, Option.bind_some, Array.getElem?_toList]
    match j, hj with
    | 0, _ =>
      obtain ⟨v, h1, h2⟩ := hr i 0 _ (.v (.int .i64 (pr s[i]).1)) he (by rw [henc]; rfl)
      cases h2
      rw [h1]
      rfl
    | 1, _ =>
      obtain ⟨v, h1, h2⟩ := hr i 1 _ (.v (.int .i64 (pr s[i]).2)) he (by rw [henc]; rfl)
      cases h2
      rw [h1]
      rfl
  · rw [List.getElem?_eq_none (by rw [List.length_take]; omega), List.getElem?_eq_none (by rw [pair_len, List.length_map]; omega)]
include henc in
theorem own_of_row {w : World} {r : List A} {g cap n : Nat} {T : TypeId} (h : RowV T 2 w g cap n ((r.map pr).flatMap pairV)) (hcm : cap ≤ maxLen) (hn : r.length = n) : OwnAt (fun _ => False) w 2 (r.map enc) (.slice (some ⟨g, 0, none⟩) n cap) (some g) := by
  obtain ⟨cur, hh, hs, hle, hl, ht⟩ := h
  subst hn
  refine ⟨fun e he => ?_, Or.inr ⟨g, T, cur, cap, rfl, by rw [List.length_map], hh, by rw [List.length_map]; exact hle, hcm, hs, fun i j e x h1 h2 => ?_⟩⟩
  · obtain ⟨x, _, rfl⟩ := List.mem_map.1 he
    rw [henc]
    rfl
  · rw [List.getElem?_map] at h1
    cases hq : r[i]? with
    | none => rw [hq] at h1; cases h1
    | some y =>
      rw [hq] at h1
      injection h1 with h1
      subst h1
      have hi := (List.getElem?_eq_some_iff.1 hq).1
      rw [henc] at h2
      have hj : j < 2 := by have := (List.getElem?_eq_some_iff.1 h2).1; simpa using this
      have hc := congrArg (fun l => l[i * 2 + j]?) ht
      rw [pairV_get _ hj, List.getElem?_map, hq, List.getElem?_take_of_lt (by omega), Array.getElem?_toList] at hc
      simp only [Option.map_some, Option.bind_some] at hc
      match j, hj with
      | 0, _ => injection h2 with h2; subst h2; exact ⟨_, hc, .v _ rfl⟩
      | 1, _ => injection h2 with h2; subst h2; exact ⟨_, hc, .v _ rfl⟩
/-- what slices.Insert and slices.Delete compute, of one element -/
def insP {A : Type} (s : List A) (i : Int) (vs : List A) : Option (List A) :=
  (chkO (decide (0 ≤ i) && decide (i ≤ (s.length : Int)) && decide (s.length ≤ 1000000) && decide (vs.length = 1))).bind fun _ => some (s.take i.toNat ++ vs ++ s.drop i.toNat)
def delP {A : Type} (s : List A) (i j : Int) : Option (List A) :=
  (chkO (decide (0 ≤ i) && decide (j = i + 1) && decide (j ≤ (s.length : Int)) && decide (s.length ≤ 1000000))).bind fun _ => some (s.eraseIdx i.toNat)
include henc in
theorem insert_fnw {s vs r : List A} {i : Int} (h : insP s i vs = some r) : FnW False Try.prog 25 2 (s.map enc) [.d (.v (.int .i64 i)), .d (.fz (vs.map enc))] (.tup [.ow 2 (r.map enc)]) := by
  unfold insP at h
  cases hc : (decide (0 ≤ i) && decide (i ≤ (s.length : Int)) && decide (s.length ≤ 1000000) && decide (vs.length = 1))
  · rw [hc] at h; cases h
  rw [hc] at h
  injection h with h
  simp only [Bool.and_eq_true, decide_eq_true_eq] at hc
  obtain ⟨⟨⟨h0, h1⟩, h2⟩, h3⟩ := hc
  obtain ⟨x, rfl⟩ : ∃ x, vs = [x] := by
    cases vs with
    | nil => simp at h3
    | cons x vs =>
      cases vs with
      | nil => exact ⟨x, rfl⟩
      | cons y vs => simp at h3
  obtain ⟨k, rfl⟩ : ∃ k : Nat, i = (k : Int) := ⟨i.toNat, by omega⟩
  rw [Int.toNat_natCast] at h
  have hrl : r.length = s.length + 1 := by rw [← h]; simp; omega
  have hrp : r.map pr = insAt (s.map pr) k (pr x) := by rw [← h]; simp [insAt, List.map_take, List.map_drop]
  refine ⟨Try.call25, fun w A S sl b vals hA hS hown hb hrel => ?_⟩
  obtain ⟨v1, l1, hv, r1, hrel⟩ := hrel.cons_inv
  obtain ⟨v2, l2, rfl, r2, hrel⟩ := hrel.cons_inv
  obtain rfl : l2 = [] := List.eq_nil_of_length_eq_zero hrel.1
  have hvals : vals = #[v1, v2] := Array.ext' hv
  subst hvals
  have e1 : v1 = .int .i64 (k : Int) := by cases r1 with | d r1 => cases r1; rfl
  subst e1
  cases r2 with
  | d r2 =>
    have henx := henc x
    cases r2 with
    | fz es gv ov sz c ws hsz hgv hcap hcell hrr =>
      have hsz2 : sz = 2 := by
        have := hsz (enc x) (by simp)
        rw [henx] at this
        exact this.symm
      subst hsz2
      have hxx : PairAt w gv ov (pr x) := by
        intro j u hu
        rw [add_eq]
        have hj : j < 2 := (List.getElem?_eq_some_iff.1 hu).1
        have hcj := hcell j (by simpa using hj)
        have hd : ([x].map enc)[0]? = some (enc x) := rfl
        match j, hj, hu, hcj with
        | 0, _, hu, hcj =>
          have := hrr 0 0 _ (.v (.int .i64 (pr x).1)) hd (by rw [henx]; rfl)
          have hw : ws 0 = .int .i64 (pr x).1 := relD_v this
          rw [hw] at hcj
          injection hu with hu
          rw [← hu]
          exact hcj
        | 1, _, hu, hcj =>
          have := hrr 0 1 _ (.v (.int .i64 (pr x).2)) hd (by rw [henx]; rfl)
          have hw : ws 1 = .int .i64 (pr x).2 := relD_v this
          rw [hw] at hcj
          injection hu with hu
          rw [← hu]
          exact hcj
      obtain ⟨ho1, ho2⟩ := hown
      rcases ho2 with ⟨rfl, he, B, rfl⟩ | ⟨g, T, cur, cap, rfl, rfl, hh, hle, hcm, hcs, hrc⟩
      · have hs : s = [] := by simpa using he
        subst hs
        have hk : k = 0 := by simp at h1; omega
        subst hk
        refine (insert_none B c gv ov (pr x) w hxx).mono ?_
        rintro e w' ⟨cap', rfl, hcm', hR, hB⟩
        have hr1 : r = [x] := by rw [← h]; simp
        subst hr1
        refine ⟨_, rfl, ⟨hB.os, hB.tape, hB.output, hB.size, fun q hq _ => hB.block q hq, fun h => h.elim⟩, fun _ => False, some w.heap.size, fun _ h => h.elim, own_of_row enc pr henc hR hcm' rfl, fun q hq => ?_⟩
        injection hq with hq
        subst hq
        obtain ⟨cur', hh', _⟩ := hR
        exact ⟨Or.inr (Nat.le_refl _), lt_of_block hh', fun h => h⟩
      · have hR := row_of_own enc pr henc hh hle hcs hrc
        obtain ⟨hbl, hbA⟩ := hb g rfl
        have hne : gv ≠ g := fun e => hbA (by rw [← e]; exact hgv)
        have hlen : ((s.map enc).length : Int) = (s.length : Int) := by rw [List.length_map]
        rw [List.length_map]
        by_cases hkn : k = s.length
        · subst hkn
          refine (insert_end g cap s.length c gv ov (s.map pr) (pr x) w hR hcm h2 hxx).mono ?_
          rintro e w' ⟨T', g', cap', rfl, hcm', hR', hcase⟩
          have hpp : s.map pr ++ [pr x] = r.map pr := by
            rw [hrp]
            unfold insAt
            rw [List.take_of_length_le (by simp), List.drop_eq_nil_of_le (by simp)]
          rw [hpp] at hR'
          obtain ⟨cur', hh', hrest⟩ := id hR'
          refine ⟨_, rfl, ?_, fun _ => False, some g', fun _ h => h.elim, own_of_row enc pr henc hR' hcm' hrl, fun q hq => ?_⟩
          · rcases hcase with ⟨rfl, hG⟩ | ⟨_, hB⟩
            · exact ⟨hG.os, hG.tape, hG.output, hG.size, fun q hq hne => hG.block q hq fun e => hne e.symm, fun h => h.elim⟩
            · exact ⟨hB.os, hB.tape, hB.output, hB.size, fun q hq _ => hB.block q hq, fun h => h.elim⟩
          · injection hq with hq
            subst hq
            refine ⟨?_, lt_of_block hh', fun h => h⟩
            rcases hcase with ⟨rfl, _⟩ | ⟨hge, _⟩
            · exact Or.inl rfl
            · exact Or.inr hge
        · have hkl : k < s.length := by omega
          by_cases hroom : s.length + 1 ≤ cap
          · refine (insert_shift g cap s.length k c gv ov (s.map pr) (pr x) w hR hkl hroom hcm h2 hne hxx).mono ?_
            rintro e w' ⟨rfl, hR', hG⟩
            rw [← hrp] at hR'
            obtain ⟨cur', hh', hrest⟩ := id hR'
            refine ⟨_, rfl, ⟨hG.os, hG.tape, hG.output, hG.size, fun q hq hne => hG.block q hq fun e => hne e.symm, fun h => h.elim⟩, fun _ => False, some g, fun _ h => h.elim, own_of_row enc pr henc hR' hcm hrl, fun q hq => ?_⟩
            injection hq with hq
            subst hq
            exact ⟨Or.inl rfl, lt_of_block hh', fun h => h⟩
          · have hcn : cap = s.length := by
              rw [List.length_map] at hle
              omega
            refine (insert_grow g cap s.length k c gv ov (s.map pr) (pr x) w hR hkl hcn h2 hxx).mono ?_
            rintro e w' ⟨C, rfl, hC, hR', hB⟩
            rw [← hrp] at hR'
            obtain ⟨cur', hh', hrest⟩ := id hR'
            refine ⟨_, rfl, ⟨hB.os, hB.tape, hB.output, hB.size, fun q hq _ => hB.block q hq, fun h => h.elim⟩, fun _ => False, some w.heap.size, fun _ h => h.elim, own_of_row enc pr henc hR' hC hrl, fun q hq => ?_⟩
            injection hq with hq
            subst hq
            exact ⟨Or.inr (Nat.le_refl _), lt_of_block hh', fun h => h⟩
include henc in
theorem delete_fnw {s r : List A} {i j : Int} (h : delP s i j = some r) : FnW False Try.prog 30 2 (s.map enc) [.d (.v (.int .i64 i)), .d (.v (.int .i64 j))] (.tup [.ow 2 (r.map enc)]) := by
  unfold delP at h
  cases hc : (decide (0 ≤ i) && decide (j = i + 1) && decide (j ≤ (s.length : Int)) && decide (s.length ≤ 1000000))
  · rw [hc] at h; cases h
  rw [hc] at h
  injection h with h
  simp only [Bool.and_eq_true, decide_eq_true_eq] at hc
  obtain ⟨⟨⟨h0, rfl⟩, h1⟩, h2⟩ := hc
  obtain ⟨k, rfl⟩ : ∃ k : Nat, i = (k : Int) := ⟨i.toNat, by omega⟩
  rw [Int.toNat_natCast] at h
  obtain ⟨n, hn⟩ : ∃ n, s.length = n + 1 := ⟨s.length - 1, by omega⟩
  have hrl : r.length = n := by rw [← h, List.length_eraseIdx, if_pos (by omega), hn]; rfl
  have hrp : r.map pr = (s.map pr).eraseIdx k := by
    rw [← h, List.eraseIdx_eq_take_drop_succ, List.eraseIdx_eq_take_drop_succ, List.map_append, List.map_take, List.map_drop]
  refine ⟨Try.call30, fun w A S sl b vals hA hS hown hb hrel => ?_⟩
  obtain ⟨v1, l1, hv, r1, hrel⟩ := hrel.cons_inv
  obtain ⟨v2, l2, rfl, r2, hrel⟩ := hrel.cons_inv
  obtain rfl : l2 = [] := List.eq_nil_of_length_eq_zero hrel.1
  have hvals : vals = #[v1, v2] := Array.ext' hv
  subst hvals
  have e1 : v1 = .int .i64 (k : Int) := by cases r1 with | d r1 => cases r1; rfl
  have e2 : v2 = .int .i64 ((k : Int) + 1) := by cases r2 with | d r2 => cases r2; rfl
  subst e1 e2
  obtain ⟨ho1, ho2⟩ := hown
  rcases ho2 with ⟨rfl, he, B, rfl⟩ | ⟨g, T, cur, cap, rfl, rfl, hh, hle, hcm, hcs, hrc⟩
  · have hs : s = [] := by simpa using he
    subst hs
    simp at hn
  · have hR := row_of_own enc pr henc hh hle hcs hrc
    rw [hn] at hR
    rw [List.length_map, hn]
    refine (delete_any g cap n k (s.map pr) w hR (by omega) hcm).mono ?_
    rintro e w' ⟨rfl, hR', hG⟩
    rw [← hrp] at hR'
    obtain ⟨cur', hh', hrest⟩ := id hR'
    refine ⟨_, rfl, ⟨hG.os, hG.tape, hG.output, hG.size, fun q hq hne => hG.block q hq fun e => hne e.symm, fun h => h.elim⟩, fun _ => False, some g, fun _ h => h.elim, own_of_row enc pr henc hR' hcm hrl, fun q hq => ?_⟩
    injection hq with hq
    subst hq
    exact ⟨Or.inl rfl, lt_of_block hh', fun h => h⟩
end
end Go.Proofs.Ytomfmjejoocmmaa

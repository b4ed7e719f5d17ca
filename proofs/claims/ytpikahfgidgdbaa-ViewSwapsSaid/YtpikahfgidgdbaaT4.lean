/-
  ViewSwaps, as plain law.
-/
import Derived.Test.YtpikahfgidgdbaaQ
import Derived.Test.YtpikahfgidgdbaaP11
import Derived.Test.YtpikahfgidgdbaaH4
namespace Go.Proofs.Ytpikahfgidgdbaa
open Go.RowKit
theorem other_eq (i : Int) {k : Nat} (hk : k ≤ 1000) : law16_other i (k : Int) = some (sw k i) := by
  unfold law16_other sw
  have hw : IntKind.i64.wrap ((k : Int) + 1) = (k : Int) + 1 := wrap64 (by omega) (by omega)
  rw [hw]
  by_cases h1 : i = (k : Int)
  · rw [if_pos h1, show (i == (k : Int)) = true by simp [h1]]
    rfl
  · rw [if_neg h1, beq_false_of_ne h1, cond_false]
    by_cases h2 : i = (k : Int) + 1
    · rw [if_pos h2, show (i == (k : Int) + 1) = true by simp [h2]]
      rfl
    · rw [if_neg h2, beq_false_of_ne h2]
      rfl
theorem names_eq {e : api_Event} (hc : e.Causes.length ≤ 1000) (id : Int) : ∃ b, law16_names e id = some b ∧ (b = false → e.Target ≠ id ∧ e.Quote ≠ id) := by
  have key : loopF (law16_names_L1 e id) 0 = some (.inr true) ∨ loopF (law16_names_L1 e id) 0 = some (.inl ()) := by
    refine loopF_inv (body := law16_names_L1 e id) (s0 := 0) e.Causes.length (fun i s => s = (i : Int)) (fun o => o = some (.inr true) ∨ o = some (.inl ())) (fun i s hi hJ => ?_) (fun s hJ => ?_) rfl
    · subst hJ
      unfold law16_names_L1
      rw [decide_eq_true (by omega), cond_true, getI_nat, List.getElem?_eq_getElem hi, bind_some_of rfl, wrap64 (by omega) (by omega)]
      cases e.Causes[i] == id
      · exact Or.inl ⟨((i + 1 : Nat) : Int), rfl, rfl⟩
      · exact Or.inr ⟨_, rfl, Or.inl rfl⟩
    · subst hJ
      refine ⟨.inl (), ?_, Or.inr rfl⟩
      unfold law16_names_L1
      rw [decide_eq_false (by omega)]
      rfl
  unfold law16_names
  rcases key with key | key
  · exact ⟨true, by rw [key]; rfl, fun h => by cases h⟩
  · rw [key]
    cases h1 : e.Target == id
    · cases h2 : e.Quote == id
      · exact ⟨false, by rw [seqF_inl rfl]; simp, fun _ => ⟨fun h => by simp [h] at h1, fun h => by simp [h] at h2⟩⟩
      · exact ⟨true, by rw [seqF_inl rfl]; simp, fun h => by cases h⟩
    · exact ⟨true, by rw [seqF_inl rfl]; rfl, fun h => by cases h⟩
theorem exch_eq {A B : List api_Event} {x y : api_Event} (hl : (lA A B x y).length ≤ 1000) (hc : ∀ e ∈ lA A B x y, e.Causes.length ≤ 1000) : law16_exchanged (lA A B x y) ((A.length : Nat) : Int) = some (lB A B x y) := by
  have hk : A.length ≤ 1000 := by rw [lA_len] at hl; omega
  have hn : A.length + 1 < (lA A B x y).length := by rw [lA_len]; omega
  have hlb := lB_len (A := A) (B := B) (x := x) (y := y)
  have key : loopF (law16_exchanged_L2 (lA A B x y) ((A.length : Nat) : Int)) ((0 : Int), ([] : List api_Event)) = some (.inl (lB A B x y)) := by
    refine loopF_inv (body := law16_exchanged_L2 (lA A B x y) ((A.length : Nat) : Int)) (s0 := ((0 : Int), ([] : List api_Event))) (lA A B x y).length (fun i s => s = ((i : Int), (lB A B x y).take i)) (fun o => o = some (.inl (lB A B x y))) (fun i s hi hJ => ?_) (fun s hJ => ?_) (by simp)
    · subst hJ
      refine Or.inl ⟨(((i + 1 : Nat) : Int), (lB A B x y).take (i + 1)), ?_, rfl⟩
      have hsi : swN A.length i < (lA A B x y).length := (swN_lt hn).2 hi
      have hx := List.getElem?_eq_getElem hsi
      have hb : (lB A B x y)[i]? = some (renE A.length (lA A B x y)[swN A.length i]) := by rw [lB_get, hx]; rfl
      have hce := hc _ (List.getElem_mem hsi)
      generalize (lA A B x y)[swN A.length i] = e at *
      unfold law16_exchanged_L2
      dsimp only
      rw [decide_eq_true (by omega), cond_true]
      refine (seqF_inl (a := (lB A B x y).take (i + 1)) ?_).trans (by rw [wrap64 (by omega) (by omega)]; rfl)
      rw [other_eq _ hk, bind_some_of rfl, sw_nat, getI_nat, hx, bind_some_of rfl, other_eq _ hk, bind_some_of rfl, other_eq _ hk, bind_some_of rfl]
      have hcs : loopF (law16_exchanged_L1 e ((A.length : Nat) : Int)) ((0 : Int), ([] : List Int)) = some (.inl (e.Causes.map (sw A.length))) := by
        refine loopF_inv (body := law16_exchanged_L1 e ((A.length : Nat) : Int)) (s0 := ((0 : Int), ([] : List Int))) e.Causes.length (fun i s => s = ((i : Int), (e.Causes.take i).map (sw A.length))) (fun o => o = some (.inl (e.Causes.map (sw A.length)))) (fun i s hi hJ => ?_) (fun s hJ => ?_) (by simp)
        · subst hJ
          refine Or.inl ⟨(((i + 1 : Nat) : Int), (e.Causes.take (i + 1)).map (sw A.length)), ?_, rfl⟩
          have hx := List.getElem?_eq_getElem hi
          unfold law16_exchanged_L1
          dsimp only
          have hcc : decide (((e.Causes.take i).map (sw A.length)).length + [sw A.length e.Causes[i]].length ≤ 1000000) = true := decide_eq_true (by rw [List.length_map, List.length_take]; simp; omega)
          rw [decide_eq_true (by omega), cond_true, getI_nat, hx, bind_some_of rfl, other_eq _ hk, bind_some_of rfl, hcc, chkO_true, wrap64 (by omega) (by omega), List.take_add_one, hx, List.map_append]
          rfl
        · subst hJ
          refine ⟨_, ?_, rfl⟩
          unfold law16_exchanged_L1
          dsimp only
          rw [decide_eq_false (by omega), List.take_length]
          rfl
      refine (seqF_inl hcs).trans ?_
      have htk : (lB A B x y).take (i + 1) = (lB A B x y).take i ++ [renE A.length e] := by rw [List.take_add_one, hb]; rfl
      have hcc : decide (((lB A B x y).take i).length + [renE A.length e].length ≤ 1000000) = true := decide_eq_true (by rw [List.length_take]; simp; omega)
      unfold renE at hcc htk
      rw [hcc, chkO_true, htk]
    · subst hJ
      refine ⟨_, ?_, rfl⟩
      unfold law16_exchanged_L2
      dsimp only
      rw [decide_eq_false (by omega), List.take_of_length_le (by omega)]
      rfl
  unfold law16_exchanged
  rw [key]
  rfl
theorem law16_ViewSwaps_true (a0 : (List api_Event)) (w0 : (a0.length ≤ maxLen ∧ ∀ u3 ∈ a0, (api_Event.Q u3))) (a1 : Int) (w1 : (IntKind.i64.min ≤ a1 ∧ a1 ≤ IntKind.i64.max)) : law16_ViewSwaps a0 a1 = some true := by
  obtain ⟨hlen, hq⟩ := w0
  unfold law16_ViewSwaps
  rw [small_true, bind_some_of rfl]
  obtain ⟨b, hfew, hf⟩ := few_eq a0 hlen
  rw [bind_some_of hfew]
  cases b
  · rfl
  obtain ⟨h30, hfe⟩ := hf rfl
  simp only [Bool.not_true, cond_false]
  by_cases c0 : a1 < 0
  · rw [decide_eq_true c0]; rfl
  rw [decide_eq_false c0, cond_false, wrap64 (n := (a0.length : Int) - 1) (by omega) (by omega)]
  by_cases c1 : (a0.length : Int) - 1 ≤ a1
  · rw [decide_eq_true c1]; rfl
  rw [decide_eq_false c1, cond_false]
  obtain ⟨k, rfl⟩ : ∃ k : Nat, a1 = (k : Int) := ⟨a1.toNat, by omega⟩
  have hk : k + 1 < a0.length := by omega
  obtain ⟨A, x, y, B, hl, hA⟩ : ∃ A x y B, a0 = lA A B x y ∧ A.length = k := by
    refine ⟨a0.take k, a0[k], a0[k + 1], a0.drop (k + 2), ?_, by rw [List.length_take]; omega⟩
    unfold lA
    rw [← List.drop_eq_getElem_cons (show k + 1 < a0.length by omega), ← List.drop_eq_getElem_cons (show k < a0.length by omega), List.take_append_drop]
  subst hA
  subst hl
  have gx : getI (lA A B x y) ((A.length : Nat) : Int) = some x := by
    rw [getI_nat]
    unfold lA
    rw [List.getElem?_append_right (Nat.le_refl _), Nat.sub_self]
    rfl
  have hw1 : IntKind.i64.wrap (((A.length : Nat) : Int) + 1) = ((A.length + 1 : Nat) : Int) := by rw [wrap64 (by omega) (by omega)]; rfl
  have gy : getI (lA A B x y) ((A.length + 1 : Nat) : Int) = some y := by
    rw [getI_nat]
    unfold lA
    rw [List.getElem?_append_right (by omega), show A.length + 1 - A.length = 1 by omega]
    rfl
  have mx : x ∈ lA A B x y := by unfold lA; simp
  have my : y ∈ lA A B x y := by unfold lA; simp
  rw [bind_some_of gx, hw1, bind_some_of gy]
  cases ca : x.Author == y.Author
  rotate_left
  · rfl
  simp only [cond_false]
  have ha : x.Author ≠ y.Author := fun h => by simp [h] at ca
  obtain ⟨b1, hb1, hn1⟩ := names_eq (e := x) (by have := (hfe x mx).1; omega) ((A.length + 1 : Nat) : Int)
  rw [bind_some_of hb1]
  cases b1
  rotate_left
  · rfl
  obtain ⟨b2, hb2, hn2⟩ := names_eq (e := y) (by have := (hfe y my).1; omega) ((A.length : Nat) : Int)
  simp only [cond_false]
  rw [bind_some_of hb2]
  cases b2
  rotate_left
  · rfl
  have hx : x.Target ≠ ((A.length : Nat) : Int) + 1 := fun h => (hn1 rfl).1 (by omega)
  have hy : y.Target ≠ ((A.length : Nat) : Int) := (hn2 rfl).1
  simp only [cond_false]
  have hk1000 : A.length ≤ 1000 := by omega
  rw [bind_some_of (exch_eq (by omega) fun e he => by have := (hfe e he).1; omega), bind_some_of (Q_view (by omega) hfe hq)]
  have hmemB : ∀ e' ∈ lB A B x y, ∃ e ∈ lA A B x y, e' = renE A.length e := fun e' he' => by
    obtain ⟨i, hi⟩ := List.getElem?_of_mem he'
    rw [lB_get] at hi
    cases hq2 : (lA A B x y)[swN A.length i]? with
    | none => rw [hq2] at hi; cases hi
    | some e =>
      rw [hq2] at hi
      injection hi with hi
      exact ⟨e, List.mem_of_getElem? hq2, hi.symm⟩
  have hvB : view_View (lB A B x y) = some (viewS (lB A B x y)) := view_eq (by rw [lB_len]; omega) fun e' he' => by
    obtain ⟨e, he, rfl⟩ := hmemB e' he'
    exact ⟨by have := (hfe e he).2.1; show e.Files.length ≤ _; omega, (hq e he).1, (hq e he).2.2.2.2.2.2.2.2.1⟩
  have hfB : ∀ e' ∈ lB A B x y, e'.Files.length ≤ 1000000 := fun e' he' => by
    obtain ⟨e, he, rfl⟩ := hmemB e' he'
    have := (hfe e he).2.1
    show e.Files.length ≤ _
    omega
  rw [bind_some_of hvB, viewS_len_sw, bne_self_eq_false, cond_false]
  have hsA := Q_small (l := lA A B x y) (by omega) hfe
  have hsB := viewS_small (l := lB A B x y) (by rw [lB_len]; omega) hfB
  refine seqF_inl (loop_all_true (viewS (lA A B x y)).length (fun i hi => ?_) ?_)
  · obtain ⟨j, m, e1, e2, e3, e4⟩ := viewS_at hi
    have hj := mem_posts.1 (List.mem_of_getElem? e1)
    have hm := List.mem_of_getElem? e2
    obtain ⟨hmv, _⟩ := viewS_the hm e3
    have hpB : postB (lB A B x y) (swN A.length j) = true := by rw [postB_sw]; exact hj
    obtain ⟨m', f1, f2, f3⟩ := find_eq (viewS (lB A B x y)) (by omega) ((swN A.length j : Nat) : Int) (viewS_id hpB)
    obtain ⟨hmv', _⟩ := viewS_the f2 f3
    have hone := one_sw (B := B) hx hy ha hj
    rw [← hmv, ← hmv'] at hone
    have hgm : getI (viewS (lA A B x y)) (i : Int) = some m := by rw [getI_nat]; exact e2
    have hsm := hsA.2 m hm
    unfold law16_ViewSwaps_L1
    rw [decide_eq_true (by omega), cond_true, bind_some_of hgm, other_eq _ hk1000, bind_some_of rfl, e3, sw_nat, bind_some_of f1]
    simp only [Bool.not_true, cond_false]
    rw [other_eq _ hk1000, bind_some_of rfl, other_eq _ hk1000, bind_some_of rfl, other_eq _ hk1000, bind_some_of rfl]
    have hmk : api_Msg.mk (sw A.length m'.Id) m'.Author m'.Group (sw A.length m'.Parent) (sw A.length m'.Quote) m'.Who m'.Text m'.Files m'.Edits m'.Reacts m'.Gone = m := by
      rw [hone]
      simp only [sw_sw]
    rw [hmk, bind_some_of (same_refl m hsm.1 hsm.2)]
    simp only [Bool.not_true, cond_false]
    have hroot := root_sw (B := B) hx hy j j (Nat.le_refl _) hj
    have hans := answers_sw (B := B) hx hy hj
    rw [sw_nat] at hroot hans
    rw [bind_some_of rfl, view_root_eq (lB A B x y), bind_some_of rfl, hroot, other_eq _ hk1000, bind_some_of rfl, sw_sw, view_root_eq (lA A B x y), bind_some_of rfl, bne_self_eq_false, cond_false, bind_some_of rfl, view_answers_eq (l := lB A B x y) (by rw [lB_len]; omega), bind_some_of rfl, view_answers_eq (l := lA A B x y) (by omega), bind_some_of rfl, hans, bne_self_eq_false, cond_false, wrap64 (by omega) (by omega)]
  · unfold law16_ViewSwaps_L1
    rw [decide_eq_false (by omega)]
    rfl
end Go.Proofs.Ytpikahfgidgdbaa

/-
  ViewThreads, as plain law.
-/
import Derived.Test.YtpikahfgidgdbaaQ
import Derived.Test.YtpikahfgidgdbaaP5
import Derived.Test.YtpikahfgidgdbaaH7
namespace Go.Proofs.Ytpikahfgidgdbaa
open Go.RowKit
theorem posts_lt {l : List api_Event} {j : Nat} (h : j ∈ posts l l.length) : j < l.length := List.mem_range.1 (List.mem_filter.1 h).1
theorem ansT_pw (l : List api_Event) (id : Int) (n : Nat) : (ansT l id n).Pairwise (· < ·) := by
  unfold ansT
  rw [List.pairwise_map]
  have : (List.range n).Pairwise (· < ·) := List.pairwise_lt_range
  exact (this.sublist List.filter_sublist).imp fun h => by omega
theorem ansT_mem {l : List api_Event} {p : Nat} {x : Int} (h : x ∈ ansT l (p : Int) l.length) : ∃ k : Nat, x = (k : Int) ∧ ansB l (p : Int) k = true := by
  unfold ansT at h
  obtain ⟨k, hk, rfl⟩ := List.mem_map.1 h
  exact ⟨k, rfl, (List.mem_filter.1 hk).2⟩
theorem threads_ans {l : List api_Event} (hl : l.length ≤ 1000) {p : Nat} (hp : postB l p = true) {x : api_Msg} (hx : x.Id = (p : Int)) (s18 : Int × Int × Int) (s32 : Int) (h18 : 0 ≤ s18.1 ∧ s18.1 ≤ 1000000) :
    loopF (law16_ViewThreads_L1 (ansT l (p : Int) l.length) (viewS l) x s18 s32) 0 = some (.inl (s18.1 + ((ansT l (p : Int) l.length).length : Int), s32)) := by
  have hal := ansT_len l (p : Int) l.length
  have hvl : (viewS l).length ≤ 1000000 := by unfold viewS; rw [List.length_map]; exact Nat.le_trans (vRun_len l _) (by omega)
  refine loopF_inv (body := law16_ViewThreads_L1 (ansT l (p : Int) l.length) (viewS l) x s18 s32) (s0 := 0) (ansT l (p : Int) l.length).length (fun i q => q = (i : Int)) (fun o => o = some (.inl (s18.1 + ((ansT l (p : Int) l.length).length : Int), s32))) (fun i q hi hJ => ?_) (fun q hJ => ?_) rfl
  · subst hJ
    refine Or.inl ⟨((i + 1 : Nat) : Int), ?_, rfl⟩
    have hg := List.getElem?_eq_getElem hi
    obtain ⟨k, hk, hb⟩ := ansT_mem (List.getElem_mem hi)
    obtain ⟨h1, h2, _⟩ := (ansB_iff l p k).1 hb
    obtain ⟨m, hf, hm, hid⟩ := find_eq (viewS l) hvl (k : Int) (viewS_id h2)
    obtain ⟨j, _, hj2, hj3⟩ := viewS_mem hm
    have hjk : j = k := by omega
    subst hjk
    have hpar : m.Parent = (p : Int) := by rw [hj3]; exact ans_parent hp hb
    unfold law16_ViewThreads_L1
    have hc : (decide ((0 : Int) ≤ (i : Int)) && true) = true := by simp
    rw [decide_eq_true (by omega), cond_true, hc, chkO_true, getI_nat, hg, bind_some_of rfl, hk, bind_some_of hf, wrap64 (n := (i : Int) + 1) (by omega) (by omega)]
    simp only [Bool.not_true, cond_false]
    have hne : (m.Parent != x.Id) = false := by rw [hpar, hx]; simp
    rw [hne, cond_false]
    by_cases h0 : 0 < i
    · rw [decide_eq_true (show (0 : Int) < (i : Int) by omega), cond_true]
      have hw : IntKind.i64.wrap ((i : Int) - 1) = ((i - 1 : Nat) : Int) := by rw [wrap64 (by omega) (by omega)]; omega
      have hc2 : (decide ((0 : Int) ≤ ((i - 1 : Nat) : Int)) && decide (((i - 1 : Nat) : Int) < (((ansT l (p : Int) l.length).length : Nat) : Int))) = true := by
        rw [decide_eq_true (by omega), decide_eq_true (by omega)]; rfl
      have hi1 : i - 1 < (ansT l (p : Int) l.length).length := by omega
      rw [hw, hc2, chkO_true, getI_nat, List.getElem?_eq_getElem hi1, bind_some_of rfl]
      have hlt := List.pairwise_iff_getElem.1 (ansT_pw l (p : Int) l.length) (i - 1) i hi1 hi (by omega)
      rw [hk] at hlt
      rw [decide_eq_false (by omega)]
      rfl
    · rw [decide_eq_false (show ¬ (0 : Int) < (i : Int) by omega)]
      rfl
  · subst hJ
    refine ⟨_, ?_, rfl⟩
    unfold law16_ViewThreads_L1
    rw [decide_eq_false (by omega), cond_false, wrap64 (n := s18.1 + ((ansT l (p : Int) l.length).length : Int)) (by omega) (by omega)]
theorem sum_le {f : Nat → Nat} {m : Nat} : ∀ {l : List Nat}, (∀ x ∈ l, f x ≤ m) → (l.map f).sum ≤ l.length * m
  | [], _ => by simp
  | x :: l, h => by
    have h1 := h x (.head _)
    have h2 := sum_le (l := l) fun y hy => h y (.tail _ hy)
    rw [List.map_cons, List.sum_cons, List.length_cons, Nat.add_mul]
    omega
theorem law16_ViewThreads_true (a0 : (List api_Event)) (w0 : (a0.length ≤ maxLen ∧ ∀ u3 ∈ a0, (api_Event.Q u3))) : law16_ViewThreads a0 = some true := by
  obtain ⟨hlen, hq⟩ := w0
  unfold law16_ViewThreads
  rw [small_true, bind_some_of rfl]
  obtain ⟨b, hfew, hf⟩ := few_eq a0 hlen
  rw [bind_some_of hfew]
  cases b
  · rfl
  obtain ⟨h30, hfe⟩ := hf rfl
  simp only [Bool.not_true, cond_false]
  rw [bind_some_of (Q_view (by omega) hfe hq)]
  have hs1 := Q_small (l := a0) (by omega) hfe
  have hvp := viewS_len a0
  have hpl : (posts a0 a0.length).length ≤ 30 := by
    unfold posts
    exact Nat.le_trans (List.length_filter_le _ _) (by simp; omega)
  have key : loopF (law16_ViewThreads_L2 (viewS a0) a0) ((0 : Int), (0 : Int), (0 : Int)) = some (.inl ((((posts a0 a0.length).map fun (p : Nat) => (ansT a0 (p : Int) a0.length).length).sum : Nat), ((((posts a0 a0.length).filter fun k => decide (0 ≤ parOf a0 k)).length : Nat) : Int))) := by
    refine loopF_inv (body := law16_ViewThreads_L2 (viewS a0) a0) (s0 := ((0 : Int), (0 : Int), (0 : Int))) (viewS a0).length
      (fun i s => s = ((((((posts a0 a0.length).take i).map fun (p : Nat) => (ansT a0 (p : Int) a0.length).length).sum : Nat) : Int), (((((posts a0 a0.length).take i).filter fun k => decide (0 ≤ parOf a0 k)).length : Nat) : Int), (i : Int)))
      (fun o => o = some (.inl ((((posts a0 a0.length).map fun (p : Nat) => (ansT a0 (p : Int) a0.length).length).sum : Nat), ((((posts a0 a0.length).filter fun k => decide (0 ≤ parOf a0 k)).length : Nat) : Int)))) (fun i s hi hJ => ?_) (fun s hJ => ?_) rfl
    · subst hJ
      obtain ⟨j, m, e1, e2, e3, e4⟩ := viewS_at hi
      have hj := mem_posts.1 (List.mem_of_getElem? e1)
      have hjl := posts_lt (List.mem_of_getElem? e1)
      have htk : (posts a0 a0.length).take (i + 1) = (posts a0 a0.length).take i ++ [j] := by
        rw [List.take_add_one, e1]
        rfl
      have hS : (((posts a0 a0.length).take i).map fun (p : Nat) => (ansT a0 (p : Int) a0.length).length).sum ≤ 900 := by
        have h1 := sum_le (f := fun (p : Nat) => (ansT a0 (p : Int) a0.length).length) (m := 30) (l := (posts a0 a0.length).take i) fun x _ => Nat.le_trans (ansT_len a0 x a0.length) h30
        have h2 : ((posts a0 a0.length).take i).length ≤ 30 := by rw [List.length_take]; omega
        have h3 : ((posts a0 a0.length).take i).length * 30 ≤ 30 * 30 := Nat.mul_le_mul_right 30 h2
        omega
      have hB : (((posts a0 a0.length).take i).filter fun k => decide (0 ≤ parOf a0 k)).length ≤ 30 := by
        refine Nat.le_trans (List.length_filter_le _ _) ?_
        rw [List.length_take]
        omega
      refine Or.inl ⟨_, ?_, rfl⟩
      unfold law16_ViewThreads_L2
      dsimp only
      rw [decide_eq_true (by omega), cond_true, htk, List.map_append, List.sum_append, List.filter_append, List.length_append]
      generalize (((posts a0 a0.length).take i).map fun (p : Nat) => (ansT a0 (p : Int) a0.length).length).sum = S at *
      generalize (((posts a0 a0.length).take i).filter fun k => decide (0 ≤ parOf a0 k)).length = B at *
      have hroot := rootS_nat a0 hj
      obtain ⟨r, r1, r2, r3, r4⟩ := rootN_facts a0 j j (Nat.le_refl _) hj
      rw [r1] at hroot
      obtain ⟨top, t1, t2, t3⟩ := find_eq (viewS a0) (by omega) (r : Int) (viewS_id r3)
      obtain ⟨r', _, t5, t6⟩ := viewS_mem t2
      have : r' = r := by omega
      subst this
      have hans : ∀ id : Int, id = (j : Int) → view_Answers a0 id = some (ansT a0 (j : Int) a0.length) := fun id hid => by
        rw [hid, view_answers_eq (by omega)]
        unfold ansS
        rw [msgB_nat, hj]
        rfl
      refine (seqF_inl (a := ((S : Int) + ((ansT a0 (j : Int) a0.length).length : Int), (B : Int) + (bif decide (0 ≤ parOf a0 j) then 1 else 0))) ?_).trans ?_
      · have hgm : getI (viewS a0) (i : Int) = some m := by rw [getI_nat]; exact e2
        rw [bind_some_of hgm, e3, view_root_eq, hroot, bind_some_of rfl, bind_some_of t1]
        simp only [Bool.not_true, cond_false]
        rw [decide_eq_false (show ¬ (j : Int) < (r' : Int) by omega), cond_false, t6, r4, bne_self_eq_false, cond_false, e4]
        by_cases hpar : 0 ≤ parOf a0 j
        · rw [decide_eq_true hpar]
          obtain ⟨p, hp⟩ : ∃ p : Nat, parOf a0 j = (p : Int) := ⟨(parOf a0 j).toNat, by omega⟩
          have hpm := parOf_msg a0 j hpar
          have hplt := parOf_lt a0 j
          rw [hp, msgB_nat] at hpm
          rw [hp] at hplt
          obtain ⟨pm, p1, p2, p3⟩ := find_eq (viewS a0) (by omega) (p : Int) (viewS_id hpm)
          refine (seqF_inl (a := (B : Int) + 1) ?_).trans ?_
          · rw [cond_true, hp, bind_some_of p1]
            simp only [Bool.not_true, cond_false]
            rw [p3, decide_eq_false (show ¬ (j : Int) ≤ (p : Int) by omega), cond_false, view_root_eq, rootS_par a0 hj hp, rootS_nat a0 hj, r1, bind_some_of rfl, bne_self_eq_false, cond_false, wrap64 (by omega) (by omega)]
          · rw [hans _ rfl, bind_some_of rfl]
            exact threads_ans (by omega) hj e3 _ _ ⟨by omega, by omega⟩
        · rw [decide_eq_false hpar]
          refine (seqF_inl (a := (B : Int)) rfl).trans ?_
          rw [hans _ rfl, bind_some_of rfl, cond_false, Int.add_zero]
          exact threads_ans (by omega) hj e3 _ _ ⟨by omega, by omega⟩
      · rw [wrap64 (by omega) (by omega)]
        simp only [List.map_cons, List.map_nil, List.sum_cons, List.sum_nil, List.filter_cons, List.filter_nil]
        by_cases hpar : 0 ≤ parOf a0 j
        · rw [decide_eq_true hpar]
          simp
        · rw [decide_eq_false hpar]
          simp
    · subst hJ
      refine ⟨_, ?_, rfl⟩
      unfold law16_ViewThreads_L2
      dsimp only
      rw [decide_eq_false (by omega), List.take_of_length_le (by omega)]
      rfl
  rw [key]
  refine (seqF_inl rfl).trans ?_
  dsimp only
  rw [count_answers]
  simp only [cond_true, beq_self_eq_true]
  have hm1 : msgB a0 (-1) = false := by unfold msgB; rfl
  have hm2 : msgB a0 (a0.length : Int) = false := by
    unfold msgB
    rw [decide_eq_false (show ¬ (a0.length : Int) < (a0.length : Int) by omega)]
    simp
  have r1 : rootS a0 (-1) = -1 := by unfold rootS; rw [hm1]; rfl
  have r2 : rootS a0 (a0.length : Int) = -1 := by unfold rootS; rw [hm2]; rfl
  have r3 : ansS a0 (a0.length : Int) = [] := by unfold ansS; rw [hm2]; rfl
  rw [view_root_eq, bind_some_of rfl, r1, view_root_eq, view_answers_eq (by omega), r2, r3]
  rfl
end Go.Proofs.Ytpikahfgidgdbaa

/-
  View's laws in plain words: how the reference puts a pair into an ascending list.
-/
import Derived.Test.YtpikahfgidgdbaaP6
namespace Go.Proofs.Ytpikahfgidgdbaa
open Go.RowKit
def ltP (x y : Pr) : Bool := decide (x.1 < y.1) || (decide (x.1 = y.1) && decide (x.2 < y.2))
theorem ltP_iff {x y : Pr} : ltP x y = true ↔ x.1 < y.1 ∨ x.1 = y.1 ∧ x.2 < y.2 := by simp [ltP]
theorem pr_ext {x y : Pr} (h1 : x.1 = y.1) (h2 : x.2 = y.2) : x = y := Prod.ext h1 h2
theorem sort_unique {l x : List Pr} (h : x.Perm l) (hs : x.Pairwise fun a b => ltP a b = true) : x = sortP l := by
  refine List.Perm.eq_of_pairwise (le := fun a b => leP a b = true) (fun a b _ _ h1 h2 => ?_) (hs.imp fun h => ?_) (sortP_pw l) (h.trans (sortP_perm l).symm)
  · rw [leP_iff] at h1 h2
    exact pr_ext (by omega) (by omega)
  · rw [ltP_iff] at h
    rw [leP_iff]
    omega
theorem sortP_lt {l : List Pr} (h : l.Nodup) : (sortP l).Pairwise fun a b => ltP a b = true := by
  have hn : (sortP l).Nodup := (sortP_perm l).nodup_iff.2 h
  refine ((sortP_pw l).and hn).imp fun {a b} h => ?_
  obtain ⟨h1, h2⟩ := h
  rw [leP_iff] at h1
  rw [ltP_iff]
  have : ¬ (a.1 = b.1 ∧ a.2 = b.2) := fun e => h2 (pr_ext e.1 e.2)
  omega
/-- a step of the reference's put -/
def putS (p : Pr) (s : Bool × List Pr) (y : Pr) : Bool × List Pr := bif decide (y = p) then s else bif !s.1 && ltP p y then (true, s.2 ++ [p, y]) else (s.1, s.2 ++ [y])
def putF (p : Pr) (inn : Bool) (l : List Pr) : Bool × List Pr := l.foldl (putS p) (!inn, [])
def putL (p : Pr) (inn : Bool) (l : List Pr) : List Pr := bif !(putF p inn l).1 then (putF p inn l).2 ++ [p] else (putF p inn l).2
theorem putF_snoc (p : Pr) (inn : Bool) (l : List Pr) (y : Pr) : putF p inn (l ++ [y]) = putS p (putF p inn l) y := by unfold putF; rw [List.foldl_append]; rfl
theorem putF_len (p : Pr) (inn : Bool) (l : List Pr) : (putF p inn l).2.length ≤ 2 * l.length := by
  unfold putF
  have : ∀ (l : List Pr) (s : Bool × List Pr), (l.foldl (putS p) s).2.length ≤ s.2.length + 2 * l.length := by
    intro l
    induction l with
    | nil => intro s; exact Nat.le_refl _
    | cons y l ih =>
      intro s
      rw [List.foldl_cons]
      refine Nat.le_trans (ih _) ?_
      have : (putS p s y).2.length ≤ s.2.length + 2 := by
        unfold putS
        cases decide (y = p) <;> cases !s.1 && ltP p y <;> simp
      rw [List.length_cons]
      omega
  have := this l (!inn, [])
  simpa using this
theorem rev_ind {α : Type} {P : List α → Prop} (h0 : P []) (h1 : ∀ l a, P l → P (l ++ [a])) (l : List α) : P l := by
  have : ∀ r : List α, P r.reverse := by
    intro r
    induction r with
    | nil => exact h0
    | cons a r ih => rw [List.reverse_cons]; exact h1 _ a ih
  rw [← List.reverse_reverse l]
  exact this _
/-- what the steps lead to -/
theorem putF_in {p : Pr} : ∀ (l : List Pr), l.Pairwise (fun a b => ltP a b = true) → ((putF p true l).1 = false ∧ (putF p true l).2 = l.filter (fun y => ltP y p) ∧ l.filter (fun y => ltP p y) = []) ∨ ((putF p true l).1 = true ∧ (putF p true l).2 = l.filter (fun y => ltP y p) ++ [p] ++ l.filter (fun y => ltP p y) ∧ l.filter (fun y => ltP p y) ≠ []) := by
  refine rev_ind (fun _ => Or.inl ⟨rfl, rfl, rfl⟩) fun l y ih => ?_
  · intro hs
    obtain ⟨h1, _, h3⟩ := List.pairwise_append.1 hs
    have ih := ih h1
    rw [putF_snoc, List.filter_append, List.filter_append]
    unfold putS
    by_cases hy : y = p
    · subst hy
      have e1 : ltP y y = false := by rw [Bool.eq_false_iff, ne_eq, ltP_iff]; omega
      rw [decide_eq_true rfl, cond_true]
      simp only [List.filter_cons, e1, List.filter_nil, List.append_nil, Bool.false_eq_true, if_false]
      exact ih
    · rw [decide_eq_false hy, cond_false]
      have hne : ¬ (y.1 = p.1 ∧ y.2 = p.2) := fun e => hy (pr_ext e.1 e.2)
      by_cases hlt : ltP p y = true
      · have e1 : ltP y p = false := by rw [Bool.eq_false_iff, ne_eq, ltP_iff]; rw [ltP_iff] at hlt; omega
        simp only [List.filter_cons, e1, hlt, List.filter_nil, List.append_nil, if_true, Bool.false_eq_true, if_false]
        rcases ih with ⟨g1, g2, g3⟩ | ⟨g1, g2, g3⟩
        · refine Or.inr ⟨?_, ?_, by simp⟩
          · rw [g1]; rfl
          · rw [g1, g2, g3]; simp
        · refine Or.inr ⟨?_, ?_, by simp⟩
          · rw [g1]; rfl
          · rw [g1, g2]; simp
      · have hlt' : ltP p y = false := by rw [Bool.eq_false_iff]; exact hlt
        have e1 : ltP y p = true := by rw [ltP_iff]; rw [ltP_iff] at hlt; omega
        simp only [List.filter_cons, e1, hlt', List.filter_nil, List.append_nil, if_true, Bool.false_eq_true, if_false]
        rcases ih with ⟨g1, g2, g3⟩ | ⟨g1, g2, g3⟩
        · refine Or.inl ⟨?_, ?_, by simpa using g3⟩
          · rw [g1]; rfl
          · rw [g1, g2]; rfl
        · exfalso
          obtain ⟨z, hz⟩ := List.exists_mem_of_ne_nil _ g3
          obtain ⟨hz1, hz2⟩ := List.mem_filter.1 hz
          have hzy := h3 z hz1 y (by simp)
          rw [ltP_iff] at hz2 hzy e1
          omega
theorem putF_out {p : Pr} : ∀ (l : List Pr), (putF p false l).1 = true ∧ (putF p false l).2 = l.filter fun y => !decide (y = p) := by
  refine rev_ind ⟨rfl, rfl⟩ fun l y ih => ?_
  · rw [putF_snoc, List.filter_append]
    unfold putS
    by_cases hy : y = p
    · subst hy
      rw [decide_eq_true rfl, cond_true]
      simpa using ih
    · rw [decide_eq_false hy, cond_false, ih.1, ih.2]
      simp [hy]
theorem putL_in {re : List Pr} (hn : re.Nodup) (p : Pr) : putL p true (sortP re) = sortP (putP re p) := by
  have hs := sortP_lt hn
  have hmem : ∀ y, y ∈ sortP re ↔ y ∈ re := fun y => (sortP_perm re).mem_iff
  have e : putL p true (sortP re) = (sortP re).filter (fun y => ltP y p) ++ [p] ++ (sortP re).filter (fun y => ltP p y) := by
    unfold putL
    rcases putF_in (p := p) (sortP re) hs with ⟨g1, g2, g3⟩ | ⟨g1, g2, g3⟩
    · rw [g1, g2, g3]; simp
    · rw [g1, g2]; simp
  have hpw : ((sortP re).filter (fun y => ltP y p) ++ [p] ++ (sortP re).filter (fun y => ltP p y)).Pairwise fun a b => ltP a b = true := by
    refine List.pairwise_append.2 ⟨List.pairwise_append.2 ⟨hs.sublist List.filter_sublist, List.pairwise_singleton _ _, fun a ha b hb => ?_⟩, hs.sublist List.filter_sublist, fun a ha b hb => ?_⟩
    · rw [List.mem_singleton.1 hb]
      exact (List.mem_filter.1 ha).2
    · have hb' := (List.mem_filter.1 hb).2
      rcases List.mem_append.1 ha with ha | ha
      · have ha' := (List.mem_filter.1 ha).2
        rw [ltP_iff] at *
        omega
      · rw [List.mem_singleton.1 ha]
        exact hb'
  rw [e]
  refine sort_unique ?_ hpw
  have hnd : ((sortP re).filter (fun y => ltP y p) ++ [p] ++ (sortP re).filter (fun y => ltP p y)).Nodup := hpw.imp fun {a b} h => fun e => by
    subst e
    rw [ltP_iff] at h
    omega
  refine (List.perm_ext_iff_of_nodup hnd (nodup_putP hn)).2 fun y => ?_
  rw [mem_putP, List.mem_append, List.mem_append, List.mem_filter, List.mem_filter, List.mem_singleton, hmem, ltP_iff, ltP_iff]
  constructor
  · rintro ((h | h) | h)
    · exact Or.inl h.1
    · exact Or.inr h
    · exact Or.inl h.1
  · rintro (h | h)
    · by_cases hyp : y = p
      · exact Or.inl (Or.inr hyp)
      · have : ¬ (y.1 = p.1 ∧ y.2 = p.2) := fun e => hyp (pr_ext e.1 e.2)
        by_cases c : y.1 < p.1 ∨ y.1 = p.1 ∧ y.2 < p.2
        · exact Or.inl (Or.inl ⟨h, c⟩)
        · exact Or.inr ⟨h, by omega⟩
    · exact Or.inl (Or.inr h)
theorem putL_out {re : List Pr} (hn : re.Nodup) (p : Pr) : putL p false (sortP re) = sortP (re.erase p) := by
  have hs := sortP_lt hn
  have e : putL p false (sortP re) = (sortP re).filter fun y => !decide (y = p) := by
    unfold putL
    obtain ⟨g1, g2⟩ := putF_out (p := p) (sortP re)
    rw [g1, g2]
    rfl
  rw [e]
  have hnd : (sortP re).Nodup := (sortP_perm re).nodup_iff.2 hn
  refine sort_unique ((List.perm_ext_iff_of_nodup (hnd.sublist List.filter_sublist) (hn.erase p)).2 fun y => ?_) (hs.sublist List.filter_sublist)
  rw [List.mem_filter, (sortP_perm re).mem_iff, hn.mem_erase_iff]
  simp
  exact ⟨fun h => ⟨h.2, h.1⟩, fun h => ⟨h.2, h.1⟩⟩
theorem ref_put_eq (l : List Pr) (hl : l.length ≤ 1000) (p : Pr) (inn : Bool) : ref16_put (l.map toA) p.1 p.2 inn = some ((putL p inn l).map toA) := by
  have key : loopF (ref16_put_L1 (l.map toA) p.1 p.2) ((!inn), (0 : Int), ([] : List Arr2_Int)) = some (.inl ((putF p inn l).1, (putF p inn l).2.map toA)) := by
    refine loopF_inv (body := ref16_put_L1 (l.map toA) p.1 p.2) (s0 := ((!inn), (0 : Int), ([] : List Arr2_Int))) l.length (fun i s => s = ((putF p inn (l.take i)).1, (i : Int), (putF p inn (l.take i)).2.map toA)) (fun o => o = some (.inl ((putF p inn l).1, (putF p inn l).2.map toA))) (fun i s hi hJ => ?_) (fun s hJ => ?_) rfl
    · subst hJ
      have hx := List.getElem?_eq_getElem hi
      have htk : l.take (i + 1) = l.take i ++ [l[i]] := by rw [List.take_add_one, hx]; rfl
      have hln := putF_len p inn (l.take i)
      rw [List.length_take] at hln
      refine Or.inl ⟨_, ?_, rfl⟩
      rw [htk, putF_snoc]
      generalize putF p inn (l.take i) = s at *
      generalize l[i] = y at *
      unfold ref16_put_L1
      have hg : getI (l.map toA) (i : Int) = some (toA y) := by rw [getI_nat, List.getElem?_map, hx]; rfl
      have hw : IntKind.i64.wrap ((i : Int) + 1) = ((i + 1 : Nat) : Int) := by rw [wrap64 (by omega) (by omega)]; rfl
      have hc1 : decide ((s.2.map toA).length + [Arr2_Int.mk p.1 p.2].length ≤ 1000000) = true := decide_eq_true (by simp; omega)
      have hc2 : decide (((s.2.map toA) ++ [Arr2_Int.mk p.1 p.2]).length + [toA y].length ≤ 1000000) = true := decide_eq_true (by simp; omega)
      have hc3 : decide ((s.2.map toA).length + [toA y].length ≤ 1000000) = true := decide_eq_true (by simp; omega)
      dsimp only
      rw [decide_eq_true (show (i : Int) < ((l.map toA).length : Int) by rw [List.length_map]; omega), cond_true]
      by_cases hy : y = p
      · subst hy
        have : putS y s y = s := by unfold putS; rw [decide_eq_true rfl]; rfl
        rw [this, bind_some_of hg]
        have e1 : ((toA y).a0 == y.1) = true := by simp [toA]
        have e2 : ((toA y).a1 == y.2) = true := by simp [toA]
        rw [e1, e2, hw]
        rfl
      · have hne : ¬ (y.1 = p.1 ∧ y.2 = p.2) := fun e => hy (pr_ext e.1 e.2)
        refine (seqF_inl (a := ()) ?_).trans ?_
        · rw [bind_some_of hg]
          by_cases c1 : y.1 = p.1
          · have c2 : ¬ y.2 = p.2 := fun e => hne ⟨c1, e⟩
            have e1 : ((toA y).a0 == p.1) = true := by simp [toA, c1]
            have e2 : ((toA y).a1 == p.2) = false := by simp [toA, c2]
            rw [e1, e2]
            rfl
          · have e1 : ((toA y).a0 == p.1) = false := by simp [toA, c1]
            rw [e1]
            rfl
        · unfold putS
          rw [decide_eq_false hy, cond_false]
          cases hd : s.1
          · simp only [Bool.not_false, Bool.true_and, cond_true]
            rw [bind_some_of hg]
            by_cases c1 : p.1 < y.1
            · have hlt : ltP p y = true := by rw [ltP_iff]; omega
              have e1 : decide (p.1 < (toA y).a0) = true := decide_eq_true c1
              rw [e1, cond_true, hc1, chkO_true, hc2, chkO_true, hw, hlt]
              simp [toA]
            · have e1 : decide (p.1 < (toA y).a0) = false := decide_eq_false c1
              rw [e1, cond_false]
              by_cases c2 : y.1 = p.1
              · have e2 : ((toA y).a0 == p.1) = true := by simp [toA, c2]
                rw [e2, cond_true]
                by_cases c3 : p.2 < y.2
                · have hlt : ltP p y = true := by rw [ltP_iff]; omega
                  have e3 : decide (p.2 < (toA y).a1) = true := decide_eq_true c3
                  rw [e3, cond_true, hc1, chkO_true, hc2, chkO_true, hw, hlt]
                  simp [toA]
                · have hlt : ltP p y = false := by rw [Bool.eq_false_iff, ne_eq, ltP_iff]; omega
                  have e3 : decide (p.2 < (toA y).a1) = false := decide_eq_false c3
                  rw [e3, cond_false, hc3, chkO_true, hw, hlt]
                  simp
              · have hlt : ltP p y = false := by rw [Bool.eq_false_iff, ne_eq, ltP_iff]; omega
                have e2 : ((toA y).a0 == p.1) = false := by simp [toA, c2]
                rw [e2, cond_false, hc3, chkO_true, hw, hlt]
                simp
          · simp only [Bool.not_true, Bool.false_and, cond_false]
            rw [bind_some_of hg, hc3, chkO_true, hw]
            simp
    · subst hJ
      refine ⟨_, ?_, rfl⟩
      unfold ref16_put_L1
      dsimp only
      rw [decide_eq_false (by rw [List.length_map]; omega), List.take_length]
      rfl
  unfold ref16_put
  rw [key]
  have hln := putF_len p inn l
  refine (seqF_inl rfl).trans ?_
  dsimp only
  unfold putL
  cases (putF p inn l).1
  · have hc : decide (((putF p inn l).2.map toA).length + [Arr2_Int.mk p.1 p.2].length ≤ 1000000) = true := decide_eq_true (by simp; omega)
    simp only [Bool.not_false, cond_true]
    rw [hc, chkO_true, List.map_append]
    rfl
  · rfl
end Go.Proofs.Ytpikahfgidgdbaa

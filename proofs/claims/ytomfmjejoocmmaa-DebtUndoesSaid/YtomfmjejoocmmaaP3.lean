/-
  Adding and confirming debts: what the program and the reference compute (plain law of layer 44).
-/
import Derived.Test.YtomfmjejoocmmaaP2
namespace Go.Proofs.Ytomfmjejoocmmaa
open Go.RowKit
theorem mid_eq {lo hi : Nat} (h : lo + hi ≤ 4000) : IntKind.i64.wrap (Int.fdiv (IntKind.u64.wrap (IntKind.i64.wrap ((lo : Int) + (hi : Int)))) (2 ^ (min (1 : Int).toNat (IntKind.bits .u64)))) = (((lo + hi) / 2 : Nat) : Int) := by
  have h1 : IntKind.i64.wrap ((lo : Int) + (hi : Int)) = ((lo + hi : Nat) : Int) := by rw [wrap64 (by omega) (by omega)]; omega
  have h2 : IntKind.u64.wrap ((lo + hi : Nat) : Int) = ((lo + hi : Nat) : Int) := IntWalk.u64_in _ (by omega)
  have h3 : (2 : Int) ^ (min (1 : Int).toNat (IntKind.bits .u64)) = 2 := rfl
  rw [h1, h2, h3]
  have h4 : Int.fdiv ((lo + hi : Nat) : Int) 2 = (((lo + hi) / 2 : Nat) : Int) := by
    rw [Int.fdiv_eq_ediv_of_nonneg _ (by omega)]
    omega
  rw [h4]
  exact wrap64 (by omega) (by omega)
/-- where a debt is, or would be -/
def posD (l : List api_Debt) (d : api_Debt) : Nat := (l.takeWhile fun x => ltD x d).length
theorem posD_le (l : List api_Debt) (d : api_Debt) : posD l d ≤ l.length := (List.takeWhile_sublist _).length_le
theorem search_loop (l : List api_Debt) (hl : l.length ≤ 1000) (hs : SD l) (d : api_Debt) : loopF (slices_BinarySearchFunc_api_Debt_api_Debt_api_Debt_L1 l debt_compare d) ((0 : Int), (l.length : Int)) = some (.inl (posD l d : Int)) := by
  have hg : ∀ {i : Nat} (h : i < l.length), l.getD i d0 = l[i] := fun h => by rw [List.getD_eq_getElem?_getD, List.getElem?_eq_getElem h]; rfl
  have ord : ∀ i j, i < j → j < l.length → ltD (l.getD i d0) (l.getD j d0) = true := by
    intro i j hij hj
    rw [hg (by omega), hg hj]
    exact (List.pairwise_iff_getElem.1 hs) i j (by omega) hj hij
  refine loopF_by (body := slices_BinarySearchFunc_api_Debt_api_Debt_api_Debt_L1 l debt_compare d) (fun s => ∃ lo hi : Nat, s = ((lo : Int), (hi : Int)) ∧ lo ≤ hi ∧ hi ≤ l.length ∧ (∀ k, k < lo → ltD (l.getD k d0) d = true) ∧ ∀ k, hi ≤ k → k < l.length → ltD (l.getD k d0) d = false) (fun s => (s.2 - s.1).toNat)
    (fun _ r => r = some (.inl (posD l d : Int))) (fun s hs => ?_) _ ⟨0, l.length, rfl, Nat.zero_le _, Nat.le_refl _, fun k hk => by omega, fun k h1 h2 => by omega⟩
  obtain ⟨lo, hi, rfl, h1, h2, h3, h4⟩ := hs
  by_cases hlt : lo < hi
  · left
    have c : decide ((lo : Int) < (hi : Int)) = true := decide_eq_true (by omega)
    have hm : (lo + hi) / 2 < l.length := by omega
    have hw : IntKind.i64.wrap ((((lo + hi) / 2 : Nat) : Int) + 1) = (((lo + hi) / 2 + 1 : Nat) : Int) := by rw [wrap64 (by omega) (by omega)]; omega
    unfold slices_BinarySearchFunc_api_Debt_api_Debt_api_Debt_L1
    simp only [c, cond_true]
    rw [mid_eq (by omega), getI_in d0 hm, bind_s, compare_eq, bind_s, cmpD_lt, hw]
    cases hc : ltD (l.getD ((lo + hi) / 2) d0) d
    · refine ⟨_, rfl, ⟨lo, (lo + hi) / 2, rfl, by omega, by omega, h3, fun k k1 k2 => ?_⟩, by simp only; omega, fun r hr => hr⟩
      by_cases hk : k = (lo + hi) / 2
      · rw [hk]; exact hc
      · cases hx : ltD (l.getD k d0) d
        · rfl
        · rw [ltD_trans (ord _ _ (by omega) k2) hx] at hc
          cases hc
    · refine ⟨_, rfl, ⟨(lo + hi) / 2 + 1, hi, rfl, by omega, h2, fun k hk => ?_, h4⟩, by simp only; omega, fun r hr => hr⟩
      by_cases hk' : k = (lo + hi) / 2
      · rw [hk']; exact hc
      · exact ltD_trans (ord _ _ (by omega) hm) hc
  · right
    have hle : lo = hi := by omega
    subst hle
    refine ⟨.inl (lo : Int), ?_, ?_⟩
    · unfold slices_BinarySearchFunc_api_Debt_api_Debt_api_Debt_L1
      simp only [Int.lt_irrefl, decide_false, cond_false]
    · have hp : posD l d = lo := by
        have hple := posD_le l d
        rcases Nat.lt_trichotomy (posD l d) lo with h | h | h
        · have e := tw_end (fun x => ltD x d) d0 l (show posD l d < l.length by omega)
          have e2 := h3 (posD l d) h
          have e : ltD (l.getD (posD l d) d0) d = false := e
          rw [e] at e2
          cases e2
        · exact h
        · have e := (tw_lt (fun x => ltD x d) d0 l lo h).2
          have e : ltD (l.getD lo d0) d = true := e
          rw [h4 lo (Nat.le_refl _) (by omega)] at e
          cases e
      rw [hp]
theorem pos_has {l : List api_Debt} (hs : SD l) (d : api_Debt) : (bif decide (posD l d < l.length) then eqD (l.getD (posD l d) d0) d else false) = memD l d := by
  have e := List.takeWhile_append_dropWhile (p := fun x => ltD x d) (l := l)
  obtain ⟨e1, e2⟩ := tw_take (fun x => ltD x d) l
  have hn := drop_not (d := d) hs
  have hmem : d ∈ l ↔ d ∈ l.dropWhile fun x => ltD x d := by
    constructor
    · intro h
      rw [← e, List.mem_append] at h
      rcases h with h | h
      · have := take_lt d h
        rw [ltD_irr] at this
        cases this
      · exact h
    · intro h
      exact (List.dropWhile_sublist _).subset h
  have hlen := congrArg List.length e
  rw [List.length_append] at hlen
  apply bool_ext
  rw [memD_iff, hmem]
  by_cases hlt : posD l d < l.length
  · rw [decide_eq_true hlt, cond_true, eqD_iff]
    have hg : l.getD (posD l d) d0 = l[posD l d] := by rw [List.getD_eq_getElem?_getD, List.getElem?_eq_getElem hlt]; rfl
    have hd : l.dropWhile (fun x => ltD x d) = l[posD l d] :: l.drop (posD l d + 1) := e2.symm.trans (List.drop_eq_getElem_cons hlt)
    rw [hg, hd]
    constructor
    · intro h
      rw [h]
      exact List.mem_cons_self
    · intro h
      rcases List.mem_cons.1 h with h | h
      · exact h.symm
      · have hsd : SD (l.dropWhile fun x => ltD x d) := hs.sublist (List.dropWhile_sublist _)
        rw [hd] at hsd
        have := (List.pairwise_cons.1 hsd).1 d h
        have h2 := hn l[posD l d] (by rw [hd]; exact List.mem_cons_self)
        rw [this] at h2
        cases h2
  · rw [decide_eq_false hlt, cond_false]
    have : l.dropWhile (fun x => ltD x d) = [] := List.eq_nil_of_length_eq_zero (by unfold posD at hlt; omega)
    rw [this]
    simp
theorem search_eq (l : List api_Debt) (hl : l.length ≤ 1000) (hs : SD l) (d : api_Debt) : slices_BinarySearchFunc_api_Debt_api_Debt_api_Debt l d debt_compare = some ((posD l d : Int), memD l d) := by
  have hp := pos_has hs d
  unfold slices_BinarySearchFunc_api_Debt_api_Debt_api_Debt
  rw [search_loop l hl hs d, seqF_l]
  by_cases h : posD l d < l.length
  · have c : decide ((posD l d : Int) < (l.length : Int)) = true := decide_eq_true (by omega)
    rw [decide_eq_true h, cond_true] at hp
    simp only [c, cond_true]
    rw [getI_in d0 h, bind_s, compare_eq, bind_s, cmpD_zero, hp]
  · have c : decide ((posD l d : Int) < (l.length : Int)) = false := decide_eq_false (by omega)
    rw [decide_eq_false h, cond_false] at hp
    simp only [c, cond_false]
    rw [hp]
/-- what Add computes -/
def addS (l : List api_Debt) (d : api_Debt) : List api_Debt × Int := bif rightB l && fineD d then (bif memD l d then ([], 5) else (putD l d, 0)) else ([], 1)
/-- what Confirm computes -/
def confS (l : List api_Debt) (d : api_Debt) : List api_Debt × Int := bif rightB l && fineD d then (bif memD l d then (l.filter (fun x => !(eqD x d)), 0) else ([], 4)) else ([], 1)
theorem ins_eq {l : List api_Debt} (hl : l.length ≤ 1000) (d : api_Debt) : insP l (posD l d : Int) [d] = some (putD l d) := by
  have hple := posD_le l d
  obtain ⟨e1, e2⟩ := tw_take (fun x => ltD x d) l
  have e1 : l.take (posD l d) = l.takeWhile fun x => ltD x d := e1
  have e2 : l.drop (posD l d) = l.dropWhile fun x => ltD x d := e2
  have c : (decide (0 ≤ (posD l d : Int)) && decide ((posD l d : Int) ≤ (l.length : Int)) && decide (l.length ≤ 1000000) && decide ([d].length = 1)) = true := by
    simp only [Bool.and_eq_true, decide_eq_true_eq]
    exact ⟨⟨⟨by omega, by omega⟩, by omega⟩, by first | rfl | trivial⟩
  unfold insP
  rw [c, chkO_true, Int.toNat_natCast, e1, e2]
  unfold putD
  simp
theorem clone_eq (l : List api_Debt) (hl : l.length ≤ 1000) : slices_Clone_api_Debt_api_Debt l = some l := by
  have c : decide (l.length ≤ 1000000) = true := decide_eq_true (by omega)
  unfold slices_Clone_api_Debt_api_Debt
  rw [c, chkO_true]
theorem add_eq' (l : List api_Debt) (hl : l.length ≤ 1000) (d : api_Debt) : debt_Add l d = some (addS l d) := by
  unfold debt_Add addS
  rw [right_eq l hl d, bind_s]
  cases h : rightB l && fineD d
  · rfl
  · rw [Bool.and_eq_true] at h
    have hs := (rightB_iff.1 h.1).2
    simp only [Bool.not_true, cond_false, cond_true]
    rw [search_eq l hl hs d, bind_s]
    cases memD l d
    · simp only [cond_false]
      rw [clone_eq l hl, bind_s, ins_eq hl d, bind_s]
    · rfl
theorem ref_add_eq (l : List api_Debt) (hl : l.length ≤ 1000) (d : api_Debt) : ref44_Add l d = some (addS l d) := by
  unfold ref44_Add addS
  rw [ref_right_eq l hl, bind_s]
  cases h : rightB l
  · rfl
  · simp only [Bool.not_true, cond_false, Bool.true_and]
    rw [fine_eq, bind_s]
    cases fineD d
    · rfl
    · simp only [Bool.not_true, cond_false, cond_true]
      rw [has_eq l (by omega), bind_s]
      cases hm : memD l d
      · simp only [cond_false]
        rw [put_eq l (by omega) d (memD_false.1 hm), bind_s]
      · rfl
theorem del_eq {l : List api_Debt} (hl : l.length ≤ 1000) (hs : SD l) {d : api_Debt} (hd : d ∈ l) : delP l (posD l d : Int) (IntKind.i64.wrap ((posD l d : Int) + 1)) = some (l.filter fun x => !(eqD x d)) := by
  have hp := pos_has hs d
  rw [memD_iff.2 hd] at hp
  have hlt : posD l d < l.length := by
    apply Classical.byContradiction
    intro h
    rw [decide_eq_false h, cond_false] at hp
    cases hp
  rw [decide_eq_true hlt, cond_true, eqD_iff] at hp
  have hw : IntKind.i64.wrap ((posD l d : Int) + 1) = (posD l d : Int) + 1 := wrap64 (by omega) (by omega)
  have c : (decide (0 ≤ (posD l d : Int)) && decide ((posD l d : Int) + 1 = (posD l d : Int) + 1) && decide ((posD l d : Int) + 1 ≤ (l.length : Int)) && decide (l.length ≤ 1000000)) = true := by
    simp only [Bool.and_eq_true, decide_eq_true_eq]
    exact ⟨⟨⟨by omega, by first | rfl | trivial⟩, by omega⟩, by omega⟩
  unfold delP
  rw [hw, c, chkO_true, Int.toNat_natCast]
  congr 1
  have hg : l.getD (posD l d) d0 = l[posD l d] := by rw [List.getD_eq_getElem?_getD, List.getElem?_eq_getElem hlt]; rfl
  rw [hg] at hp
  refine sd_uniq (hs.sublist (List.eraseIdx_sublist _ _)) (hs.sublist List.filter_sublist) fun x => ?_
  rw [List.mem_filter]
  have hnd : l.Nodup := by
    refine hs.imp fun {a b} h e => ?_
    subst e
    rw [ltD_irr] at h
    cases h
  rw [List.mem_eraseIdx_iff_getElem]
  have hpi := List.pairwise_iff_getElem.1 hs
  constructor
  · rintro ⟨i, hi, hne, rfl⟩
    refine ⟨List.getElem_mem hi, ?_⟩
    rw [Bool.not_eq_true', eqD_false, ← hp]
    intro e
    rcases Nat.lt_or_gt_of_ne hne with h | h
    · have := hpi i (posD l d) hi hlt h
      rw [e, ltD_irr] at this
      cases this
    · have := hpi (posD l d) i hlt hi h
      rw [e, ltD_irr] at this
      cases this
  · rintro ⟨h1, h2⟩
    obtain ⟨i, hi, rfl⟩ := List.getElem_of_mem h1
    refine ⟨i, hi, fun e => ?_, rfl⟩
    subst e
    rw [hp, eqD_refl] at h2
    cases h2
theorem conf_eq (l : List api_Debt) (hl : l.length ≤ 1000) (d : api_Debt) : debt_Confirm l d = some (confS l d) := by
  unfold debt_Confirm confS
  rw [right_eq l hl d, bind_s]
  cases h : rightB l && fineD d
  · rfl
  · rw [Bool.and_eq_true] at h
    have hs := (rightB_iff.1 h.1).2
    simp only [Bool.not_true, cond_false, cond_true]
    rw [search_eq l hl hs d, bind_s]
    cases hm : memD l d
    · rfl
    · simp only [Bool.not_true, cond_false, cond_true]
      rw [clone_eq l hl, bind_s, del_eq hl hs (memD_iff.1 hm), bind_s]
theorem ref_conf_eq (l : List api_Debt) (hl : l.length ≤ 1000) (d : api_Debt) : ref44_Confirm l d = some (confS l d) := by
  have key : loopF (ref44_Confirm_L1 l d) ((0 : Int), ([] : List api_Debt)) = some (.inl (l.filter fun x => !(eqD x d))) := by
    refine loopF_inv (body := ref44_Confirm_L1 l d) l.length (fun i s => s = ((i : Int), (l.take i).filter fun x => !(eqD x d))) (fun r => r = some (.inl (l.filter fun x => !(eqD x d)))) (fun i s hi hs => ?_) (fun s hs => ?_) rfl
    · subst hs
      left
      have hlt : decide ((i : Int) < (l.length : Int)) = true := decide_eq_true (by omega)
      have hw : IntKind.i64.wrap ((i : Int) + 1) = ((i + 1 : Nat) : Int) := by rw [wrap64 (by omega) (by omega)]; omega
      have hfl := List.length_filter_le (fun x => !(eqD x d)) (l.take i)
      rw [List.length_take] at hfl
      have hc : decide (((l.take i).filter fun x => !(eqD x d)).length + [l.getD i d0].length ≤ 1000000) = true := decide_eq_true (by simp only [List.length_singleton]; omega)
      refine ⟨_, ?_, rfl⟩
      unfold ref44_Confirm_L1
      simp only [hlt, cond_true, getI_in d0 hi, bind_s, hw, foldD, hc, chkO_true]
      rw [take_succ_getD l d0 hi, List.filter_append, List.filter_cons, List.filter_nil]
      cases eqD (l.getD i d0) d
      · simp
      · simp
    · subst hs
      refine ⟨_, ?_, rfl⟩
      unfold ref44_Confirm_L1
      simp only [Int.lt_irrefl, decide_false, cond_false, List.take_length]
  unfold ref44_Confirm confS
  rw [ref_right_eq l hl, bind_s]
  cases h : rightB l
  · rfl
  · simp only [Bool.not_true, cond_false, Bool.true_and]
    rw [fine_eq, bind_s]
    cases fineD d
    · rfl
    · simp only [Bool.not_true, cond_false, cond_true]
      rw [has_eq l (by omega), bind_s]
      cases hm : memD l d
      · rfl
      · simp only [Bool.not_true, cond_false]
        rw [key, seqF_l]
        rfl
end Go.Proofs.Ytomfmjejoocmmaa

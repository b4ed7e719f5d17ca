/-
  slices.Compact at numbers, and what is late (the queue and its reference).
-/
import Derived.Test.YtbijnfgjcbfpmaaGreatVA
namespace Go.Proofs.YtbijnfgjcbfpmaaGreat
open Go.RowKit
theorem seqF_l {A B : Type} {k : A → Option B} {a : A} : seqF (some (Sum.inl a)) k = k a := rfl
theorem seqF_r {A B : Type} {k : A → Option B} {b : B} : seqF (some (Sum.inr b)) k = some b := rfl
theorem bind_s {A B : Type} {k : A → Option B} {a : A} : (some a).bind k = k a := rfl
/-- the elements that differ from the one before them, among the first ones -/
def ddP (s : List Int) : Nat → List Int
  | 0 => []
  | m + 1 => ddP s m ++ bif m == 0 || s.getD m 0 != s.getD (m - 1) 0 then [s.getD m 0] else []
theorem ddP_len (s : List Int) : ∀ m, (ddP s m).length ≤ m
  | 0 => Nat.le_refl _
  | m + 1 => by
    have := ddP_len s m
    rw [ddP, List.length_append]
    cases m == 0 || s.getD m 0 != s.getD (m - 1) 0 <;> simp <;> omega
theorem ddP_all (s : List Int) : ∀ m, m ≤ s.length → (∀ k, 1 ≤ k → k < m → (s.getD k 0 == s.getD (k - 1) 0) = false) → ddP s m = s.take m
  | 0, _, _ => by simp [ddP]
  | m + 1, hm, h => by
    rw [ddP, ddP_all s m (by omega) (fun k h1 h2 => h k h1 (by omega)), take_succ_getD s 0 (by omega)]
    congr 1
    cases m with
    | zero => rfl
    | succ m =>
      have := h (m + 1) (by omega) (by omega)
      simp only [bne, this]
      rfl
theorem compact_L1 (s : List Int) (hs : s.length ≤ 1000000) (k : Nat) (h1 : 1 ≤ k) (hk : k < s.length) (heq : (s.getD k 0 == s.getD (k - 1) 0) = true) (hp : ddP s k = s.take k) :
    ∃ (q : Nat) (cur : List Int), loopF (slices_Compact_int_int_L1 s (k : Int)) ((k : Int), (1 : Int), s) = some (.inl ((q : Int), cur)) ∧ cur.length = s.length ∧ q ≤ s.length ∧ cur.take q = ddP s s.length := by
  refine loopF_inv (body := slices_Compact_int_int_L1 s (k : Int)) (s.length - k - 1) (fun i st => ∃ (q : Nat) (cur : List Int), st = ((q : Int), ((i + 1 : Nat) : Int), cur) ∧ cur.length = s.length ∧ q ≤ k + i ∧ cur.take q = ddP s (k + i + 1) ∧ cur.drop (k + i) = s.drop (k + i))
    (fun r => ∃ (q : Nat) (cur : List Int), r = some (.inl ((q : Int), cur)) ∧ cur.length = s.length ∧ q ≤ s.length ∧ cur.take q = ddP s s.length) (fun i st hi hst => ?_) (fun st hst => ?_) ?_
  · obtain ⟨q, cur, rfl, hl, hq, ht, hd⟩ := hst
    left
    have e0 : ((((s.length : Nat) : Int) - (k : Int)).toNat : Int) = ((s.length - k : Nat) : Int) := by omega
    have hlt : decide (((i + 1 : Nat) : Int) < ((s.length - k : Nat) : Int)) = true := decide_eq_true (by omega)
    have h0 : decide ((0 : Int) ≤ ((i + 1 : Nat) : Int)) = true := decide_eq_true (by omega)
    have hw1 : IntKind.i64.wrap (((i + 1 : Nat) : Int) - 1) = (i : Int) := by rw [wrap64 (by omega) (by omega)]; omega
    have hw2 : IntKind.i64.wrap (((i + 1 : Nat) : Int) + 1) = ((i + 1 + 1 : Nat) : Int) := by rw [wrap64 (by omega) (by omega)]; omega
    have hw3 : IntKind.i64.wrap ((q : Int) + 1) = ((q + 1 : Nat) : Int) := by rw [wrap64 (by omega) (by omega)]; omega
    have h2 : decide ((0 : Int) ≤ (i : Int)) = true := decide_eq_true (by omega)
    have h3 : decide ((i : Int) < ((s.length - k : Nat) : Int)) = true := decide_eq_true (by omega)
    have h4 : decide ((0 : Int) ≤ (q : Int)) = true := decide_eq_true (by omega)
    have h5 : decide ((q : Int) < ((cur.length : Nat) : Int)) = true := decide_eq_true (by omega)
    have gd : ∀ j, k + i ≤ j → cur.getD j 0 = s.getD j 0 := by
      intro j hj
      have := congrArg (fun l => l[j - (k + i)]?) hd
      simp only [List.getElem?_drop] at this
      rw [show k + i + (j - (k + i)) = j by omega] at this
      rw [List.getD_eq_getElem?_getD, List.getD_eq_getElem?_getD, this]
    unfold slices_Compact_int_int_L1
    simp only [e0, hlt, h0, h2, h3, cond_true, Bool.and_self, chkO_true, Int.toNat_natCast, hw1, hw2]
    rw [getI_in 0 (show k + (i + 1) < cur.length by omega), bind_s, getI_in 0 (show k + i < cur.length by omega), bind_s, gd _ (by omega), gd _ (by omega)]
    have hdd : ddP s (k + (i + 1) + 1) = ddP s (k + i + 1) ++ bif s.getD (k + (i + 1)) 0 != s.getD (k + i) 0 then [s.getD (k + (i + 1)) 0] else [] := by
      rw [ddP]
      have e1 : (k + (i + 1) == 0) = false := by simp
      rw [e1, Bool.false_or, show k + (i + 1) - 1 = k + i by omega]
      rfl
    cases hne : s.getD (k + (i + 1)) 0 != s.getD (k + i) 0
    · simp only [cond_false]
      refine ⟨_, rfl, q, cur, rfl, hl, by omega, ?_, ?_⟩
      · rw [hdd, hne, cond_false, List.append_nil]; exact ht
      · have := congrArg (List.drop 1) hd
        rw [List.drop_drop, List.drop_drop] at this
        exact this
    · simp only [cond_true, h4, h5, Bool.and_self, chkO_true, hw3]
      rw [getI_in 0 (show q < cur.length by omega), bind_s]
      refine ⟨_, rfl, q + 1, _, rfl, by rw [List.length_set]; exact hl, by omega, ?_, ?_⟩
      · rw [hdd, hne, cond_true, ← ht, take_succ_getD _ 0 (by rw [List.length_set]; omega), List.take_set_of_le (Nat.le_refl _)]
        congr 2
        rw [List.getD_eq_getElem?_getD, List.getElem?_set_self (by omega)]
        rfl
      · rw [List.drop_set_of_lt (by omega)]
        have := congrArg (List.drop 1) hd
        rw [List.drop_drop, List.drop_drop] at this
        exact this
  · obtain ⟨q, cur, rfl, hl, hq, ht, hd⟩ := hst
    refine ⟨.inl ((q : Int), cur), ?_, q, cur, rfl, hl, by omega, ?_⟩
    · have e0 : ((((s.length : Nat) : Int) - (k : Int)).toNat : Int) = ((s.length - k : Nat) : Int) := by omega
      have hlt : decide (((s.length - k - 1 + 1 : Nat) : Int) < ((s.length - k : Nat) : Int)) = false := decide_eq_false (by omega)
      unfold slices_Compact_int_int_L1
      simp only [e0, hlt, cond_false]
    · rw [ht]
      congr 1
      omega
  · refine ⟨k, s, rfl, rfl, Nat.le_refl _, ?_, rfl⟩
    rw [ddP, hp]
    have e1 : (k == 0) = false := by simp; omega
    simp only [e1, Bool.false_or, bne, heq, Bool.not_true, cond_false, List.append_nil]
theorem compact_eq (s : List Int) (hs : s.length ≤ 1000000) : slices_Compact_int_int s = some (ddP s s.length) := by
  by_cases h2 : s.length < 2
  · rw [compact_short s h2]
    rw [ddP_all s s.length (Nat.le_refl _) fun k h1 hk => by omega, List.take_length]
  · have hd : decide (((s.length : Nat) : Int) < 2) = false := decide_eq_false (by omega)
    have key := loopF_inv (body := slices_Compact_int_int_L2 s) (s.length - 1) (fun i st => st = ((i + 1 : Nat) : Int) ∧ ∀ k, 1 ≤ k → k < i + 1 → (s.getD k 0 == s.getD (k - 1) 0) = false)
      (fun r => (r = some (.inl ()) ∧ ddP s s.length = s) ∨ r = some (.inr (ddP s s.length))) (fun i st hi hst => ?_) (fun st hst => ?_) (s0 := (1 : Int)) ⟨rfl, fun k h1 hk => by omega⟩
    · unfold slices_Compact_int_int
      rw [hd]
      simp only [cond_false]
      rcases key with ⟨h, e⟩ | h
      · rw [h, seqF_l, e]
      · rw [h, seqF_r]
    · obtain ⟨rfl, hk⟩ := hst
      have hlt : decide (((i + 1 : Nat) : Int) < ((s.length : Nat) : Int)) = true := decide_eq_true (by omega)
      have h0 : decide ((0 : Int) ≤ ((i + 1 : Nat) : Int)) = true := decide_eq_true (by omega)
      have hw1 : IntKind.i64.wrap (((i + 1 : Nat) : Int) - 1) = (i : Int) := by rw [wrap64 (by omega) (by omega)]; omega
      have hw2 : IntKind.i64.wrap (((i + 1 : Nat) : Int) + 1) = ((i + 1 + 1 : Nat) : Int) := by rw [wrap64 (by omega) (by omega)]; omega
      have h2 : decide ((0 : Int) ≤ (i : Int)) = true := decide_eq_true (by omega)
      have h3 : decide ((i : Int) < ((s.length : Nat) : Int)) = true := decide_eq_true (by omega)
      unfold slices_Compact_int_int_L2
      simp only [hlt, h0, h2, h3, hw1, hw2, cond_true, Bool.and_self, chkO_true]
      rw [getI_in 0 (show i + 1 < s.length by omega), bind_s, getI_in 0 (show i < s.length by omega), bind_s]
      cases hne : s.getD (i + 1) 0 == s.getD i 0
      · left
        simp only [cond_false, seqF_l]
        refine ⟨_, rfl, rfl, fun k h1 hk' => ?_⟩
        by_cases hki : k < i + 1
        · exact hk k h1 hki
        · have : k = i + 1 := by omega
          subst this
          exact hne
      · right
        obtain ⟨q, cur, he, hl, hq, ht⟩ := compact_L1 s hs (i + 1) (by omega) (by omega) hne (ddP_all s (i + 1) (by omega) hk)
        have c1 : cutO ((i + 1 : Nat) : Int) ((s.length : Nat) : Int) ((s.length : Nat) : Int) = true := by
          unfold cutO
          simp only [Bool.and_eq_true, decide_eq_true_eq]
          omega
        have c2 : cutO (q : Int) ((cur.length : Nat) : Int) ((cur.length : Nat) : Int) = true := by
          unfold cutO
          simp only [Bool.and_eq_true, decide_eq_true_eq]
          omega
        have c3 : cutO (0 : Int) (q : Int) ((cur.length : Nat) : Int) = true := by
          unfold cutO
          simp only [Bool.and_eq_true, decide_eq_true_eq]
          omega
        simp only [cond_true, c1, chkO_true]
        rw [he]
        simp only [seqF_l, c2, c3, chkO_true, seqF_r, Int.sub_zero, Int.toNat_natCast]
        refine ⟨_, rfl, Or.inr ?_⟩
        rw [← ht, List.append_assoc, List.take_left' (by rw [List.length_take]; omega)]
    · obtain ⟨rfl, hk⟩ := hst
      refine ⟨.inl (), ?_, Or.inl ⟨rfl, ?_⟩⟩
      · have hlt : decide (((s.length - 1 + 1 : Nat) : Int) < ((s.length : Nat) : Int)) = false := decide_eq_false (by omega)
        unfold slices_Compact_int_int_L2
        simp only [hlt, cond_false]
      · rw [ddP_all s s.length (Nat.le_refl _) fun k h1 hk' => hk k h1 (by omega), List.take_length]
/-- of a list in order, each once -/
theorem ddP_facts {s : List Int} (h : s.Pairwise fun a b => a ≤ b) : ∀ m, m ≤ s.length → ((ddP s m).Pairwise fun a b => a < b) ∧ ∀ x, x ∈ ddP s m ↔ ∃ k, k < m ∧ s.getD k 0 = x
  | 0, _ => ⟨List.Pairwise.nil, fun x => by simp [ddP]⟩
  | m + 1, hm => by
    obtain ⟨h1, h2⟩ := ddP_facts h m (by omega)
    have le : ∀ k, k < m → s.getD k 0 ≤ s.getD m 0 := by
      intro k hk
      have := (List.pairwise_iff_getElem.1 h) k m (by omega) (by omega) hk
      simp only [List.getD_eq_getElem?_getD, List.getElem?_eq_getElem (show k < s.length by omega), List.getElem?_eq_getElem (show m < s.length by omega), Option.getD_some]
      exact this
    rw [ddP]
    cases hc : m == 0 || s.getD m 0 != s.getD (m - 1) 0
    · simp only [cond_false, List.append_nil]
      refine ⟨h1, fun x => ?_⟩
      rw [h2]
      simp only [Bool.or_eq_false_iff, beq_eq_false_iff_ne, bne_eq_false_iff_eq] at hc
      constructor
      · rintro ⟨k, hk, e⟩
        exact ⟨k, by omega, e⟩
      · rintro ⟨k, hk, e⟩
        by_cases hkm : k < m
        · exact ⟨k, hkm, e⟩
        · have : k = m := by omega
          subst this
          exact ⟨k - 1, by omega, by rw [← hc.2, e]⟩
    · simp only [cond_true]
      have hlast : ∀ x ∈ ddP s m, x < s.getD m 0 := by
        intro x hx
        obtain ⟨k, hk, e⟩ := (h2 x).1 hx
        have l1 := le k hk
        simp only [Bool.or_eq_true, beq_iff_eq, bne_iff_ne] at hc
        rcases hc with hc | hc
        · omega
        · have l2 := le (m - 1) (by omega)
          have l3 : s.getD k 0 ≤ s.getD (m - 1) 0 := by
            by_cases hk1 : k = m - 1
            · rw [hk1]; exact Int.le_refl _
            · have := (List.pairwise_iff_getElem.1 h) k (m - 1) (by omega) (by omega) (by omega)
              simp only [List.getD_eq_getElem?_getD, List.getElem?_eq_getElem (show k < s.length by omega), List.getElem?_eq_getElem (show m - 1 < s.length by omega), Option.getD_some]
              exact this
          omega
      refine ⟨?_, fun x => ?_⟩
      · rw [List.pairwise_append]
        exact ⟨h1, List.pairwise_singleton _ _, fun a ha b hb => by rw [List.mem_singleton.1 hb]; exact hlast a ha⟩
      · rw [List.mem_append, h2, List.mem_singleton]
        constructor
        · rintro (⟨k, hk, e⟩ | e)
          · exact ⟨k, by omega, e⟩
          · exact ⟨m, by omega, e.symm⟩
        · rintro ⟨k, hk, e⟩
          by_cases hkm : k < m
          · exact Or.inl ⟨k, hkm, e⟩
          · have : k = m := by omega
            subst this
            exact Or.inr e.symm
theorem ints_refl (l : List Int) (hl : l.length ≤ 2000) : ref10_Ints l l = some true := by
  unfold ref10_Ints
  have h1 : ((l.length : Int) != (l.length : Int)) = false := by simp
  rw [h1]
  have key := loopF_all (body := ref10_Ints_L1 l l) l (fun _ => true) false (fun i x h0 hlt hx => by
      unfold ref10_Ints_L1
      simp only [hlt, decide_true, cond_true]
      rw [bind_some_of ((getI_of h0).trans hx), bind_some_of ((getI_of h0).trans hx), wrap64 (by omega) (by omega)]
      simp)
    (by unfold ref10_Ints_L1; simp only [Int.lt_irrefl, decide_false, cond_false])
  simp only [cond_false]
  rw [key]
  have : l.all (fun _ => true) = true := by simp
  rw [this]
  rfl
/-- what is late -/
def lateS (l : List api_Waiting) (now : Int) : List Int := bif queueB l then ddP ((dueS now l).mergeSort fun x y => decide (x ≤ y)) (dueS now l).length else []
theorem queue_Late_eq (l : List api_Waiting) (hl : l.length ≤ 1000) (now : Int) : queue_Late l now = some (lateS l now) := by
  unfold lateS
  cases hq : queueB l
  · unfold queue_Late
    rw [queue_queue_eq l hl, hq, bind_s]
    rfl
  · rw [late_eq l hl now hq]
    have hlen := dueS_len now l
    have e : ((dueS now l).mergeSort fun x y => decide (x ≤ y)).length = (dueS now l).length := List.length_mergeSort _
    rw [compact_eq _ (by omega), e]
    rfl
theorem lateS_facts {l : List api_Waiting} {now : Int} (h : queueB l = true) : ((lateS l now).Pairwise fun a b => a < b) ∧ (∀ x, x ∈ lateS l now ↔ ∃ w ∈ l, w.Due ≤ now ∧ w.Event = x) ∧ (lateS l now).length ≤ l.length := by
  have hs : ((dueS now l).mergeSort fun x y => decide (x ≤ y)).Pairwise fun a b => a ≤ b := by
    have := List.pairwise_mergeSort (le := fun (x y : Int) => decide (x ≤ y)) (fun a b c h1 h2 => by have := of_decide_eq_true h1; have := of_decide_eq_true h2; exact decide_eq_true (by omega)) (fun a b => by
      by_cases h : a ≤ b
      · simp [h]
      · simp [show b ≤ a by omega]) (dueS now l)
    exact this.imp fun h => of_decide_eq_true h
  have hl : ((dueS now l).mergeSort fun x y => decide (x ≤ y)).length = (dueS now l).length := List.length_mergeSort _
  obtain ⟨h1, h2⟩ := ddP_facts hs (dueS now l).length (by omega)
  unfold lateS
  rw [h]
  refine ⟨h1, fun x => ?_, Nat.le_trans (ddP_len _ _) (dueS_len now l)⟩
  rw [cond_true, h2]
  have hmem : (∃ k, k < (dueS now l).length ∧ ((dueS now l).mergeSort fun x y => decide (x ≤ y)).getD k 0 = x) ↔ x ∈ (dueS now l).mergeSort fun x y => decide (x ≤ y) := by
    constructor
    · rintro ⟨k, hk, e⟩
      rw [List.getD_eq_getElem?_getD, List.getElem?_eq_getElem (by omega), Option.getD_some] at e
      rw [← e]
      exact List.getElem_mem _
    · intro hx
      obtain ⟨k, hk, e⟩ := List.getElem_of_mem hx
      exact ⟨k, by omega, by rw [List.getD_eq_getElem?_getD, List.getElem?_eq_getElem hk, Option.getD_some, e]⟩
  rw [hmem, (List.mergeSort_perm _ _).mem_iff]
  unfold dueS
  rw [List.mem_map]
  constructor
  · rintro ⟨w, hw, e⟩
    obtain ⟨hw, hd⟩ := List.mem_filter.1 hw
    exact ⟨w, hw, of_decide_eq_true hd, e⟩
  · rintro ⟨w, hw, hd, e⟩
    exact ⟨w, List.mem_filter.2 ⟨hw, decide_eq_true hd⟩, e⟩
/-- the reference: the least event that is due and above the last one -/
theorem late_next (l : List api_Waiting) (hl : l.length ≤ 1000) (hq : queueB l = true) (now : Int) (last : Int) (_h0 : -1 ≤ last) (out : List Int) :
    ∃ b : Int, loopF (ref30_Late_L1 l now (last, out)) ((-1 : Int), (0 : Int)) = some (.inl b) ∧ ((b = -1 ∧ ∀ w ∈ l, w.Due ≤ now → w.Event ≤ last) ∨ (0 ≤ b ∧ (∃ w ∈ l, w.Due ≤ now ∧ w.Event = b) ∧ last < b ∧ ∀ w ∈ l, w.Due ≤ now → last < w.Event → b ≤ w.Event)) := by
  have hev : ∀ i, i < l.length → 0 ≤ (l.getD i w0).Event := by
    intro i hi
    have := queue_ok hq hi
    unfold okW at this
    simp only [Bool.and_eq_true, decide_eq_true_eq] at this
    exact this.1.1.1.1.1.1.1
  have key := loopF_inv (body := ref30_Late_L1 l now (last, out)) l.length (fun i s => s.2 = (i : Int) ∧ ((s.1 = -1 ∧ ∀ k, k < i → (l.getD k w0).Due ≤ now → (l.getD k w0).Event ≤ last) ∨ (0 ≤ s.1 ∧ (∃ k, k < i ∧ (l.getD k w0).Due ≤ now ∧ (l.getD k w0).Event = s.1) ∧ last < s.1 ∧ ∀ k, k < i → (l.getD k w0).Due ≤ now → last < (l.getD k w0).Event → s.1 ≤ (l.getD k w0).Event)))
    (fun r => ∃ b : Int, r = some (.inl b) ∧ ((b = -1 ∧ ∀ k, k < l.length → (l.getD k w0).Due ≤ now → (l.getD k w0).Event ≤ last) ∨ (0 ≤ b ∧ (∃ k, k < l.length ∧ (l.getD k w0).Due ≤ now ∧ (l.getD k w0).Event = b) ∧ last < b ∧ ∀ k, k < l.length → (l.getD k w0).Due ≤ now → last < (l.getD k w0).Event → b ≤ (l.getD k w0).Event))) (fun i s hi hs => ?_) (fun s hs => ?_) (s0 := ((-1 : Int), (0 : Int))) ⟨rfl, Or.inl ⟨rfl, fun k hk => by omega⟩⟩
  · obtain ⟨b, e, h⟩ := key
    refine ⟨b, e, ?_⟩
    rcases h with ⟨rfl, h⟩ | ⟨h1, ⟨k, hk, h2, h3⟩, h4, h5⟩
    · refine Or.inl ⟨rfl, fun w hw => ?_⟩
      obtain ⟨k, hk, rfl⟩ := getD_of_mem hw
      exact h k hk
    · refine Or.inr ⟨h1, ⟨_, mem_getD hk, h2, h3⟩, h4, fun w hw => ?_⟩
      obtain ⟨k, hk, rfl⟩ := getD_of_mem hw
      exact h5 k hk
  · obtain ⟨b, n⟩ := s
    obtain ⟨rfl, hs⟩ := hs
    left
    have hlt : decide ((i : Int) < (l.length : Int)) = true := decide_eq_true (by omega)
    have hw : IntKind.i64.wrap ((i : Int) + 1) = ((i + 1 : Nat) : Int) := by rw [wrap64 (by omega) (by omega)]; omega
    have he := hev i hi
    have ext : ∀ {Q : Nat → Prop}, (∀ k, k < i → Q k) → Q i → ∀ k, k < i + 1 → Q k := by
      intro Q h1 h2 k hk
      by_cases hki : k < i
      · exact h1 k hki
      · have : k = i := by omega
        subst this
        exact h2
    unfold ref30_Late_L1
    simp only [hlt, cond_true, getI_in w0 hi, bind_s, hw]
    by_cases c1 : (l.getD i w0).Due ≤ now
    · by_cases c2 : last < (l.getD i w0).Event
      · simp only [c1, c2, decide_true, cond_true]
        rcases hs with ⟨rfl, h⟩ | ⟨h1, ⟨k, hk, h2, h3⟩, h4, h5⟩
        · refine ⟨_, rfl, rfl, Or.inr ⟨he, ⟨i, by omega, c1, rfl⟩, c2, ?_⟩⟩
          exact ext (fun k hk hd hl => absurd (h k hk hd) (by omega)) fun _ _ => Int.le_refl _
        · have hb : ¬ b < 0 := by
            have : 0 ≤ b := h1
            omega
          simp only [hb, decide_false, cond_false]
          by_cases c3 : (l.getD i w0).Event < b
          · simp only [c3, decide_true, cond_true]
            refine ⟨_, rfl, rfl, Or.inr ⟨he, ⟨i, by omega, c1, rfl⟩, c2, ?_⟩⟩
            refine ext (fun k hk hd hl => ?_) fun _ _ => Int.le_refl _
            have : b ≤ (l.getD k w0).Event := h5 k hk hd hl
            show (l.getD i w0).Event ≤ _
            omega
          · simp only [c3, decide_false, cond_false]
            refine ⟨_, rfl, rfl, Or.inr ⟨h1, ⟨k, by omega, h2, h3⟩, h4, ?_⟩⟩
            exact ext h5 fun _ _ => by show b ≤ _; omega
      · simp only [c1, c2, decide_true, decide_false, cond_true, cond_false]
        refine ⟨_, rfl, rfl, ?_⟩
        rcases hs with ⟨rfl, h⟩ | ⟨h1, ⟨k, hk, h2, h3⟩, h4, h5⟩
        · exact Or.inl ⟨rfl, ext h fun _ => by omega⟩
        · exact Or.inr ⟨h1, ⟨k, by omega, h2, h3⟩, h4, ext h5 fun _ hl => absurd hl c2⟩
    · simp only [c1, decide_false, cond_false]
      refine ⟨_, rfl, rfl, ?_⟩
      rcases hs with ⟨rfl, h⟩ | ⟨h1, ⟨k, hk, h2, h3⟩, h4, h5⟩
      · exact Or.inl ⟨rfl, ext h fun hd => absurd hd c1⟩
      · exact Or.inr ⟨h1, ⟨k, by omega, h2, h3⟩, h4, ext h5 fun hd => absurd hd c1⟩
  · obtain ⟨b, n⟩ := s
    obtain ⟨rfl, hs⟩ := hs
    refine ⟨.inl b, ?_, b, rfl, hs⟩
    unfold ref30_Late_L1
    simp only [Int.lt_irrefl, decide_false, cond_false]
theorem ref_late_loop (l : List api_Waiting) (hl : l.length ≤ 1000) (hq : queueB l = true) (now : Int) : ∀ (rest out : List Int) (last : Int), -1 ≤ last → out ++ rest = lateS l now → (∀ x ∈ out, x ≤ last) → (∀ x ∈ rest, last < x) → loopF (ref30_Late_L2 l now) (last, out) = some (lateS l now) := by
  obtain ⟨f1, f2, f3⟩ := lateS_facts (now := now) hq
  intro rest
  induction rest with
  | nil =>
    intro out last h0 he ho _
    rw [List.append_nil] at he
    obtain ⟨b, e, h⟩ := late_next l hl hq now last h0 out
    rw [loopF_eq]
    have hb : b = -1 := by
      rcases h with ⟨h, _⟩ | ⟨_, ⟨w, hw, h1, h2⟩, h3, _⟩
      · exact h
      · have := ho b (by rw [he]; exact (f2 b).2 ⟨w, hw, h1, h2⟩)
        omega
    subst hb
    unfold ref30_Late_L2
    rw [e]
    simp only [seqF_l]
    rw [← he]
    rfl
  | cons x rest ih =>
    intro out last h0 he ho hr
    obtain ⟨b, e, h⟩ := late_next l hl hq now last h0 out
    have hx : x ∈ lateS l now := by rw [← he]; simp
    have hlx := hr x (by simp)
    obtain ⟨w, hw, hwd, hwe⟩ := (f2 x).1 hx
    have hp := f1
    rw [← he, List.pairwise_append] at hp
    have hb : b = x := by
      rcases h with ⟨_, h⟩ | ⟨_, ⟨v, hv, h1, h2⟩, h3, h4⟩
      · have := h w hw hwd
        omega
      · have h5 := h4 w hw hwd (by omega)
        have hbm : b ∈ lateS l now := (f2 b).2 ⟨v, hv, h1, h2⟩
        rw [← he, List.mem_append] at hbm
        rcases hbm with hbm | hbm
        · have := ho b hbm
          omega
        · rcases List.mem_cons.1 hbm with hbm | hbm
          · exact hbm
          · have := (List.pairwise_cons.1 hp.2.1).1 b hbm
            omega
    subst hb
    have hlen := congrArg List.length he
    simp only [List.length_append, List.length_cons] at hlen
    have hneg : decide (b < 0) = false := decide_eq_false (by omega)
    have hc : decide (out.length + [b].length ≤ 1000000) = true := decide_eq_true (by simp; omega)
    rw [loopF_eq]
    unfold ref30_Late_L2
    rw [e]
    simp only [seqF_l, hneg, cond_false, hc, chkO_true]
    refine ih (out ++ [b]) b (by omega) (by rw [List.append_assoc]; exact he) (fun y hy => ?_) fun y hy => (List.pairwise_cons.1 hp.2.1).1 y hy
    rcases List.mem_append.1 hy with hy | hy
    · have := ho y hy; omega
    · rw [List.mem_singleton.1 hy]; exact Int.le_refl _
theorem ref30_Late_eq (l : List api_Waiting) (hl : l.length ≤ 1000) (now : Int) : ref30_Late l now = some (lateS l now) := by
  unfold ref30_Late
  rw [ref30_Right_eq l hl, bind_s]
  cases hq : queueB l
  · unfold lateS
    rw [hq]
    rfl
  · simp only [Bool.not_true, cond_false]
    refine ref_late_loop l hl hq now (lateS l now) [] (-1) (Int.le_refl _) rfl (by simp) fun x hx => ?_
    obtain ⟨_, f2, _⟩ := lateS_facts (now := now) hq
    obtain ⟨w, hw, _, e⟩ := (f2 x).1 hx
    obtain ⟨i, hi, rfl⟩ := getD_of_mem hw
    have := queue_ok hq hi
    unfold okW at this
    simp only [Bool.and_eq_true, decide_eq_true_eq] at this
    have := this.1.1.1.1.1.1.1
    omega
end Go.Proofs.YtbijnfgjcbfpmaaGreat

/-
  Adding and confirming debts: the program and the reference (plain law of layer 44).
-/
import Derived.Test.YtomfmjejoocmmaaP1
namespace Go.Proofs.Ytomfmjejoocmmaa
open Go.RowKit
def fineD (d : api_Debt) : Bool := decide (0 ≤ d.Event) && (decide (d.Event < 100000) && (decide (0 ≤ d.Net) && decide (d.Net < 12)))
theorem network_eq (n : Int) : debt_network n = some (decide (0 ≤ n) && decide (n < 12)) := by
  unfold debt_network
  cases decide ((0 : Int) ≤ n) <;> rfl
theorem fine_eq (d : api_Debt) : ref44_fine d = some (fineD d) := by
  unfold ref44_fine fineD
  cases decide ((0 : Int) ≤ d.Event) <;> cases decide (d.Event < (100000 : Int)) <;> cases decide ((0 : Int) ≤ d.Net) <;> rfl
theorem less_eq (a b : api_Debt) : ref44_less a b = some (ltD a b) := by
  unfold ref44_less ltD
  cases decide (a.Event < b.Event)
  · cases a.Event == b.Event <;> rfl
  · rfl
def rightAt (l : List api_Debt) (i : Nat) : Bool := fineD (l.getD i d0) && (i == 0 || ltD (l.getD (i - 1) d0) (l.getD i d0))
def rightB (l : List api_Debt) : Bool := (List.range l.length).all (rightAt l)
theorem rightB_iff {l : List api_Debt} : rightB l = true ↔ (∀ x ∈ l, fineD x = true) ∧ SD l := by
  unfold rightB
  rw [List.all_eq_true]
  have hg : ∀ {i : Nat} (h : i < l.length), l.getD i d0 = l[i] := fun h => by rw [List.getD_eq_getElem?_getD, List.getElem?_eq_getElem h]; rfl
  constructor
  · intro h
    have h1 : ∀ i, i < l.length → rightAt l i = true := fun i hi => h i (List.mem_range.2 hi)
    refine ⟨fun x hx => ?_, ?_⟩
    · obtain ⟨i, hi, rfl⟩ := List.getElem_of_mem hx
      have := h1 i hi
      unfold rightAt at this
      rw [Bool.and_eq_true, hg hi] at this
      exact this.1
    · unfold SD
      rw [List.pairwise_iff_getElem]
      have key : ∀ j i (hi : i < l.length) (hj : j < l.length), i < j → ltD l[i] l[j] = true := by
        intro j
        induction j with
        | zero => intro i hi hj h; omega
        | succ j ih =>
          intro i hi hj hij
          have := h1 (j + 1) hj
          unfold rightAt at this
          rw [Bool.and_eq_true] at this
          have h2 := this.2
          rw [show (j + 1 == 0) = false from rfl, Bool.false_or, hg hj, Nat.add_sub_cancel, hg (by omega)] at h2
          by_cases hij' : i = j
          · subst hij'
            exact h2
          · exact ltD_trans (ih i hi (by omega) (by omega)) h2
      exact fun i j hi hj hij => key j i hi hj hij
  · rintro ⟨h1, h2⟩ i hi
    have hi := List.mem_range.1 hi
    unfold rightAt
    rw [Bool.and_eq_true, hg hi]
    refine ⟨h1 _ (List.getElem_mem hi), ?_⟩
    cases i with
    | zero => rfl
    | succ i =>
      rw [Nat.add_sub_cancel, hg (by omega)]
      have := (List.pairwise_iff_getElem.1 h2) i (i + 1) (by omega) hi (by omega)
      rw [this]
      rfl
theorem lt_not_le (a b : Int) : decide (a < b) = !decide (b ≤ a) := by
  apply bool_ext
  rw [Bool.not_eq_true', decide_eq_true_iff, decide_eq_false_iff_not]
  omega
theorem right_step (l : List api_Debt) (hl : l.length ≤ 1000) (i : Nat) (hi : i < l.length) :
    debt_right_L1 l (i : Int) = bif rightAt l i then some (.inl ((i : Int) + 1)) else some (.inr (.inr false)) := by
  have hlt : decide ((i : Int) < (l.length : Int)) = true := decide_eq_true (by omega)
  have hw : IntKind.i64.wrap ((i : Int) + 1) = (i : Int) + 1 := wrap64 (by omega) (by omega)
  have e2 : decide ((100000 : Int) ≤ (l.getD i d0).Event) = !decide ((l.getD i d0).Event < 100000) := by rw [lt_not_le, Bool.not_not]
  unfold debt_right_L1 rightAt fineD
  simp only [hlt, cond_true, getI_in d0 hi, bind_s, hw]
  rw [lt_not_le _ 0, e2]
  cases decide (0 ≤ (l.getD i d0).Event)
  · rfl
  · cases decide ((l.getD i d0).Event < 100000)
    · rfl
    · simp only [Bool.not_true, cond_false, Bool.true_and]
      rw [network_eq, bind_s]
      cases decide (0 ≤ (l.getD i d0).Net) && decide ((l.getD i d0).Net < 12)
      · rfl
      · simp only [Bool.not_true, cond_false, Bool.true_and]
        cases i with
        | zero => rfl
        | succ i =>
          have h0 : decide ((0 : Int) < ((i + 1 : Nat) : Int)) = true := decide_eq_true (by omega)
          have hw2 : IntKind.i64.wrap (((i + 1 : Nat) : Int) - 1) = (i : Int) := by rw [wrap64 (by omega) (by omega)]; omega
          simp only [h0, cond_true, hw2]
          rw [getI_in d0 (show i < l.length by omega), bind_s, compare_eq, bind_s, Nat.add_sub_cancel, show (i + 1 == 0) = false from rfl, Bool.false_or, ← cmpD_lt, lt_not_le]
          cases decide ((0 : Int) ≤ cmpD (l.getD i d0) (l.getD (i + 1) d0)) <;> rfl
theorem right_eq (l : List api_Debt) (hl : l.length ≤ 1000) (d : api_Debt) : debt_right l d = some (rightB l && fineD d) := by
  have h := loopF_idx (body := debt_right_L1 l) l.length (rightAt l) false (fun i hi => right_step l hl i hi) (by
    unfold debt_right_L1
    simp only [Int.lt_irrefl, decide_false, cond_false])
  unfold debt_right
  rw [h]
  unfold rightB fineD
  cases (List.range l.length).all (rightAt l)
  · rfl
  · simp only [cond_true, seqF_l, Bool.true_and]
    rw [network_eq]
    cases decide ((0 : Int) ≤ d.Event) <;> cases decide (d.Event < (100000 : Int)) <;> rfl
theorem ref_right_step (l : List api_Debt) (hl : l.length ≤ 1000) (i : Nat) (hi : i < l.length) :
    ref44_Right_L1 l (i : Int) = bif rightAt l i then some (.inl ((i : Int) + 1)) else some (.inr (.inr false)) := by
  have hlt : decide ((i : Int) < (l.length : Int)) = true := decide_eq_true (by omega)
  have hw : IntKind.i64.wrap ((i : Int) + 1) = (i : Int) + 1 := wrap64 (by omega) (by omega)
  unfold ref44_Right_L1 rightAt
  simp only [hlt, cond_true, getI_in d0 hi, bind_s, hw, fine_eq]
  cases fineD (l.getD i d0)
  · rfl
  · simp only [Bool.not_true, cond_false, Bool.true_and]
    cases i with
    | zero => rfl
    | succ i =>
      have h0 : decide ((0 : Int) < ((i + 1 : Nat) : Int)) = true := decide_eq_true (by omega)
      have hw2 : IntKind.i64.wrap (((i + 1 : Nat) : Int) - 1) = (i : Int) := by rw [wrap64 (by omega) (by omega)]; omega
      have hm : (if (i : Int) < 0 then (0 : Int) else (i : Int)) = (i : Int) := if_neg (by omega)
      simp only [h0, cond_true, hw2, hm]
      rw [getI_in d0 (show i < l.length by omega), bind_s, less_eq, bind_s, Nat.add_sub_cancel, show (i + 1 == 0) = false from rfl, Bool.false_or]
      cases ltD (l.getD i d0) (l.getD (i + 1) d0) <;> rfl
theorem ref_right_eq (l : List api_Debt) (hl : l.length ≤ 1000) : ref44_Right l = some (rightB l) := by
  have h := loopF_idx (body := ref44_Right_L1 l) l.length (rightAt l) false (fun i hi => ref_right_step l hl i hi) (by
    unfold ref44_Right_L1
    simp only [Int.lt_irrefl, decide_false, cond_false])
  unfold ref44_Right
  rw [h]
  unfold rightB
  cases (List.range l.length).all (rightAt l) <;> rfl
theorem has_eq (l : List api_Debt) (hl : l.length ≤ 10000) (d : api_Debt) : ref44_Has l d = some (memD l d) := by
  have h := loopF_idx (body := ref44_Has_L1 l d) l.length (fun i => !(eqD (l.getD i d0) d)) true (fun i hi => by
    have hlt : decide ((i : Int) < (l.length : Int)) = true := decide_eq_true (by omega)
    have hw : IntKind.i64.wrap ((i : Int) + 1) = (i : Int) + 1 := wrap64 (by omega) (by omega)
    unfold ref44_Has_L1
    simp only [hlt, cond_true, getI_in d0 hi, bind_s, hw, foldD]
    cases eqD (l.getD i d0) d <;> rfl) (by
    unfold ref44_Has_L1
    simp only [Int.lt_irrefl, decide_false, cond_false])
  have hm : memD l d = !((List.range l.length).all fun i => !(eqD (l.getD i d0) d)) := by
    apply bool_ext
    rw [memD_iff, Bool.not_eq_true', List.all_eq_false]
    constructor
    · intro hd
      obtain ⟨i, hi, e⟩ := List.getElem_of_mem hd
      refine ⟨i, List.mem_range.2 hi, ?_⟩
      rw [List.getD_eq_getElem?_getD, List.getElem?_eq_getElem hi, Option.getD_some, e, eqD_refl]
      simp
    · rintro ⟨i, hi, h⟩
      have hi := List.mem_range.1 hi
      rw [List.getD_eq_getElem?_getD, List.getElem?_eq_getElem hi, Option.getD_some] at h
      have : eqD l[i] d = true := by simpa using h
      rw [eqD_iff] at this
      rw [← this]
      exact List.getElem_mem hi
  unfold ref44_Has
  rw [h, hm]
  cases (List.range l.length).all fun i => !(eqD (l.getD i d0) d) <;> rfl
theorem tw_all {A : Type} {p : A → Bool} : ∀ {l : List A}, (∀ x ∈ l, p x = true) → l.takeWhile p = l ∧ l.dropWhile p = []
  | [], _ => ⟨rfl, rfl⟩
  | x :: l, h => by
    obtain ⟨h1, h2⟩ := tw_all (l := l) fun y hy => h y (by simp [hy])
    rw [List.takeWhile_cons, List.dropWhile_cons, h x (by simp)]
    exact ⟨by simp [h1], by simp [h2]⟩
theorem tw_mem {A : Type} {p : A → Bool} : ∀ {l : List A}, ∀ x ∈ l.takeWhile p, p x = true
  | [], x, hx => by simp at hx
  | y :: l, x, hx => by
    rw [List.takeWhile_cons] at hx
    cases hy : p y
    · rw [hy] at hx
      simp at hx
    · rw [hy] at hx
      simp only [if_true] at hx
      rcases List.mem_cons.1 hx with rfl | hx
      · exact hy
      · exact tw_mem x hx
theorem tw_congr {A : Type} {p q : A → Bool} : ∀ {l : List A}, (∀ x ∈ l, p x = q x) → l.takeWhile p = l.takeWhile q ∧ l.dropWhile p = l.dropWhile q
  | [], _ => ⟨rfl, rfl⟩
  | x :: l, h => by
    obtain ⟨h1, h2⟩ := tw_congr (l := l) fun y hy => h y (by simp [hy])
    rw [List.takeWhile_cons, List.takeWhile_cons, List.dropWhile_cons, List.dropWhile_cons, h x (by simp), h1, h2]
    exact ⟨rfl, rfl⟩
theorem put_eq (l : List api_Debt) (hl : l.length ≤ 10000) (d : api_Debt) (hd : d ∉ l) : ref44_put l d = some (putD l d) := by
  have key : loopF (ref44_put_L1 l d) (false, (0 : Int), ([] : List api_Debt)) = some (.inl (l.any (fun x => ltD d x), l.takeWhile (fun x => !(ltD d x)) ++ (bif l.any (fun x => ltD d x) then [d] else []) ++ l.dropWhile fun x => !(ltD d x))) := by
    have lens : ∀ r : List api_Debt, (r.takeWhile (fun x => !(ltD d x)) ++ (bif r.any (fun x => ltD d x) then [d] else []) ++ r.dropWhile fun x => !(ltD d x)).length ≤ r.length + 1 := by
      intro r
      have h := congrArg List.length (List.takeWhile_append_dropWhile (p := fun x => !(ltD d x)) (l := r))
      rw [List.length_append] at h
      rw [List.length_append, List.length_append]
      cases r.any (fun x => ltD d x) <;> simp <;> omega
    refine loopF_inv (body := ref44_put_L1 l d) l.length (fun i s => s = ((l.take i).any (fun x => ltD d x), (i : Int), (l.take i).takeWhile (fun x => !(ltD d x)) ++ (bif (l.take i).any (fun x => ltD d x) then [d] else []) ++ (l.take i).dropWhile fun x => !(ltD d x)))
      (fun r => r = some (.inl (l.any (fun x => ltD d x), l.takeWhile (fun x => !(ltD d x)) ++ (bif l.any (fun x => ltD d x) then [d] else []) ++ l.dropWhile fun x => !(ltD d x)))) (fun i s hi hs => ?_) (fun s hs => ?_) rfl
    · subst hs
      left
      have hlt : decide ((i : Int) < (l.length : Int)) = true := decide_eq_true (by omega)
      have hw : IntKind.i64.wrap ((i : Int) + 1) = ((i + 1 : Nat) : Int) := by rw [wrap64 (by omega) (by omega)]; omega
      have hll := lens (l.take i)
      rw [List.length_take] at hll
      refine ⟨_, ?_, rfl⟩
      unfold ref44_put_L1
      simp only [hlt, cond_true, getI_in d0 hi, bind_s, hw, less_eq]
      rw [take_succ_getD l d0 hi]
      generalize l.take i = r at hll ⊢
      generalize l.getD i d0 = x
      cases hr : r.any (fun x => ltD d x)
      · have hall : ∀ y ∈ r, (!(ltD d y)) = true := by
          intro y hy
          have := List.any_eq_false.1 hr y hy
          simpa using this
        obtain ⟨ht, hdw⟩ := tw_all hall
        rw [hr] at hll
        simp only [ht, hdw, cond_false, List.append_nil] at hll
        have c1 : decide (r.length + [d].length ≤ 1000000) = true := decide_eq_true (by simp; omega)
        have c2 : decide ((r ++ [d]).length + [x].length ≤ 1000000) = true := decide_eq_true (by simp; omega)
        have c3 : decide (r.length + [x].length ≤ 1000000) = true := decide_eq_true (by simp; omega)
        have ht2 : (r ++ [x]).takeWhile (fun x => !(ltD d x)) = r ++ [x].takeWhile (fun x => !(ltD d x)) := List.takeWhile_append_of_pos hall
        have hd2 : (r ++ [x]).dropWhile (fun x => !(ltD d x)) = [x].dropWhile (fun x => !(ltD d x)) := List.dropWhile_append_of_pos hall
        simp only [Bool.not_false, cond_true, ht, hdw, cond_false, List.append_nil, List.any_append, hr, Bool.false_or, ht2, hd2]
        cases hx : ltD d x
        · simp only [cond_false, c3, chkO_true]
          simp [hx]
        · simp only [cond_true, c1, c2, chkO_true]
          simp [hx]
      · rw [hr] at hll
        obtain ⟨y, hy, hyd⟩ := List.any_eq_true.1 hr
        have hne : ¬ ∀ y ∈ r, (!(ltD d y)) = true := fun h => by have := h y hy; rw [hyd] at this; cases this
        have ht2 : (r ++ [x]).takeWhile (fun x => !(ltD d x)) = r.takeWhile (fun x => !(ltD d x)) := by
          rw [List.takeWhile_append, if_neg]
          intro h
          apply hne
          intro z hz
          have e := (List.takeWhile_sublist (fun x => !(ltD d x)) (l := r)).eq_of_length h
          rw [← e] at hz
          exact tw_mem z hz
        have hd2 : (r ++ [x]).dropWhile (fun x => !(ltD d x)) = r.dropWhile (fun x => !(ltD d x)) ++ [x] := by
          have h1 := List.takeWhile_append_dropWhile (p := fun x => !(ltD d x)) (l := r ++ [x])
          have h2 := List.takeWhile_append_dropWhile (p := fun x => !(ltD d x)) (l := r)
          rw [ht2] at h1
          have h3 : r.takeWhile (fun x => !(ltD d x)) ++ (r.dropWhile (fun x => !(ltD d x)) ++ [x]) = r ++ [x] := by rw [← List.append_assoc, h2]
          exact List.append_cancel_left (h1.trans h3.symm)
        simp only [cond_true] at hll
        have c1 : decide ((r.takeWhile (fun x => !(ltD d x)) ++ [d] ++ r.dropWhile (fun x => !(ltD d x))).length + [x].length ≤ 1000000) = true := decide_eq_true (by simp only [List.length_singleton]; omega)
        simp only [Bool.not_true, cond_false, cond_true, c1, chkO_true, List.any_append, hr, Bool.true_or, ht2, hd2]
        simp
    · subst hs
      refine ⟨_, ?_, rfl⟩
      unfold ref44_put_L1
      simp only [Int.lt_irrefl, decide_false, cond_false, List.take_length]
  have hc : ∀ x ∈ l, (!(ltD d x)) = ltD x d := by
    intro x hx
    rcases ltD_tri d x with h | h | h
    · rw [h]
      cases hxd : ltD x d
      · rfl
      · exact absurd hxd (ltD_asymm _ _ h)
    · subst h
      exact absurd hx hd
    · rw [h]
      cases hxd : ltD d x
      · rfl
      · exact absurd hxd (ltD_asymm _ _ h)
  obtain ⟨c1, c2⟩ := tw_congr hc
  unfold ref44_put
  rw [key, c1, c2]
  simp only [seqF_l]
  have hlen := putD_len l d
  unfold putD at hlen ⊢
  cases ha : l.any fun x => ltD d x
  · have hall : ∀ y ∈ l, ltD y d = true := by
      intro y hy
      have := List.any_eq_false.1 ha y hy
      rw [← hc y hy]
      simpa using this
    obtain ⟨h1, h2⟩ := tw_all hall
    rw [h1, h2] at hlen ⊢
    have hcc : decide ((l ++ [] ++ []).length + [d].length ≤ 1000000) = true := decide_eq_true (by simp; omega)
    simp only [Bool.not_false, cond_true, cond_false, hcc, chkO_true]
    simp
  · simp only [Bool.not_true, cond_false, cond_true]
    simp
end Go.Proofs.Ytomfmjejoocmmaa

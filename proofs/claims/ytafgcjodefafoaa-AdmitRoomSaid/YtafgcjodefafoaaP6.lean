/-
  Jobs: which lists are valid, and their order (plain law of layer 29).
-/
import Derived.Test.YtafgcjodefafoaaP5
namespace Go.Proofs.Ytafgcjodefafoaa
open Go.RowKit Go.Shelf Go.Lib Go.Sort
def j0 : api_Job := ⟨0, 0, 0⟩
def okJ (j : api_Job) : Bool := decide (0 ≤ j.Id) && decide (1 ≤ j.Size) && decide (j.Size ≤ 1099511627776) && decide (0 ≤ j.Due) && decide (j.Due ≤ 1073741824)
def oneJ (l : List api_Job) (i : Nat) : Bool := okJ (l.getD i j0) && !((l.take i).any fun y => y.Id == (l.getD i j0).Id)
def validB (l : List api_Job) : Bool := (List.range l.length).all (oneJ l) && decide (l.length ≤ 1000)
theorem len1000 (l : List api_Job) : decide ((l.length : Int) ≤ 1000) = decide (l.length ≤ 1000) := by
  apply bool_ext
  simp only [decide_eq_true_eq]
  omega
theorem ref29_Right_eq (l : List api_Job) (hl : l.length ≤ maxLen) : ref29_Right l = some (validB l) := by
  unfold maxLen at hl
  have inner : ∀ i, i < l.length → loopF (ref29_Right_L1 (i : Int) l (l.getD i j0)) 0 = some (bif !((l.take i).any fun y => y.Id == (l.getD i j0).Id) then (.inl () : Unit ⊕ (Int ⊕ (Unit ⊕ Bool))) else .inr (.inr (.inr false))) := by
    intro i hi
    have := loopF_idx (body := ref29_Right_L1 (i : Int) l (l.getD i j0)) i (fun k => !((l.getD k j0).Id == (l.getD i j0).Id)) (.inr (.inr false)) (fun k hk => by
        have hw : IntKind.i64.wrap ((k : Int) + 1) = (k : Int) + 1 := wrap64 (by omega) (by omega)
        have hlt : ((k : Int) < (i : Int)) := by omega
        unfold ref29_Right_L1
        simp only [hlt, decide_true, cond_true, hw]
        rw [bind_some_of (getI_in j0 (show k < l.length by omega))]
        cases (l.getD k j0).Id == (l.getD i j0).Id <;> rfl)
      (by
        unfold ref29_Right_L1
        simp only [Int.lt_irrefl, decide_false, cond_false])
    rw [this]
    have e : (List.range i).all (fun k => !((l.getD k j0).Id == (l.getD i j0).Id)) = !((l.take i).any fun y => y.Id == (l.getD i j0).Id) := by
      rw [take_range l j0 i (by omega), List.any_map, List.all_eq_not_any_not]
      simp only [Bool.not_not]
      rfl
    rw [e]
  have outer := loopF_idx (body := ref29_Right_L2 l) l.length (oneJ l) false (fun i hi => by
      have hw : IntKind.i64.wrap ((i : Int) + 1) = (i : Int) + 1 := wrap64 (by omega) (by omega)
      have hlt : ((i : Int) < (l.length : Int)) := by omega
      unfold ref29_Right_L2 oneJ okJ
      simp only [hlt, decide_true, cond_true, hw]
      rw [bind_some_of (getI_in j0 hi), inner i hi]
      generalize l.getD i j0 = x
      rw [not_lt_le x.Id 0, not_lt_le x.Size 1, not_lt_le 1099511627776 x.Size, not_lt_le x.Due 0, not_lt_le 1073741824 x.Due]
      generalize (l.take i).any (fun y => y.Id == x.Id) = b0
      cases decide (0 ≤ x.Id) <;> cases decide (1 ≤ x.Size) <;> cases decide (x.Size ≤ 1099511627776) <;> cases decide (0 ≤ x.Due) <;> cases decide (x.Due ≤ 1073741824) <;> cases b0 <;> rfl)
    (by
      unfold ref29_Right_L2
      simp only [Int.lt_irrefl, decide_false, cond_false])
  unfold ref29_Right validB
  rw [outer, len1000]
  cases (List.range l.length).all (oneJ l) <;> rfl
theorem all_false {n : Nat} {q : Nat → Bool} {i : Nat} (hi : i < n) (h : q i = false) : (List.range n).all q = false := by
  rw [Bool.eq_false_iff]
  intro ha
  have := List.all_eq_true.1 ha i (List.mem_range.2 hi)
  rw [h] at this
  cases this
theorem admit_valid_eq (l : List api_Job) (hl : l.length ≤ maxLen) : admit_valid l = some (validB l) := by
  unfold maxLen at hl
  have outer := loopF_inv (body := admit_valid_L1 l) l.length (fun i s => s.1 = (i : Int) ∧ (∀ id, mgetT id s.2 false = (l.take i).any fun y => y.Id == id) ∧ ∀ k, k < i → oneJ l k = true)
    (fun r => r = some (bif (List.range l.length).all (oneJ l) then (.inl () : Unit ⊕ Bool) else .inr false))
    (fun i s hi hJ => by
      obtain ⟨s1, s2⟩ := s
      obtain ⟨h1, h2, h3⟩ := hJ
      dsimp only at h1 h2
      subst h1
      have hw : IntKind.i64.wrap ((i : Int) + 1) = (i : Int) + 1 := wrap64 (by omega) (by omega)
      have hlt : ((i : Int) < (l.length : Int)) := by omega
      have hbody : admit_valid_L1 l ((i : Int), s2) = bif oneJ l i then some (.inl ((i : Int) + 1, mputT (l.getD i j0).Id true s2)) else some (.inr (.inr false)) := by
        unfold admit_valid_L1 oneJ okJ
        simp only [hlt, decide_true, cond_true, hw]
        rw [bind_some_of (getI_in j0 hi), h2]
        generalize l.getD i j0 = x
        rw [not_lt_le x.Id 0, not_lt_le x.Size 1, not_lt_le 1099511627776 x.Size, not_lt_le x.Due 0, not_lt_le 1073741824 x.Due]
        generalize (l.take i).any (fun y => y.Id == x.Id) = b0
        cases decide (0 ≤ x.Id) <;> cases decide (1 ≤ x.Size) <;> cases decide (x.Size ≤ 1099511627776) <;> cases decide (0 ≤ x.Due) <;> cases decide (x.Due ≤ 1073741824) <;> cases b0 <;> rfl
      cases ho : oneJ l i
      · right
        rw [hbody, ho]
        exact ⟨_, rfl, by rw [all_false hi ho]; rfl⟩
      · left
        rw [hbody, ho]
        refine ⟨_, rfl, by dsimp only; omega, fun id => ?_, fun k hk => ?_⟩
        · dsimp only
          rw [mget_mput, h2, take_succ_getD l j0 hi, List.any_append]
          simp only [List.any_cons, List.any_nil, Bool.or_false]
          by_cases hid : id = (l.getD i j0).Id
          · subst hid
            simp
          · have e1 : (id == (l.getD i j0).Id) = false := by simpa using hid
            have e2 : ((l.getD i j0).Id == id) = false := by simp only [beq_eq_false_iff_ne]; exact fun e => hid e.symm
            rw [e1, e2, Bool.or_false]
            rfl
        · by_cases hk' : k < i
          · exact h3 k hk'
          · have : k = i := by omega
            subst this
            exact ho)
    (fun s hJ => by
      obtain ⟨s1, s2⟩ := s
      obtain ⟨h1, h2, h3⟩ := hJ
      dsimp only at h1
      subst h1
      refine ⟨.inl (), ?_, ?_⟩
      · unfold admit_valid_L1
        simp only [Int.lt_irrefl, decide_false, cond_false]
      · have : (List.range l.length).all (oneJ l) = true := List.all_eq_true.2 fun k hk => h3 k (List.mem_range.1 hk)
        rw [this]
        rfl)
    (s0 := (0, [])) ⟨rfl, fun id => rfl, fun k hk => by omega⟩
  unfold admit_valid validB
  rw [outer, len1000]
  cases (List.range l.length).all (oneJ l) <;> rfl
/- the order of jobs -/
def ltJ (a b : api_Job) : Bool := decide (a.Due < b.Due) || (a.Due == b.Due && decide (a.Id < b.Id))
def leJ (a b : api_Job) : Bool := !(ltJ b a)
theorem ltJ_iff {a b : api_Job} : ltJ a b = true ↔ a.Due < b.Due ∨ (a.Due = b.Due ∧ a.Id < b.Id) := by simp [ltJ]
theorem ltJ_not {a b : api_Job} : ltJ a b = false ↔ b.Due < a.Due ∨ (a.Due = b.Due ∧ b.Id ≤ a.Id) := by
  rw [Bool.eq_false_iff, ne_eq, ltJ_iff]
  omega
theorem leJ_iff {a b : api_Job} : leJ a b = true ↔ a.Due < b.Due ∨ (a.Due = b.Due ∧ a.Id ≤ b.Id) := by
  unfold leJ
  rw [Bool.not_eq_true', ltJ_not]
  omega
def insJ (out : List api_Job) (x : api_Job) : List api_Job := out.takeWhile (fun y => ltJ y x) ++ [x] ++ out.dropWhile (fun y => ltJ y x)
def ordR (l : List api_Job) : List api_Job := l.foldl insJ []
theorem insJ_perm (out : List api_Job) (x : api_Job) : (insJ out x).Perm (x :: out) := by
  have h : (out.takeWhile (fun y => ltJ y x) ++ out.dropWhile (fun y => ltJ y x)) = out := List.takeWhile_append_dropWhile
  unfold insJ
  rw [List.append_assoc]
  refine (List.perm_middle).trans ?_
  show (x :: (out.takeWhile (fun y => ltJ y x) ++ out.dropWhile (fun y => ltJ y x))).Perm _
  rw [h]
theorem insJ_len (out : List api_Job) (x : api_Job) : (insJ out x).length = out.length + 1 := by
  have := (insJ_perm out x).length_eq
  simpa using this
theorem foldl_perm (l : List api_Job) : ∀ out, (l.foldl insJ out).Perm (l ++ out) := by
  induction l with
  | nil => exact fun out => .refl _
  | cons x l ih =>
    intro out
    rw [List.foldl_cons]
    refine (ih _).trans ?_
    refine (List.Perm.append_left l (insJ_perm out x)).trans ?_
    exact List.perm_middle
theorem ordR_perm (l : List api_Job) : (ordR l).Perm l := by
  have := foldl_perm l []
  rw [List.append_nil] at this
  exact this
theorem drop_ge (x : api_Job) : ∀ (out : List api_Job), out.Pairwise (fun a b => leJ a b = true) → ∀ y ∈ out.dropWhile (fun y => ltJ y x), leJ x y = true
  | [], _, y, hy => by simp at hy
  | a :: out, hs, y, hy => by
    rw [List.dropWhile_cons] at hy
    rw [List.pairwise_cons] at hs
    cases ha : ltJ a x
    · rw [ha] at hy
      rcases List.mem_cons.1 hy with rfl | hy
      · exact by unfold leJ; rw [ha]; rfl
      · have h1 := hs.1 y hy
        rw [leJ_iff] at h1 ⊢
        rw [ltJ_not] at ha
        omega
    · rw [ha] at hy
      exact drop_ge x out hs.2 y hy
theorem insJ_sorted (out : List api_Job) (x : api_Job) (h : out.Pairwise fun a b => leJ a b = true) : (insJ out x).Pairwise fun a b => leJ a b = true := by
  have hc : (out.takeWhile (fun y => ltJ y x) ++ out.dropWhile (fun y => ltJ y x)) = out := List.takeWhile_append_dropWhile
  rw [← hc, List.pairwise_append] at h
  unfold insJ
  rw [List.append_assoc, List.pairwise_append]
  have ht : ∀ a ∈ out.takeWhile (fun y => ltJ y x), ltJ a x = true := fun a ha => List.all_eq_true.1 List.all_takeWhile a ha
  have hd := drop_ge x out (by rw [← hc, List.pairwise_append]; exact h)
  refine ⟨h.1, ?_, ?_⟩
  · rw [List.singleton_append, List.pairwise_cons]
    exact ⟨hd, h.2.1⟩
  · intro a ha b hb
    rw [List.singleton_append] at hb
    rcases List.mem_cons.1 hb with rfl | hb
    · have := ht a ha
      rw [ltJ_iff] at this
      rw [leJ_iff]
      omega
    · exact h.2.2 a ha b hb
theorem foldl_sorted (l : List api_Job) : ∀ out, out.Pairwise (fun a b => leJ a b = true) → (l.foldl insJ out).Pairwise fun a b => leJ a b = true := by
  induction l with
  | nil => exact fun out h => h
  | cons x l ih => exact fun out h => ih _ (insJ_sorted out x h)
theorem ordR_sorted (l : List api_Job) : (ordR l).Pairwise fun a b => leJ a b = true := foldl_sorted l [] .nil
theorem ordR_len (l : List api_Job) : (ordR l).length = l.length := (ordR_perm l).length_eq
theorem ref29_Order_eq (l : List api_Job) (hl : l.length ≤ 1000) : ref29_Order l = some (ordR l) := by
  have inner : ∀ (out : List api_Job) (i : Nat), i < l.length → out.length = i → loopF (ref29_Order_L1 ((i : Int), out) l) 0 = some (.inl ((out.takeWhile fun y => ltJ y (l.getD i j0)).length : Int)) := by
    intro out i hi ho
    refine loopF_inv (body := ref29_Order_L1 ((i : Int), out) l) (out.takeWhile fun y => ltJ y (l.getD i j0)).length (fun k s => s = (k : Int)) (fun r => r = some (.inl ((out.takeWhile fun y => ltJ y (l.getD i j0)).length : Int))) (fun k s hk hs => ?_) (fun s hs => ?_) rfl
    · left
      subst hs
      obtain ⟨h1, h2⟩ := tw_lt (fun y => ltJ y (l.getD i j0)) j0 out k hk
      have hw : IntKind.i64.wrap ((k : Int) + 1) = (k : Int) + 1 := wrap64 (by omega) (by omega)
      have hlt : ((k : Int) < ((out.length : Nat) : Int)) := by omega
      have h0 : (0 : Int) ≤ (k : Int) := by omega
      refine ⟨(k : Int) + 1, ?_, by omega⟩
      unfold ref29_Order_L1
      simp only [hlt, h0, decide_true, cond_true, Bool.and_self, chkO_true, hw]
      rw [bind_some_of (getI_in j0 h1), bind_some_of (getI_in j0 hi)]
      unfold ltJ at h2
      generalize out.getD k j0 = a at h2 ⊢
      generalize l.getD i j0 = b at h2 ⊢
      cases h3 : decide (a.Due < b.Due)
      · rw [h3] at h2
        simp only [Bool.false_or, Bool.and_eq_true] at h2
        rw [h2.1, h2.2]
        rfl
      · rfl
    · subst hs
      refine ⟨_, ?_, rfl⟩
      unfold ref29_Order_L1
      by_cases hk : (out.takeWhile fun y => ltJ y (l.getD i j0)).length < out.length
      · have h2 := tw_end (fun y => ltJ y (l.getD i j0)) j0 out hk
        generalize hg : (out.takeWhile fun y => ltJ y (l.getD i j0)).length = k at hk h2 ⊢
        have hlt : ((k : Int) < ((out.length : Nat) : Int)) := by omega
        have h0 : (0 : Int) ≤ (k : Int) := by omega
        simp only [hlt, h0, decide_true, cond_true, Bool.and_self, chkO_true]
        rw [bind_some_of (getI_in j0 hk), bind_some_of (getI_in j0 hi)]
        unfold ltJ at h2
        generalize out.getD k j0 = a at h2 ⊢
        generalize l.getD i j0 = b at h2 ⊢
        rw [Bool.or_eq_false_iff] at h2
        rw [h2.1]
        cases h3 : (a.Due == b.Due)
        · rfl
        · rw [h3] at h2
          have := h2.2
          rw [Bool.true_and] at this
          rw [this]
          rfl
      · have hle : (out.takeWhile fun y => ltJ y (l.getD i j0)).length ≤ out.length := by
          have := congrArg List.length (List.takeWhile_append_dropWhile (p := fun y => ltJ y (l.getD i j0)) (l := out))
          rw [List.length_append] at this
          omega
        have e : (out.takeWhile fun y => ltJ y (l.getD i j0)).length = out.length := by omega
        rw [e]
        simp only [Int.lt_irrefl, decide_false, cond_false]
  have outer := loopF_inv (body := ref29_Order_L2 l) l.length (fun i s => s = ((i : Int), (l.take i).foldl insJ [])) (fun r => r = some (.inl (ordR l)))
    (fun i s hi hs => by
      left
      subst hs
      have ho : ((l.take i).foldl insJ []).length = i := by
        have := (foldl_perm (l.take i) []).length_eq
        simp at this
        omega
      have hw : IntKind.i64.wrap ((i : Int) + 1) = (i : Int) + 1 := wrap64 (by omega) (by omega)
      have hlt : ((i : Int) < (l.length : Int)) := by omega
      refine ⟨(((i + 1 : Nat) : Int), (l.take (i + 1)).foldl insJ []), ?_, rfl⟩
      have hin := inner _ i hi ho
      have hnext : (l.take (i + 1)).foldl insJ [] = insJ ((l.take i).foldl insJ []) (l.getD i j0) := by
        rw [take_succ_getD l j0 hi, List.foldl_append]
        rfl
      rw [hnext]
      generalize (l.take i).foldl insJ [] = out at ho hin ⊢
      obtain ⟨t1, t2⟩ := tw_take (fun y => ltJ y (l.getD i j0)) out
      have hle : (out.takeWhile fun y => ltJ y (l.getD i j0)).length ≤ out.length := by
        have := congrArg List.length (List.takeWhile_append_dropWhile (p := fun y => ltJ y (l.getD i j0)) (l := out))
        rw [List.length_append] at this
        omega
      have hins : insJ out (l.getD i j0) = out.take (out.takeWhile fun y => ltJ y (l.getD i j0)).length ++ [l.getD i j0] ++ out.drop (out.takeWhile fun y => ltJ y (l.getD i j0)).length := by
        rw [t1, t2]
        rfl
      rw [hins]
      generalize (out.takeWhile fun y => ltJ y (l.getD i j0)).length = k at hin hle ⊢
      unfold ref29_Order_L2
      simp only [hlt, decide_true, cond_true, hw]
      rw [seqF_inl (a := (out.take k ++ [l.getD i j0]) ++ out.drop k)]
      · have : ((i + 1 : Nat) : Int) = (i : Int) + 1 := by omega
        rw [this]
      · rw [seqF_inl hin]
        have c1 : cutO (0 : Int) (k : Int) ((out.length : Nat) : Int) = true := by
          simp only [cutO, Bool.and_eq_true, decide_eq_true_eq]; omega
        have c2 : cutO (k : Int) ((out.length : Nat) : Int) ((out.length : Nat) : Int) = true := by
          simp only [cutO, Bool.and_eq_true, decide_eq_true_eq]; omega
        have e1 : ((k : Int) - 0).toNat = k := by omega
        have e2 : (((out.length : Nat) : Int) - (k : Int)).toNat = out.length - k := by omega
        have e3 : (out.drop k).take (out.length - k) = out.drop k := List.take_of_length_le (by simp)
        simp only [c1, c2, chkO_true, e1, e2, Int.toNat_zero, List.drop_zero, Int.toNat_natCast, e3, List.nil_append, Nat.zero_add]
        have d1 : decide ((out.take k).length ≤ 1000000) = true := by simp; omega
        have d2 : decide ((out.take k).length + [l.getD i j0].length ≤ 1000000) = true := by simp; omega
        have d3 : decide ((out.take k ++ [l.getD i j0]).length + (out.drop k).length ≤ 1000000) = true := by simp; omega
        simp only [d1, chkO_true]
        rw [bind_some_of (getI_in j0 hi)]
        simp only [d2, d3, chkO_true])
    (fun s hs => by
      subst hs
      refine ⟨.inl (ordR l), ?_, rfl⟩
      unfold ref29_Order_L2
      simp only [Int.lt_irrefl, decide_false, cond_false, List.take_length]
      rfl)
    (s0 := (0, [])) rfl
  unfold ref29_Order
  rw [outer]
  rfl
end Go.Proofs.Ytafgcjodefafoaa

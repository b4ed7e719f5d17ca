/-
  View's laws in plain words: ids and parents of messages; roots; answers and parents counted.
-/
import Derived.Test.YtpikahfgidgdbaaPA
namespace Go.Proofs.Ytpikahfgidgdbaa
open Go.RowKit
def postB (l : List api_Event) (j : Nat) : Bool := match l[j]? with
  | some e => e.Kind == 0
  | none => false
theorem msgB_nat (l : List api_Event) (j : Nat) : msgB l (j : Int) = postB l j := by
  unfold msgB postB
  rw [decide_eq_true (by omega), Bool.true_and, Int.toNat_natCast]
  cases h : l[j]? with
  | none => simp
  | some e =>
    have := (List.getElem?_eq_some_iff.1 h).1
    rw [decide_eq_true (show (j : Int) < (l.length : Int) by omega), Bool.true_and]
def posts (l : List api_Event) (i : Nat) : List Nat := (List.range i).filter (postB l)
theorem posts_succ (l : List api_Event) (i : Nat) : posts l (i + 1) = posts l i ++ (bif postB l i then [i] else []) := by
  unfold posts
  rw [List.range_succ, List.filter_append]
  cases h : postB l i <;> simp [h]
theorem vAct_pa (s : VSt) (e : api_Event) : (vAct s e).pa = s.pa := by
  unfold vAct
  cases (e.Group != s.gr) || s.gone <;> cases (e.Kind == 1) && (e.Author == s.au) <;> cases e.Kind == 2 <;> cases e.Kind == 3 <;> cases e.Kind == 4 <;> rfl
theorem vRun_succ (l : List api_Event) (i : Nat) : vRun l (i + 1) = match l[i]? with
    | some e => vStep l i e (vRun l i)
    | none => vRun l i := rfl
theorem vRun_idpa (l : List api_Event) : ∀ i, (vRun l i).map (fun s => (s.id, s.pa)) = (posts l i).map fun (j : Nat) => ((j : Int), parOf l j)
  | 0 => rfl
  | i + 1 => by
    have ih := vRun_idpa l i
    rw [posts_succ, List.map_append, vRun_succ, ← ih]
    unfold postB
    cases he : l[i]? with
    | none => simp
    | some e =>
      dsimp only
      unfold vStep
      cases e.Kind == 0
      · simp only [cond_false, List.map_map, List.map_nil, List.append_nil]
        refine List.map_congr_left fun s _ => ?_
        simp only [Function.comp]
        cases s.id == e.Target
        · rfl
        · simp only [cond_true, vAct_id, vAct_pa]
      · simp only [cond_true, List.map_append]
        congr 1
        simp only [List.map_cons, List.map_nil, vPost, parOf, he]
theorem viewS_at {l : List api_Event} {i : Nat} (h : i < (viewS l).length) : ∃ j m, (posts l l.length)[i]? = some j ∧ (viewS l)[i]? = some m ∧ m.Id = (j : Int) ∧ m.Parent = parOf l j := by
  have h1 := congrArg (fun x => x[i]?) (vRun_idpa l l.length)
  simp only [List.getElem?_map] at h1
  unfold viewS at h ⊢
  rw [List.length_map] at h
  rw [List.getElem?_map, List.getElem?_eq_getElem h]
  rw [List.getElem?_eq_getElem h] at h1
  cases hq : (posts l l.length)[i]? with
  | none => rw [hq] at h1; cases h1
  | some j =>
    rw [hq] at h1
    injection h1 with h1
    injection h1 with h1 h2
    exact ⟨j, _, rfl, rfl, h1, h2⟩
theorem viewS_len (l : List api_Event) : (viewS l).length = (posts l l.length).length := by
  have h1 := congrArg List.length (vRun_idpa l l.length)
  rw [List.length_map, List.length_map] at h1
  unfold viewS
  rw [List.length_map, h1]
theorem mem_posts {l : List api_Event} {j : Nat} : j ∈ posts l l.length ↔ postB l j = true := by
  unfold posts
  rw [List.mem_filter, List.mem_range]
  refine ⟨fun h => h.2, fun h => ⟨?_, h⟩⟩
  unfold postB at h
  cases hq : l[j]? with
  | none => rw [hq] at h; cases h
  | some e => exact (List.getElem?_eq_some_iff.1 hq).1
theorem viewS_id {l : List api_Event} {j : Nat} (h : postB l j = true) : ∃ m ∈ viewS l, m.Id = (j : Int) := by
  obtain ⟨i, hi⟩ := List.getElem?_of_mem (mem_posts.2 h)
  have hlt := (List.getElem?_eq_some_iff.1 hi).1
  rw [← viewS_len] at hlt
  obtain ⟨j', m, h1, h2, h3, _⟩ := viewS_at hlt
  rw [hi] at h1
  injection h1 with h1
  subst h1
  exact ⟨m, List.mem_of_getElem? h2, h3⟩
theorem viewS_mem {l : List api_Event} {m : api_Msg} (h : m ∈ viewS l) : ∃ j : Nat, postB l j = true ∧ m.Id = (j : Int) ∧ m.Parent = parOf l j := by
  obtain ⟨i, hi⟩ := List.getElem?_of_mem h
  obtain ⟨j, m', h1, h2, h3, h4⟩ := viewS_at (List.getElem?_eq_some_iff.1 hi).1
  rw [hi] at h2
  injection h2 with h2
  subst h2
  exact ⟨j, mem_posts.1 (List.mem_of_getElem? h1), h3, h4⟩
theorem find_eq (l : List api_Msg) (hl : l.length ≤ 1000000) (id : Int) (h : ∃ m ∈ l, m.Id = id) : ∃ m, law16_find l id = some (m, true) ∧ m ∈ l ∧ m.Id = id := by
  have key : ∃ m, loopF (law16_find_L1 l id) 0 = some (.inr (m, true)) ∧ m ∈ l ∧ m.Id = id := by
    refine loopF_inv (body := law16_find_L1 l id) (s0 := 0) l.length (fun i s => s = (i : Int) ∧ ∀ j m, j < i → l[j]? = some m → m.Id ≠ id) (fun o => ∃ m, o = some (.inr (m, true)) ∧ m ∈ l ∧ m.Id = id) (fun i s hi hJ => ?_) (fun s hJ => ?_) ⟨rfl, fun j m hj => by omega⟩
    · obtain ⟨rfl, hJ⟩ := hJ
      unfold law16_find_L1
      rw [decide_eq_true (by omega), cond_true, getI_nat, List.getElem?_eq_getElem hi, bind_some_of rfl, wrap64 (by omega) (by omega)]
      by_cases c : l[i].Id = id
      · exact Or.inr ⟨_, by rw [show (l[i].Id == id) = true by simp [c]]; rfl, l[i], rfl, List.getElem_mem hi, c⟩
      · refine Or.inl ⟨((i + 1 : Nat) : Int), by rw [beq_false_of_ne c]; rfl, rfl, fun j m hj hm => ?_⟩
        by_cases hji : j = i
        · subst hji
          rw [List.getElem?_eq_getElem hi] at hm
          injection hm with hm
          subst hm
          exact c
        · exact hJ j m (by omega) hm
    · obtain ⟨rfl, hJ⟩ := hJ
      obtain ⟨m, hm, hid⟩ := h
      obtain ⟨j, hj⟩ := List.getElem?_of_mem hm
      exact absurd hid (hJ j m (List.getElem?_eq_some_iff.1 hj).1 hj)
  obtain ⟨m, h1, h2, h3⟩ := key
  refine ⟨m, ?_, h2, h3⟩
  unfold law16_find
  rw [h1]
  rfl
/- roots -/
theorem rootN_facts (l : List api_Event) : ∀ n i, i ≤ n → postB l i = true → ∃ r : Nat, rootN l n i = (r : Int) ∧ r ≤ i ∧ postB l r = true ∧ parOf l r = -1
  | 0, i, hi, hp => by
    have : i = 0 := by omega
    subst this
    refine ⟨0, rfl, Nat.le_refl _, hp, ?_⟩
    have h1 := parOf_lt l 0
    unfold parOf at *
    cases hq : l[0]? with
    | none => rfl
    | some e =>
      rw [hq] at h1
      rcases parB_cases l (0 : Nat) e with h | ⟨h, h2, _⟩
      · exact h
      · dsimp only at h1; omega
  | n + 1, i, hi, hp => by
    unfold rootN
    by_cases h0 : 0 ≤ parOf l i
    · have h1 := parOf_lt l i
      have h2 := parOf_msg l i h0
      obtain ⟨p, hp'⟩ : ∃ p : Nat, parOf l i = (p : Int) := ⟨(parOf l i).toNat, by omega⟩
      rw [hp'] at h1 h2
      rw [msgB_nat] at h2
      rw [hp', decide_eq_true (by omega), cond_true, Int.toNat_natCast]
      obtain ⟨r, e1, e2, e3⟩ := rootN_facts l n p (by omega) h2
      exact ⟨r, e1, by omega, e3⟩
    · rw [decide_eq_false h0]
      refine ⟨i, rfl, Nat.le_refl _, hp, ?_⟩
      unfold parOf at *
      cases hq : l[i]? with
      | none => rfl
      | some e =>
        rw [hq] at h0
        rcases parB_cases l i e with h | ⟨h, h2, _⟩
        · exact h
        · dsimp only at h0; omega
theorem rootS_nat (l : List api_Event) {j : Nat} (h : postB l j = true) : rootS l (j : Int) = rootN l j j := by
  unfold rootS
  rw [msgB_nat, h]
  rfl
theorem rootS_par (l : List api_Event) {j p : Nat} (h : postB l j = true) (hp : parOf l j = (p : Int)) : rootS l (p : Int) = rootS l (j : Int) := by
  have h1 := parOf_lt l j
  have h2 := parOf_msg l j (by omega)
  rw [hp, msgB_nat] at h2
  rw [rootS_nat l h, rootS_nat l h2]
  obtain ⟨k, rfl⟩ : ∃ k, j = k + 1 := ⟨j - 1, by omega⟩
  conv => rhs; unfold rootN
  rw [hp, decide_eq_true (by omega), cond_true, Int.toNat_natCast, rootN_enough l k p (by omega)]
/- counting -/
theorem sum_add' {α : Type} (f g : α → Nat) : ∀ l : List α, (l.map fun x => f x + g x).sum = (l.map f).sum + (l.map g).sum
  | [] => rfl
  | x :: l => by
    rw [List.map_cons, List.map_cons, List.map_cons, List.sum_cons, List.sum_cons, List.sum_cons, sum_add' f g l]
    omega
theorem filter_sum {α : Type} (p : α → Bool) : ∀ l : List α, (l.filter p).length = (l.map fun x => bif p x then 1 else 0).sum
  | [] => rfl
  | x :: l => by
    rw [List.map_cons, List.sum_cons, ← filter_sum p l, List.filter_cons]
    cases p x
    · simp
    · simp only [if_true, List.length_cons, cond_true]; omega
theorem sum_swap {α β : Type} (r : α → β → Bool) (B : List β) : ∀ A : List α, (A.map fun a => (B.filter (r a)).length).sum = (B.map fun b => (A.filter fun a => r a b).length).sum
  | [] => by
    simp only [List.map_nil, List.sum_nil, List.filter_nil, List.length_nil]
    induction B with
    | nil => rfl
    | cons b B ih =>
      rw [List.map_cons, List.sum_cons, ← ih, Nat.add_zero]
  | a :: A => by
    have e : (B.map fun b => ((a :: A).filter fun a => r a b).length) = B.map fun b => (bif r a b then 1 else 0) + (A.filter fun a => r a b).length := List.map_congr_left fun b _ => by
      rw [List.filter_cons]
      cases r a b
      · simp
      · simp only [if_true, List.length_cons, cond_true]; omega
    rw [List.map_cons, List.sum_cons, sum_swap r B A, e, sum_add', filter_sum]
theorem filter_one {p : Nat → Bool} {l : List Nat} (hn : l.Nodup) (t : Nat) (h : ∀ x, p x = true → x = t) : (l.filter p).length = if t ∈ l ∧ p t = true then 1 else 0 := by
  induction l with
  | nil => simp
  | cons a l ih =>
    obtain ⟨h1, h2⟩ := List.nodup_cons.1 hn
    rw [List.filter_cons]
    cases hp : p a
    · simp only [Bool.false_eq_true, if_false]
      rw [ih h2]
      by_cases hat : a = t
      · subst hat
        simp [hp]
      · have : t ≠ a := fun e => hat e.symm
        simp [this]
    · have := h a hp
      subst this
      simp only [if_true, List.length_cons]
      rw [ih h2, if_neg (fun c => h1 c.1), if_pos ⟨.head _, hp⟩]
theorem posts_nodup (l : List api_Event) (i : Nat) : (posts l i).Nodup := List.Nodup.sublist List.filter_sublist List.nodup_range
theorem ansB_iff (l : List api_Event) (p k : Nat) : ansB l (p : Int) k = true ↔ p < k ∧ postB l k = true ∧ ∃ e, l[k]? = some e ∧ e.Target = (p : Int) := by
  unfold ansB postB
  rw [Bool.and_eq_true, decide_eq_true_eq]
  cases h : l[k]? with
  | none => simp
  | some e =>
    dsimp only
    rw [Bool.and_eq_true, beq_iff_eq, beq_iff_eq]
    constructor
    · rintro ⟨h1, h2, h3⟩
      exact ⟨by omega, h2, e, rfl, h3⟩
    · rintro ⟨h1, h2, e', h3, h4⟩
      injection h3 with h3
      subst h3
      exact ⟨by omega, h2, h4⟩
theorem ansT_nat (l : List api_Event) (p : Nat) : (ansT l (p : Int) l.length).length = ((List.range l.length).filter (ansB l (p : Int))).length := by
  unfold ansT
  rw [List.length_map]
theorem ans_parent {l : List api_Event} {p k : Nat} (hp : postB l p = true) (h : ansB l (p : Int) k = true) : parOf l k = (p : Int) := by
  obtain ⟨h1, h2, e, he, ht⟩ := (ansB_iff l p k).1 h
  unfold parOf
  rw [he]
  dsimp only
  unfold parB
  rw [ht, msgB_nat, hp, decide_eq_true (by omega)]
  rfl
/-- answers, counted for each message, are the messages that answer one -/
theorem count_answers (l : List api_Event) : ((posts l l.length).map fun (p : Nat) => (ansT l (p : Int) l.length).length).sum = ((posts l l.length).filter fun k => decide (0 ≤ parOf l k)).length := by
  have e1 : ((posts l l.length).map fun (p : Nat) => (ansT l (p : Int) l.length).length) = (posts l l.length).map fun (p : Nat) => ((List.range l.length).filter (ansB l (p : Int))).length := List.map_congr_left fun (p : Nat) _ => ansT_nat l p
  rw [e1, sum_swap (fun (p k : Nat) => ansB l (p : Int) k)]
  have e2 : ((List.range l.length).map fun k => ((posts l l.length).filter fun (p : Nat) => ansB l (p : Int) k).length) = (List.range l.length).map fun k => if (postB l k && decide (0 ≤ parOf l k)) = true then 1 else 0 := by
    refine List.map_congr_left fun k hk => ?_
    have hkl := List.mem_range.1 hk
    have he := List.getElem?_eq_getElem hkl
    generalize l[k] = e at he
    rw [filter_one (posts_nodup l _) e.Target.toNat (fun x hx => by
      obtain ⟨_, _, e', he', ht⟩ := (ansB_iff l x k).1 hx
      rw [he] at he'
      injection he' with he'
      subst he'
      omega)]
    have hiff : (e.Target.toNat ∈ posts l l.length ∧ ansB l ((e.Target.toNat : Nat) : Int) k = true) ↔ (postB l k && decide (0 ≤ parOf l k)) = true := by
      rw [Bool.and_eq_true, decide_eq_true_eq]
      constructor
      · rintro ⟨h1, h2⟩
        have h3 := ans_parent (mem_posts.1 h1) h2
        exact ⟨((ansB_iff l _ k).1 h2).2.1, by omega⟩
      · rintro ⟨h1, h2⟩
        have h3 := parOf_msg l k h2
        have h4 := parOf_lt l k
        have h5 : parOf l k = e.Target := by
          unfold parOf at h2 ⊢
          rw [he] at h2 ⊢
          rcases parB_cases l k e with h | ⟨h, _⟩
          · dsimp only at h2; omega
          · exact h
        rw [h5] at h2 h3 h4
        have h6 : ((e.Target.toNat : Nat) : Int) = e.Target := by omega
        refine ⟨mem_posts.2 (by rw [← msgB_nat, h6]; exact h3), (ansB_iff l _ k).2 ⟨by omega, h1, e, he, h6.symm⟩⟩
    by_cases hc : (postB l k && decide (0 ≤ parOf l k)) = true
    · rw [if_pos hc, if_pos (hiff.2 hc)]
    · rw [if_neg hc, if_neg (fun h => hc (hiff.1 h))]
  rw [e2]
  have e3 : (posts l l.length).filter (fun k => decide (0 ≤ parOf l k)) = (List.range l.length).filter fun k => postB l k && decide (0 ≤ parOf l k) := by
    unfold posts
    rw [List.filter_filter]
    congr 1
    funext k
    rw [Bool.and_comm]
  rw [e3, filter_sum]
  congr 1
  refine List.map_congr_left fun k _ => ?_
  cases postB l k && decide (0 ≤ parOf l k) <;> rfl
end Go.Proofs.Ytpikahfgidgdbaa

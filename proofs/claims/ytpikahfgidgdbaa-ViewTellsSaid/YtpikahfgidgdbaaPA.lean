/-
  View's laws in plain words: what is equal to itself; what is few; the root, the answers.
  View's laws in plain words: the answers; the example.
  View's laws in plain words: one event more.
  View's laws in plain words: the reactions; lists of pairs.
-/
import Derived.Test.YtpikahfgidgdbaaG2
import Derived.Test.YtpikahfgidgdbaaEvV
namespace Go.Proofs.Ytpikahfgidgdbaa
open Go.RowKit
theorem loop_all_true {body : Int → Option (Int ⊕ (Unit ⊕ Bool))} (n : Nat) (h : ∀ i : Nat, i < n → body (i : Int) = some (.inl ((i : Int) + 1))) (he : body (n : Int) = some (.inr (.inl ()))) : loopF body 0 = some (.inl ()) := by
  have := loopF_idx (body := body) n (fun _ => true) false (fun i hi => by rw [h i hi]; rfl) he
  rw [this, List.all_eq_true.2 (fun _ _ => rfl)]
  rfl
theorem ints_refl (a : List Int) (h : a.length ≤ 1000000) : ref16_Ints a a = some true := by
  unfold ref16_Ints
  rw [bne_self_eq_false, cond_false]
  refine seqF_inl (loop_all_true a.length (fun i hi => ?_) ?_)
  · unfold ref16_Ints_L1
    have hlt : (i : Int) < (a.length : Int) := by omega
    rw [decide_eq_true hlt, cond_true, getI_nat, List.getElem?_eq_getElem hi, bind_some_of rfl, bind_some_of rfl, bne_self_eq_false, cond_false, wrap64 (by omega) (by omega)]
  · unfold ref16_Ints_L1
    rw [decide_eq_false (by omega)]
    rfl
theorem same_refl (m : api_Msg) (h1 : m.Files.length ≤ 1000000) (h2 : m.Reacts.length ≤ 1000000) : ref16_Same m m = some true := by
  unfold ref16_Same
  have hb : ∀ {α : Type} [BEq α] [LawfulBEq α] (x : α), (x == x) = true := fun x => beq_self_eq_true x
  simp only [bne_self_eq_false, cond_false, beq_self_eq_true, Bool.not_true]
  rw [bind_some_of (ints_refl m.Files h1), Bool.not_true, cond_false]
  refine seqF_inl (loop_all_true m.Reacts.length (fun i hi => ?_) ?_)
  · unfold ref16_Same_L1
    have hlt : (i : Int) < (m.Reacts.length : Int) := by omega
    rw [decide_eq_true hlt, cond_true, getI_nat, List.getElem?_eq_getElem hi, bind_some_of rfl, bind_some_of rfl]
    simp only [beq_self_eq_true, Bool.and_self, Bool.not_true, cond_false]
    rw [wrap64 (by omega) (by omega)]
  · unfold ref16_Same_L1
    rw [decide_eq_false (by omega)]
    rfl
def SmallM (m : api_Msg) : Prop := m.Files.length ≤ 1000000 ∧ m.Reacts.length ≤ 1000000
theorem sameall_refl (l : List api_Msg) (hl : l.length ≤ 1000000) (h : ∀ m ∈ l, SmallM m) : ref16_SameAll l l = some true := by
  unfold ref16_SameAll
  rw [bne_self_eq_false, cond_false]
  refine seqF_inl (loop_all_true l.length (fun i hi => ?_) ?_)
  · unfold ref16_SameAll_L1
    have hlt : (i : Int) < (l.length : Int) := by omega
    have hm := h l[i] (List.getElem_mem hi)
    rw [decide_eq_true hlt, cond_true, getI_nat, List.getElem?_eq_getElem hi, bind_some_of rfl, bind_some_of rfl, bind_some_of (same_refl _ hm.1 hm.2), Bool.not_true, cond_false, wrap64 (by omega) (by omega)]
  · unfold ref16_SameAll_L1
    rw [decide_eq_false (by omega)]
    rfl
/-- within the bounds -/
def fewE (e : api_Event) : Prop := e.Causes.length ≤ 20 ∧ e.Files.length ≤ 10 ∧ e.Text.size ≤ 200
theorem few_eq (l : List api_Event) (hl : l.length ≤ maxLen) : ∃ b, ref16_Few l 30 = some b ∧ (b = true → l.length ≤ 30 ∧ ∀ e ∈ l, fewE e) := by
  have hl' : l.length ≤ 9223372036854775807 := by simpa [maxLen] using hl
  have key : loopF (ref16_Few_L1 l 30) 0 = some (.inr false) ∨ loopF (ref16_Few_L1 l 30) 0 = some (.inl ()) ∧ ∀ j e, j < 31 → l[j]? = some e → fewE e := by
    refine loopF_inv (body := ref16_Few_L1 l 30) (s0 := 0) (min l.length 31) (fun i s => s = (i : Int) ∧ ∀ j e, j < i → l[j]? = some e → fewE e) (fun o : Option (Unit ⊕ Bool) => o = some (.inr false) ∨ o = some (.inl ()) ∧ ∀ j e, j < 31 → l[j]? = some e → fewE e) (fun i s hi hJ => ?_) (fun s hJ => ?_) ⟨rfl, fun j e hj => by omega⟩
    · obtain ⟨rfl, hJ⟩ := hJ
      have hil : i < l.length := by omega
      unfold ref16_Few_L1
      have h1 : (i : Int) < (l.length : Int) := by omega
      have h2 : (i : Int) ≤ 30 := by omega
      rw [decide_eq_true h1, decide_eq_true h2, cond_true, cond_true, getI_nat, List.getElem?_eq_getElem hil, bind_some_of rfl]
      by_cases c1 : (20 : Int) < (l[i].Causes.length : Int)
      · exact Or.inr ⟨.inr false, by rw [decide_eq_true c1]; rfl, Or.inl rfl⟩
      by_cases c2 : (10 : Int) < (l[i].Files.length : Int)
      · exact Or.inr ⟨.inr false, by rw [decide_eq_false c1, decide_eq_true c2]; rfl, Or.inl rfl⟩
      by_cases c3 : (200 : Int) < (l[i].Text.size : Int)
      · exact Or.inr ⟨.inr false, by rw [decide_eq_false c1, decide_eq_false c2, decide_eq_true c3]; rfl, Or.inl rfl⟩
      refine Or.inl ⟨((i + 1 : Nat) : Int), by rw [decide_eq_false c1, decide_eq_false c2, decide_eq_false c3, wrap64 (by omega) (by omega)]; rfl, rfl, fun j e hj he => ?_⟩
      by_cases hji : j = i
      · subst hji
        rw [List.getElem?_eq_getElem hil] at he
        injection he with he
        subst he
        exact ⟨by omega, by omega, by omega⟩
      · exact hJ j e (by omega) he
    · obtain ⟨rfl, hJ⟩ := hJ
      refine ⟨.inl (), ?_, Or.inr ⟨rfl, fun j e hj he => hJ j e ?_ he⟩⟩
      · unfold ref16_Few_L1
        by_cases c : l.length ≤ 31
        · have e1 : min l.length 31 = l.length := by omega
          rw [e1, decide_eq_false (by omega)]
          rfl
        · have e1 : min l.length 31 = 31 := by omega
          rw [e1, decide_eq_true (by omega), cond_true, decide_eq_false (by omega)]
          rfl
      · have := (List.getElem?_eq_some_iff.1 he).1
        omega
  unfold ref16_Few
  rcases key with key | ⟨key, hk⟩
  · exact ⟨false, by rw [key]; rfl, fun h => by cases h⟩
  · refine ⟨_, by rw [key]; rfl, fun h => ?_⟩
    have hle : l.length ≤ 30 := by
      have := of_decide_eq_true h
      omega
    refine ⟨hle, fun e he => ?_⟩
    obtain ⟨j, hj⟩ := List.getElem?_of_mem he
    have := (List.getElem?_eq_some_iff.1 hj).1
    exact hk j e (by omega) hj
/-- what View returns -/
def viewS (l : List api_Event) : List api_Msg := (vRun l l.length).map vOut
theorem view_eq {l : List api_Event} (h1 : l.length ≤ 1000) (h2 : ∀ e ∈ l, e.Files.length ≤ 1000000 ∧ (IntKind.i64.min ≤ e.Author ∧ e.Author ≤ IntKind.i64.max) ∧ (IntKind.i64.min ≤ e.N ∧ e.N ≤ IntKind.i64.max)) : view_View l = some (viewS l) := by
  have hmin : IntKind.i64.min = -9223372036854775808 := rfl
  have hmax : IntKind.i64.max = 9223372036854775807 := rfl
  unfold view_View
  have : (decide (l.length ≤ 1000) && l.all okEv) = true := by
    rw [Bool.and_eq_true, List.all_eq_true]
    refine ⟨decide_eq_true h1, fun e he => ?_⟩
    have := h2 e he
    rw [hmin, hmax] at this
    simp only [okEv, Bool.and_eq_true, decide_eq_true_eq]
    omega
  rw [this]
  rfl
theorem viewS_small {l : List api_Event} (h1 : l.length ≤ 1000) (h2 : ∀ e ∈ l, e.Files.length ≤ 1000000) : (viewS l).length ≤ 1000 ∧ ∀ m ∈ viewS l, SmallM m := by
  refine ⟨by unfold viewS; rw [List.length_map]; exact Nat.le_trans (vRun_len l _) h1, fun m hm => ?_⟩
  obtain ⟨s, hs, rfl⟩ := List.mem_map.1 hm
  have := vRun_small l h2 _ s hs
  refine ⟨this.1, ?_⟩
  simp only [vOut]
  cases s.gone
  · simp only [cond_false, List.length_map]
    rw [(sortP_perm s.re).length_eq]
    omega
  · exact Nat.zero_le _
/- the reference's words -/
theorem ref_post_eq (l : List api_Event) (id : Int) : ref16_post l id = some (msgB l id) := by
  unfold ref16_post msgB
  by_cases h0 : id < 0
  · have : ¬ 0 ≤ id := by omega
    simp [h0, this]
  · by_cases h1 : (l.length : Int) ≤ id
    · have : ¬ id < (l.length : Int) := by omega
      simp [h0, h1, this]
    · have h2 : id < (l.length : Int) := by omega
      have h3 : 0 ≤ id := by omega
      have hi : id.toNat < l.length := by omega
      simp only [h0, h1, h2, h3, decide_true, decide_false, cond_false, Bool.true_and]
      rw [getI_of h3, List.getElem?_eq_getElem hi]
      rfl
theorem ref_parent_eq {l : List api_Event} {id : Int} {e : api_Event} (h : getI l id = some e) : ref16_Parent l id = some (parB l id e) := by
  unfold ref16_Parent parB
  rw [bind_some_of h, ref_post_eq]
  cases decide (e.Target < id) <;> cases msgB l e.Target <;> rfl
/-- the parent of a message, or -1 -/
def parOf (l : List api_Event) (i : Nat) : Int := match l[i]? with
  | some e => parB l i e
  | none => -1
theorem parB_cases (l : List api_Event) (i : Int) (e : api_Event) : parB l i e = -1 ∨ parB l i e = e.Target ∧ 0 ≤ e.Target ∧ e.Target < i ∧ msgB l e.Target = true := by
  unfold parB
  cases h : decide (e.Target < i) && msgB l e.Target
  · exact Or.inl rfl
  · rw [Bool.and_eq_true] at h
    refine Or.inr ⟨rfl, ?_, of_decide_eq_true h.1, h.2⟩
    have := h.2
    unfold msgB at this
    rw [Bool.and_eq_true] at this
    exact of_decide_eq_true this.1
/-- the first message of a thread -/
def rootN (l : List api_Event) : Nat → Nat → Int
  | 0, i => i
  | n + 1, i => bif decide (0 ≤ parOf l i) then rootN l n (parOf l i).toNat else i
def rootS (l : List api_Event) (id : Int) : Int := bif msgB l id then rootN l id.toNat id.toNat else -1
theorem parOf_lt (l : List api_Event) (i : Nat) : parOf l i < (i : Int) := by
  unfold parOf
  cases l[i]? with
  | none => simp; omega
  | some e =>
    rcases parB_cases l i e with h | ⟨h, _, h2, _⟩
    · dsimp only; omega
    · dsimp only; omega
theorem rootN_enough (l : List api_Event) : ∀ n i, i ≤ n → rootN l n i = rootN l i i
  | 0, i, h => by
    have : i = 0 := by omega
    subst this
    rfl
  | n + 1, 0, h => by
    have := parOf_lt l 0
    unfold rootN
    rw [decide_eq_false (by omega)]
    rfl
  | n + 1, i + 1, h => by
    unfold rootN
    cases hp : decide (0 ≤ parOf l (i + 1))
    · rfl
    · have h0 := of_decide_eq_true hp
      have h1 := parOf_lt l (i + 1)
      simp only [cond_true]
      rw [rootN_enough l n _ (by omega), rootN_enough l i _ (by omega)]
theorem msgB_lt {l : List api_Event} {id : Int} (h : msgB l id = true) : 0 ≤ id ∧ id < (l.length : Int) ∧ ∃ e, l[id.toNat]? = some e ∧ e.Kind = 0 := by
  unfold msgB at h
  rw [Bool.and_eq_true, Bool.and_eq_true] at h
  obtain ⟨h1, h2, h3⟩ := h
  refine ⟨of_decide_eq_true h1, of_decide_eq_true h2, ?_⟩
  cases hq : l[id.toNat]? with
  | none => rw [hq] at h3; cases h3
  | some e =>
    rw [hq] at h3
    exact ⟨e, rfl, eq_of_beq h3⟩
theorem parOf_msg (l : List api_Event) (i : Nat) (h : 0 ≤ parOf l i) : msgB l (parOf l i) = true := by
  unfold parOf at *
  cases hq : l[i]? with
  | none => rw [hq] at h; simp at h
  | some e =>
    rw [hq] at h
    dsimp only at h ⊢
    rcases parB_cases l i e with h' | ⟨h', _, _, h3⟩
    · omega
    · rw [h']; exact h3
theorem root_loop {body : Int × Int → Option ((Int × Int) ⊕ (Int ⊕ Int))} {l : List api_Event} (hb : ∀ (a : Int) (i : Nat), i < l.length → body (a, (i : Int)) = some (.inl ((i : Int), parOf l i))) (he : ∀ a b : Int, b < 0 → body (a, b) = some (.inr (.inl a))) :
    ∀ n (i : Nat), i ≤ n → i < l.length → loopF body ((i : Int), parOf l i) = some (.inl (rootN l i i))
  | 0, i, hi, hl => by
    have : i = 0 := by omega
    subst this
    rw [loopF_stop (he _ _ (by have := parOf_lt l 0; omega))]
    rfl
  | n + 1, i, hi, hl => by
    have h1 := parOf_lt l i
    by_cases h0 : 0 ≤ parOf l i
    · obtain ⟨p, hp⟩ : ∃ p : Nat, parOf l i = (p : Int) := ⟨(parOf l i).toNat, by omega⟩
      have hpl : p < l.length := by omega
      rw [hp, loopF_next (hb _ p hpl), root_loop hb he n p (by omega) hpl]
      obtain ⟨i, rfl⟩ : ∃ k, i = k + 1 := ⟨i - 1, by omega⟩
      conv => rhs; unfold rootN
      rw [hp, decide_eq_true (by omega), cond_true, Int.toNat_natCast, rootN_enough l i p (by omega)]
    · rw [loopF_stop (he _ _ (by omega))]
      cases i with
      | zero => rfl
      | succ i =>
        unfold rootN
        rw [decide_eq_false h0]
        rfl
theorem view_root_eq (l : List api_Event) (id : Int) : view_Root l id = some (rootS l id) := by
  unfold view_Root rootS
  rw [view_message_eq, bind_some_of rfl]
  cases hm : msgB l id
  · rfl
  · obtain ⟨h0, h1, e, he, _⟩ := msgB_lt hm
    obtain ⟨i, rfl⟩ : ∃ i : Nat, id = (i : Int) := ⟨id.toNat, by omega⟩
    have hi : i < l.length := by omega
    have hpar : ∀ i : Nat, i < l.length → view_parent l (i : Int) = some (parOf l i) := fun i hi => by
      have hq : getI l (i : Int) = some l[i] := by rw [getI_nat, List.getElem?_eq_getElem hi]
      rw [view_parent_eq hq]
      unfold parOf
      rw [List.getElem?_eq_getElem hi]
    simp only [Bool.not_true, cond_false, cond_true, Int.toNat_natCast]
    rw [hpar i hi, bind_some_of rfl, root_loop (l := l) (fun a i hi => ?_) (fun a b hb => ?_) i i (Nat.le_refl _) hi]
    · rfl
    · unfold view_Root_L1
      dsimp only
      rw [decide_eq_true (by omega), cond_true, hpar i hi]
      rfl
    · unfold view_Root_L1
      dsimp only
      rw [decide_eq_false (by omega)]
      rfl
theorem ref_root_eq (l : List api_Event) (id : Int) : ref16_Root l id = some (rootS l id) := by
  unfold ref16_Root rootS
  rw [ref_post_eq, bind_some_of rfl]
  cases hm : msgB l id
  · rfl
  · obtain ⟨h0, h1, e, he, _⟩ := msgB_lt hm
    obtain ⟨i, rfl⟩ : ∃ i : Nat, id = (i : Int) := ⟨id.toNat, by omega⟩
    have hi : i < l.length := by omega
    have hpar : ∀ i : Nat, i < l.length → ref16_Parent l (i : Int) = some (parOf l i) := fun i hi => by
      have hq : getI l (i : Int) = some l[i] := by rw [getI_nat, List.getElem?_eq_getElem hi]
      rw [ref_parent_eq hq]
      unfold parOf
      rw [List.getElem?_eq_getElem hi]
    simp only [Bool.not_true, cond_false, cond_true, Int.toNat_natCast]
    rw [hpar i hi, bind_some_of rfl, root_loop (l := l) (fun a i hi => ?_) (fun a b hb => ?_) i i (Nat.le_refl _) hi]
    · rfl
    · unfold ref16_Root_L1
      dsimp only
      rw [decide_eq_true (by omega), cond_true, hpar i hi]
      rfl
    · unfold ref16_Root_L1
      dsimp only
      rw [decide_eq_false (by omega)]
      rfl
end Go.Proofs.Ytpikahfgidgdbaa
namespace Go.Proofs.Ytpikahfgidgdbaa
open Go.RowKit
def ansB (l : List api_Event) (id : Int) (k : Nat) : Bool := decide (id < (k : Int)) && (match l[k]? with
  | some e => e.Kind == 0 && e.Target == id
  | none => false)
def ansT (l : List api_Event) (id : Int) (i : Nat) : List Int := ((List.range i).filter (ansB l id)).map fun (k : Nat) => (k : Int)
def ansS (l : List api_Event) (id : Int) : List Int := bif msgB l id then ansT l id l.length else []
theorem ansT_succ (l : List api_Event) (id : Int) (i : Nat) : ansT l id (i + 1) = ansT l id i ++ (bif ansB l id i then [(i : Int)] else []) := by
  unfold ansT
  rw [List.range_succ, List.filter_append, List.map_append]
  congr 1
  cases h : ansB l id i <;> simp [h]
theorem ansT_len (l : List api_Event) (id : Int) (i : Nat) : (ansT l id i).length ≤ i := by
  unfold ansT
  rw [List.length_map]
  exact Nat.le_trans (List.length_filter_le _ _) (by simp)
theorem view_answers_eq {l : List api_Event} (hl : l.length ≤ 1000) (id : Int) : view_Answers l id = some (ansS l id) := by
  unfold view_Answers ansS
  rw [view_message_eq, bind_some_of rfl]
  cases hm : msgB l id
  · rfl
  · simp only [Bool.not_true, cond_false, cond_true]
    have key : loopF (view_Answers_L1 l id) ((0 : Int), ([] : List Int)) = some (.inl (ansT l id l.length)) := by
      refine loopF_inv (body := view_Answers_L1 l id) (s0 := ((0 : Int), ([] : List Int))) l.length (fun i s => s = ((i : Int), ansT l id i)) (fun o => o = some (.inl (ansT l id l.length))) (fun i s hi hJ => ?_) (fun s hJ => ?_) rfl
      · subst hJ
        refine Or.inl ⟨_, ?_, rfl⟩
        unfold view_Answers_L1
        dsimp only
        rw [decide_eq_true (by omega), cond_true, getI_nat, List.getElem?_eq_getElem hi, bind_some_of rfl, wrap64 (by omega) (by omega), ansT_succ]
        unfold ansB
        rw [List.getElem?_eq_getElem hi]
        have hlen := ansT_len l id i
        cases h1 : decide (id < (i : Int))
        · simp
        · cases h2 : l[i].Kind == 0
          · simp [h2]
          · cases h3 : l[i].Target == id
            · simp [h2, h3]
            · have : (ansT l id i).length + [(i : Int)].length ≤ 1000000 := by simp; omega
              rw [decide_eq_true this]
              simp [h2, h3, chkO]
      · subst hJ
        refine ⟨_, ?_, rfl⟩
        unfold view_Answers_L1
        dsimp only
        rw [decide_eq_false (by omega)]
        rfl
    rw [key]
    rfl
theorem ansT_zero (l : List api_Event) (id : Int) : ∀ i : Nat, (i : Int) ≤ id + 1 → ansT l id i = []
  | 0, _ => rfl
  | i + 1, h => by
    rw [ansT_succ, ansT_zero l id i (by omega)]
    unfold ansB
    rw [decide_eq_false (by omega)]
    rfl
theorem ref_answers_eq {l : List api_Event} (hl : l.length ≤ 1000) (id : Int) : ref16_Answers l id = some (ansS l id) := by
  unfold ref16_Answers ansS
  rw [ref_post_eq, bind_some_of rfl]
  cases hm : msgB l id
  · rfl
  · obtain ⟨h0, h1, e, he, _⟩ := msgB_lt hm
    obtain ⟨q, rfl⟩ : ∃ q : Nat, id = (q : Int) := ⟨id.toNat, by omega⟩
    simp only [Bool.not_true, cond_false, cond_true]
    rw [wrap64 (by omega) (by omega)]
    have key : loopF (ref16_Answers_L1 l (q : Int)) ((q : Int) + 1, ([] : List Int)) = some (.inl (ansT l q l.length)) := by
      refine loopF_inv (body := ref16_Answers_L1 l (q : Int)) (s0 := ((q : Int) + 1, ([] : List Int))) (l.length - (q + 1)) (fun i s => s = (((q + 1 + i : Nat) : Int), ansT l q (q + 1 + i))) (fun o => o = some (.inl (ansT l q l.length))) (fun i s hi hJ => ?_) (fun s hJ => ?_) (by rw [Nat.add_zero, ansT_zero l q (q + 1) (by omega)]; rfl)
      · subst hJ
        have hi' : q + 1 + i < l.length := by omega
        refine Or.inl ⟨_, ?_, rfl⟩
        unfold ref16_Answers_L1
        dsimp only
        rw [decide_eq_true (by omega), cond_true, getI_nat, List.getElem?_eq_getElem hi', bind_some_of rfl, wrap64 (by omega) (by omega), ← Nat.add_assoc, ansT_succ]
        unfold ansB
        rw [List.getElem?_eq_getElem hi', decide_eq_true (show (q : Int) < ((q + 1 + i : Nat) : Int) by omega)]
        have hlen := ansT_len l q (q + 1 + i)
        cases h2 : l[q + 1 + i].Kind == 0
        · simp [h2]
        · cases h3 : l[q + 1 + i].Target == (q : Int)
          · simp [h2, h3]
          · have : (ansT l q (q + 1 + i)).length + [((q + 1 + i : Nat) : Int)].length ≤ 1000000 := by simp; omega
            rw [decide_eq_true this]
            simp [h2, h3, chkO]
      · subst hJ
        have e1 : q + 1 + (l.length - (q + 1)) = l.length := by omega
        rw [e1]
        refine ⟨_, ?_, rfl⟩
        unfold ref16_Answers_L1
        dsimp only
        rw [decide_eq_false (by omega)]
        rfl
    rw [key]
    rfl
def story : List api_Event := [(api_Event.mk (1 : Int) (0 : Int) ([] : List Int) (0 : Int) (0 : Int) (-1 : Int) (-1 : Int) (-1 : Int) (0 : Int) (ByteArray.mk #[97]) ([] : List Int) (0 : Int)), (api_Event.mk (13 : Int) (0 : Int) ([] : List Int) (0 : Int) (0 : Int) (0 : Int) (-1 : Int) (-1 : Int) (0 : Int) (ByteArray.mk #[98]) ([] : List Int) (0 : Int)), (api_Event.mk (1 : Int) (1 : Int) ([] : List Int) (1 : Int) (0 : Int) (0 : Int) (-1 : Int) (-1 : Int) (0 : Int) (ByteArray.mk #[99]) ([] : List Int) (0 : Int)), (api_Event.mk (13 : Int) (1 : Int) ([] : List Int) (3 : Int) (0 : Int) (0 : Int) (-1 : Int) (-1 : Int) (7 : Int) (ByteArray.mk #[]) ([] : List Int) (0 : Int)), (api_Event.mk (13 : Int) (2 : Int) ([] : List Int) (1 : Int) (0 : Int) (0 : Int) (-1 : Int) (-1 : Int) (0 : Int) (ByteArray.mk #[100]) ([] : List Int) (0 : Int)), (api_Event.mk (1 : Int) (2 : Int) ([] : List Int) (2 : Int) (0 : Int) (1 : Int) (-1 : Int) (-1 : Int) (0 : Int) (ByteArray.mk #[]) ([] : List Int) (0 : Int))]
theorem story_eq : law16_story = some story := rfl
theorem story_view : viewS story = [(api_Msg.mk (0 : Int) (1 : Int) (0 : Int) (-1 : Int) (-1 : Int) (-1 : Int) (ByteArray.mk #[99]) ([] : List Int) (1 : Int) [(Arr2_Int.mk (13 : Int) (7 : Int))] false), (api_Msg.mk (1 : Int) (13 : Int) (0 : Int) (0 : Int) (-1 : Int) (-1 : Int) (ByteArray.mk #[]) ([] : List Int) (0 : Int) ([] : List Arr2_Int) true)] := by
  have h : vRun story story.length = [⟨0, 1, 0, -1, -1, -1, ByteArray.mk #[99], [], 1, false, [(13, 7)]⟩, ⟨1, 13, 0, 0, -1, -1, ByteArray.mk #[], [], 0, true, []⟩] := by
    have hw : RowKit.wrap64 1 = 1 := by unfold RowKit.wrap64; omega
    simp [story, vRun, vStep, vPost, parB, msgB, vAct, putP, hw]
  unfold viewS
  rw [h]
  simp [vOut, sortP, toA]
theorem small_true : law16_small = some true := by
  unfold law16_small
  have hv : view_View story = some (viewS story) := view_eq (by decide) (fun e he => by
    have h1 : story.all (fun e => decide (e.Files.length ≤ 1000000) && (decide (IntKind.i64.min ≤ e.Author) && decide (e.Author ≤ IntKind.i64.max)) && (decide (IntKind.i64.min ≤ e.N) && decide (e.N ≤ IntKind.i64.max))) = true := by decide
    have := List.all_eq_true.1 h1 e he
    simp only [Bool.and_eq_true, decide_eq_true_eq] at this
    exact ⟨this.1.1, this.1.2, this.2⟩)
  rw [story_eq]
  simp only [Option.bind_some, hv, story_view]
  rw [sameall_refl _ (by decide) (fun m hm => by
    simp only [List.mem_cons, List.not_mem_nil, or_false] at hm
    rcases hm with rfl | rfl <;> exact ⟨by decide, by decide⟩)]
  simp only [Option.bind_some, cond_true, view_root_eq, view_answers_eq (l := story) (by decide)]
  have r1 : rootS story 1 = 0 := by decide
  have r2 : rootS story 2 = -1 := by decide
  have r3 : ansS story 0 = [1] := by decide
  rw [r1, r2, r3, ints_refl _ (by decide)]
  rfl
end Go.Proofs.Ytpikahfgidgdbaa
namespace Go.Proofs.Ytpikahfgidgdbaa
open Go.RowKit
theorem msgB_app (l r : List api_Event) {t : Int} (ht : t < (l.length : Int)) : msgB (l ++ r) t = msgB l t := by
  unfold msgB
  by_cases h0 : 0 ≤ t
  · have h1 : t < ((l ++ r).length : Int) := by rw [List.length_append]; omega
    rw [decide_eq_true h1, decide_eq_true ht, List.getElem?_append_left (by omega)]
  · rw [decide_eq_false h0]
    rfl
theorem parB_app (l r : List api_Event) {i : Int} (hi : i ≤ (l.length : Int)) (e : api_Event) : parB (l ++ r) i e = parB l i e := by
  unfold parB
  by_cases h : e.Target < i
  · rw [msgB_app l r (by omega)]
  · rw [decide_eq_false h]
    rfl
theorem vStep_app (l r : List api_Event) {i : Nat} (hi : i ≤ l.length) (e : api_Event) (L : List VSt) : vStep (l ++ r) i e L = vStep l i e L := by
  unfold vStep vPost
  rw [parB_app l r (by omega)]
theorem vRun_app (l r : List api_Event) : ∀ i, i ≤ l.length → vRun (l ++ r) i = vRun l i
  | 0, _ => rfl
  | i + 1, h => by
    unfold vRun
    rw [List.getElem?_append_left (by omega), vRun_app l r i (by omega)]
    cases l[i]? with
    | none => rfl
    | some e => exact vStep_app l r (by omega) e _
theorem vRun_snoc (l : List api_Event) (e : api_Event) : vRun (l ++ [e]) (l ++ [e]).length = vStep l l.length e (vRun l l.length) := by
  rw [List.length_append]
  show (match (l ++ [e])[l.length]? with | some e' => vStep (l ++ [e]) l.length e' (vRun (l ++ [e]) l.length) | none => vRun (l ++ [e]) l.length) = _
  rw [List.getElem?_append_right (Nat.le_refl _), Nat.sub_self, vRun_app l [e] l.length (Nat.le_refl _)]
  exact vStep_app l [e] (Nat.le_refl _) e _
/-- an event that is no message turns the messages one by one -/
def turnS (e : api_Event) (s : VSt) : VSt := bif s.id == e.Target then vAct s e else s
theorem viewS_post (l : List api_Event) (e : api_Event) (h : (e.Kind == 0) = true) : viewS (l ++ [e]) = viewS l ++ [vOut (vPost l l.length e)] := by
  unfold viewS
  rw [vRun_snoc]
  unfold vStep
  rw [h, cond_true, List.map_append]
  rfl
theorem viewS_act (l : List api_Event) (e : api_Event) (h : (e.Kind == 0) = false) : viewS (l ++ [e]) = (vRun l l.length).map fun s => vOut (turnS e s) := by
  unfold viewS
  rw [vRun_snoc]
  unfold vStep
  rw [h, cond_false, List.map_map]
  rfl
theorem wrap_eq {n : Int} (h1 : -9223372036854775808 ≤ n) (h2 : n ≤ 9223372036854775807) : RowKit.wrap64 n = IntKind.i64.wrap n := by
  rw [wrap64 h1 h2]
  unfold RowKit.wrap64
  omega
theorem vRun_ed (l : List api_Event) : ∀ i, i ≤ 1000000 → ∀ s ∈ vRun l i, 0 ≤ s.ed ∧ s.ed ≤ (i : Int)
  | 0, _, s, hs => by cases hs
  | i + 1, hi, s, hs => by
    have ih := vRun_ed l i (by omega)
    unfold vRun at hs
    cases he : l[i]? with
    | none =>
      rw [he] at hs
      have := ih s hs
      omega
    | some e =>
      rw [he] at hs
      dsimp only at hs
      unfold vStep at hs
      cases hk : e.Kind == 0
      · rw [hk] at hs
        obtain ⟨t, ht, rfl⟩ := List.mem_map.1 hs
        have h1 := ih t ht
        have hw : RowKit.wrap64 (t.ed + 1) = t.ed + 1 := by unfold RowKit.wrap64; omega
        cases t.id == e.Target
        · simp only [cond_false]; omega
        · simp only [cond_true]
          unfold vAct
          cases (e.Group != t.gr) || t.gone <;> cases (e.Kind == 1) && (e.Author == t.au) <;> cases e.Kind == 2 <;> cases e.Kind == 3 <;> cases e.Kind == 4 <;> simp only [cond_true, cond_false, hw] <;> omega
      · rw [hk] at hs
        rcases List.mem_append.1 hs with hs | hs
        · have := ih s hs
          omega
        · rw [List.mem_singleton.1 hs]
          simp only [vPost]
          omega
theorem vRun_at {l : List api_Event} {n i : Nat} {f : VSt → api_Msg} (h : i < (vRun l n).length) : getI ((vRun l n).map f) (i : Int) = some (f ((vRun l n)[i])) := by
  rw [getI_nat, List.getElem?_map, List.getElem?_eq_getElem h]
  rfl
end Go.Proofs.Ytpikahfgidgdbaa
namespace Go.Proofs.Ytpikahfgidgdbaa
open Go.RowKit
theorem nodup_putP {l : List Pr} {x : Pr} (h : l.Nodup) : (putP l x).Nodup := by
  unfold putP
  by_cases hx : x ∈ l
  · rw [if_pos hx]; exact h
  · rw [if_neg hx]
    exact List.nodup_append.2 ⟨h, by simp, fun a ha b hb => by rw [List.mem_singleton.1 hb]; exact fun e => hx (e ▸ ha)⟩
theorem mem_putP {l : List Pr} {x y : Pr} : y ∈ putP l x ↔ y ∈ l ∨ y = x := by
  unfold putP
  by_cases hx : x ∈ l
  · rw [if_pos hx]
    exact ⟨Or.inl, fun h => h.elim id fun e => e ▸ hx⟩
  · rw [if_neg hx]
    simp
theorem putP_len (l : List Pr) (x : Pr) : (putP l x).length = l.length + (if x ∈ l then 0 else 1) := by
  unfold putP
  by_cases hx : x ∈ l
  · rw [if_pos hx, if_pos hx]; rfl
  · rw [if_neg hx, if_neg hx]; simp
theorem putP_twice (l : List Pr) (x : Pr) : putP (putP l x) x = putP l x := by
  have : x ∈ putP l x := mem_putP.2 (Or.inr rfl)
  generalize putP l x = m at *
  unfold putP
  rw [if_pos this]
theorem erase_len (l : List Pr) (x : Pr) : (l.erase x).length = l.length - (if x ∈ l then 1 else 0) := by
  by_cases hx : x ∈ l
  · rw [if_pos hx, List.length_erase_of_mem hx]
  · rw [if_neg hx, List.erase_of_not_mem hx]; rfl
theorem vAct_nodup {s : VSt} {e : api_Event} (h : s.re.Nodup) : (vAct s e).re.Nodup := by
  unfold vAct
  cases (e.Group != s.gr) || s.gone <;> cases (e.Kind == 1) && (e.Author == s.au) <;> cases e.Kind == 2 <;> cases e.Kind == 3 <;> cases e.Kind == 4 <;> first | exact h | exact nodup_putP h | exact h.erase _ | exact List.nodup_nil
theorem vRun_re (l : List api_Event) : ∀ i, ∀ s ∈ vRun l i, s.re.Nodup
  | 0, s, hs => by cases hs
  | i + 1, s, hs => by
    have ih := vRun_re l i
    unfold vRun at hs
    cases he : l[i]? with
    | none =>
      rw [he] at hs
      exact ih s hs
    | some e =>
      rw [he] at hs
      dsimp only at hs
      unfold vStep at hs
      cases hk : e.Kind == 0
      · rw [hk] at hs
        obtain ⟨t, ht, rfl⟩ := List.mem_map.1 hs
        have h1 := ih t ht
        cases t.id == e.Target
        · exact h1
        · exact vAct_nodup h1
      · rw [hk] at hs
        rcases List.mem_append.1 hs with hs | hs
        · exact ih s hs
        · rw [List.mem_singleton.1 hs]
          exact List.nodup_nil
theorem toA_inj {x y : Pr} (h : toA x = toA y) : x = y := by
  unfold toA at h
  injection h with h1 h2
  exact Prod.ext h1 h2
theorem toA_mem {l : List Pr} {x : Pr} : toA x ∈ l.map toA ↔ x ∈ l := by
  rw [List.mem_map]
  exact ⟨fun ⟨y, hy, e⟩ => toA_inj e ▸ hy, fun h => ⟨x, h, rfl⟩⟩
theorem has_eq (l : List Arr2_Int) (hl : l.length ≤ 1000000) (x : Pr) : ∃ b, law16_has l x.1 x.2 = some b ∧ (b = true ↔ toA x ∈ l) := by
  have hstep : ∀ i : Nat, i < l.length → ∀ y, l[i]? = some y → law16_has_L1 l x.1 x.2 (i : Int) = bif (y.a0 == x.1) && (y.a1 == x.2) then some (.inr (.inr true)) else some (.inl ((i : Int) + 1)) := fun i hi y hy => by
    unfold law16_has_L1
    rw [decide_eq_true (by omega), cond_true, getI_nat, hy, bind_some_of rfl, wrap64 (by omega) (by omega)]
    cases y.a0 == x.1 <;> cases y.a1 == x.2 <;> rfl
  have key := loopF_idx (body := law16_has_L1 l x.1 x.2) l.length (fun i => match l[i]? with | some y => !((y.a0 == x.1) && (y.a1 == x.2)) | none => true) true (fun i hi => by
      have hy := List.getElem?_eq_getElem hi
      rw [hstep i hi _ hy, hy]
      dsimp only
      cases (l[i].a0 == x.1) && (l[i].a1 == x.2) <;> rfl) (by
      unfold law16_has_L1
      rw [decide_eq_false (by omega)]
      rfl)
  unfold law16_has
  rw [key]
  cases hall : (List.range l.length).all (fun i => match l[i]? with | some y => !((y.a0 == x.1) && (y.a1 == x.2)) | none => true)
  · refine ⟨true, rfl, fun _ => ?_, fun _ => rfl⟩
    rw [Bool.eq_false_iff, ne_eq, List.all_eq_true] at hall
    apply Classical.byContradiction
    intro hn
    apply hall
    intro i hi
    cases hy : l[i]? with
    | none => rfl
    | some y =>
      dsimp only
      rw [Bool.not_eq_true', Bool.and_eq_false_iff]
      by_cases c : y.a0 = x.1
      · refine Or.inr (beq_false_of_ne fun c2 => hn ?_)
        have : y = toA x := by cases y; simp only at c c2; subst c c2; rfl
        rw [← this]
        exact List.mem_of_getElem? hy
      · exact Or.inl (beq_false_of_ne c)
  · refine ⟨false, rfl, ⟨(fun h => by cases h), fun hm => ?_⟩⟩
    obtain ⟨i, hi⟩ := List.getElem?_of_mem hm
    rw [List.all_eq_true] at hall
    have := hall i (List.mem_range.2 (List.getElem?_eq_some_iff.1 hi).1)
    rw [hi] at this
    simp [toA] at this
theorem sortP_strict {l : List Pr} (h : l.Nodup) {i : Nat} {x y : Pr} (hx : (sortP l)[i]? = some x) (hy : (sortP l)[i + 1]? = some y) : x.1 < y.1 ∨ x.1 = y.1 ∧ x.2 < y.2 := by
  have hn : (sortP l).Nodup := (sortP_perm l).nodup_iff.2 h
  have h1 := (List.getElem?_eq_some_iff.1 hx)
  have h2 := (List.getElem?_eq_some_iff.1 hy)
  have hle := List.pairwise_iff_getElem.1 (sortP_pw l) i (i + 1) h1.1 h2.1 (by omega)
  have hne := List.pairwise_iff_getElem.1 hn i (i + 1) h1.1 h2.1 (by omega)
  rw [h1.2, h2.2, leP_iff] at hle
  rw [h1.2, h2.2] at hne
  have : ¬ (x.1 = y.1 ∧ x.2 = y.2) := fun e => hne (Prod.ext e.1 e.2)
  omega
/-- two events that are no messages, one after the other -/
theorem viewS_two (l : List api_Event) (e : api_Event) (h : (e.Kind == 0) = false) : viewS (l ++ [e, e]) = (vRun l l.length).map fun s => vOut (turnS e (turnS e s)) := by
  have h1 : l ++ [e, e] = (l ++ [e]) ++ [e] := by simp
  rw [h1, viewS_act (l ++ [e]) e h, vRun_snoc]
  unfold vStep
  rw [h, cond_false, List.map_map]
  rfl
end Go.Proofs.Ytpikahfgidgdbaa

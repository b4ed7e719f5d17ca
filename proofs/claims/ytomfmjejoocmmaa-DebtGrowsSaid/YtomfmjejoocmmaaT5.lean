/-
  The law DebtGrows answers true, as plain Lean.
-/
import Derived.Test.YtomfmjejoocmmaaP7
import Derived.Test.YtomfmjejoocmmaaH5
namespace Go.Proofs.Ytomfmjejoocmmaa
open Go.RowKit
theorem grows_L1 (a b : List api_Debt) (ha : a.length ≤ 1000) (hb : b.length ≤ 10000) (h : ∀ d ∈ a, d ∈ b) : loopF (law44_DebtGrows_L1 a b) (0 : Int) = some (.inl ()) := by
  have k := loopF_idx (body := law44_DebtGrows_L1 a b) a.length (fun _ => true) false (fun i hi => by
    have hlt : decide ((i : Int) < ((a.length : Nat) : Int)) = true := decide_eq_true (by omega)
    have h0 : decide ((0 : Int) ≤ (i : Int)) = true := decide_eq_true (by omega)
    have hw : IntKind.i64.wrap ((i : Int) + 1) = (i : Int) + 1 := wrap64 (by omega) (by omega)
    have hm : a.getD i d0 ∈ a := by
      rw [List.getD_eq_getElem?_getD, List.getElem?_eq_getElem hi]
      exact List.getElem_mem hi
    unfold law44_DebtGrows_L1
    simp only [hlt, h0, Bool.and_self, chkO_true, cond_true, getI_in d0 hi, bind_s, hw]
    rw [has_eq b hb, bind_s, memD_iff.2 (h _ hm)]
    rfl) (by
    unfold law44_DebtGrows_L1
    simp only [Int.lt_irrefl, decide_false, cond_false])
  rw [k, all_true]
  rfl
theorem grows_L2 (more : List api_Sent) (hm : more.length ≤ 20) (ev : List api_Event) (o : api_Order) :
    ∃ l, loopF (law44_DebtGrows_L2 more ev o) ((0 : Int), ([] : List api_Sent)) = some (.inl l) ∧ l.length ≤ 20 ∧ ∀ x ∈ l, sentS ev o.Event o.Step x = false := by
  have key := loopF_inv (body := law44_DebtGrows_L2 more ev o) more.length (fun i s => s.1 = (i : Int) ∧ s.2.length ≤ i ∧ ∀ x ∈ s.2, sentS ev o.Event o.Step x = false) (fun r => ∃ l, r = some (.inl l) ∧ l.length ≤ more.length ∧ ∀ x ∈ l, sentS ev o.Event o.Step x = false) (fun i s hi hs => ?_) (fun s hs => ?_) (s0 := ((0 : Int), ([] : List api_Sent))) ⟨rfl, Nat.le_refl _, fun x hx => by simp at hx⟩
  · obtain ⟨l, h1, h2, h3⟩ := key
    exact ⟨l, h1, by omega, h3⟩
  · obtain ⟨n, l⟩ := s
    obtain ⟨rfl, hl, hf⟩ := hs
    have hl : l.length ≤ i := hl
    left
    have hlt : decide ((i : Int) < (more.length : Int)) = true := decide_eq_true (by omega)
    have hw : IntKind.i64.wrap ((i : Int) + 1) = ((i + 1 : Nat) : Int) := by rw [wrap64 (by omega) (by omega)]; omega
    have hc : ∀ x : api_Sent, decide (l.length + [x].length ≤ 1000000) = true := fun x => decide_eq_true (by simp only [List.length_singleton]; omega)
    unfold law44_DebtGrows_L2
    simp only [hlt, cond_true, getI_in s0 hi, bind_s, hw, hc, chkO_true]
    generalize more.getD i s0 = x
    have add : sentS ev o.Event o.Step x = false → ∀ z : Int × List api_Sent, z = (((i + 1 : Nat) : Int), l ++ [x]) → z.1 = ((i + 1 : Nat) : Int) ∧ z.2.length ≤ i + 1 ∧ ∀ x ∈ z.2, sentS ev o.Event o.Step x = false := by
      rintro hx z rfl
      refine ⟨rfl, ?_, fun y hy => ?_⟩
      · simp only [List.length_append, List.length_singleton]
        omega
      · rcases List.mem_append.1 hy with hy | hy
        · exact hf y hy
        · rw [List.mem_singleton.1 hy]
          exact hx
    have stay : ∀ z : Int × List api_Sent, z = (((i + 1 : Nat) : Int), l) → z.1 = ((i + 1 : Nat) : Int) ∧ z.2.length ≤ i + 1 ∧ ∀ x ∈ z.2, sentS ev o.Event o.Step x = false := by
      rintro z rfl
      exact ⟨rfl, Nat.le_succ_of_le hl, hf⟩
    by_cases g5 : o.Step < x.Step
    · have late : sentS ev o.Event o.Step x = false := by
        unfold sentS
        rw [decide_eq_false (show ¬ x.Step ≤ o.Step by omega)]
        rfl
      have g5 := decide_eq_true g5
      simp only [g5, cond_true]
      by_cases g1 : 0 ≤ x.Event
      · by_cases g2 : x.Event < (ev.length : Int)
        · rw [decide_eq_true g1, decide_eq_true g2, about_at (show ¬ x.Event < 0 by omega) (show ¬ (ev.length : Int) ≤ x.Event by omega)]
          simp only [cond_true, seqF_l, bind_s]
          cases x.Event != o.Event
          · exact ⟨_, rfl, add late _ rfl⟩
          · cases (ev.getD x.Event.toNat e0).Target != o.Event
            · exact ⟨_, rfl, add late _ rfl⟩
            · exact ⟨_, rfl, add late _ rfl⟩
        · rw [decide_eq_true g1, decide_eq_false g2]
          exact ⟨_, rfl, add late _ rfl⟩
      · rw [decide_eq_false g1]
        exact ⟨_, rfl, add late _ rfl⟩
    · have g5 := decide_eq_false g5
      simp only [g5, cond_false]
      by_cases g1 : 0 ≤ x.Event
      · by_cases g2 : x.Event < (ev.length : Int)
        · have other : (x.Event != o.Event) = true → ((ev.getD x.Event.toNat e0).Target != o.Event) = true → ((ev.getD x.Event.toNat e0).Quote != o.Event) = true → sentS ev o.Event o.Step x = false := by
            intro k1 k2 k3
            unfold sentS aboutS
            rw [bne_iff_ne] at k1 k2 k3
            rw [beq_eq_false_iff_ne.2 k1, beq_eq_false_iff_ne.2 k2, beq_eq_false_iff_ne.2 k3]
            simp
          rw [decide_eq_true g1, decide_eq_true g2, about_at (show ¬ x.Event < 0 by omega) (show ¬ (ev.length : Int) ≤ x.Event by omega)]
          simp only [cond_true, seqF_l, bind_s]
          cases k1 : x.Event != o.Event
          · exact ⟨_, rfl, stay _ rfl⟩
          · cases k2 : (ev.getD x.Event.toNat e0).Target != o.Event
            · exact ⟨_, rfl, stay _ rfl⟩
            · cases k3 : (ev.getD x.Event.toNat e0).Quote != o.Event
              · exact ⟨_, rfl, stay _ rfl⟩
              · exact ⟨_, rfl, add (other k1 k2 k3) _ rfl⟩
        · rw [decide_eq_true g1, decide_eq_false g2]
          exact ⟨_, rfl, stay _ rfl⟩
      · rw [decide_eq_false g1]
        exact ⟨_, rfl, stay _ rfl⟩
  · obtain ⟨n, l⟩ := s
    obtain ⟨rfl, hl, hf⟩ := hs
    refine ⟨.inl l, ?_, l, rfl, hl, hf⟩
    unfold law44_DebtGrows_L2
    simp only [Int.lt_irrefl, decide_false, cond_false]
theorem may_more {ev : List api_Event} {sent more : List api_Sent} {m step net : Int} (h : May ev sent m step net) : May ev (sent ++ more) m step net := by
  rcases h with h | h | ⟨s, h1, h2⟩
  · exact Or.inl h
  · exact Or.inr (Or.inl h)
  · exact Or.inr (Or.inr ⟨s, List.mem_append.2 (Or.inl h1), h2⟩)
theorem may_odd {ev : List api_Event} {sent more : List api_Sent} {m step net : Int} (hm : ∀ x ∈ more, sentS ev m step x = false) : May ev (sent ++ more) m step net ↔ May ev sent m step net := by
  refine ⟨fun h => ?_, may_more⟩
  rcases h with h | h | ⟨s, h1, h2, h3, h4⟩
  · exact Or.inl h
  · exact Or.inr (Or.inl h)
  · rcases List.mem_append.1 h1 with h1 | h1
    · exact Or.inr (Or.inr ⟨s, h1, h2, h3, h4⟩)
    · rw [hm s h1] at h3
      cases h3
theorem law44_DebtGrows_true (a0 : (List api_Event)) (_w0 : (a0.length ≤ maxLen ∧ ∀ u3 ∈ a0, (api_Event.Q u3))) (a1 : (List api_Sent)) (_w1 : (a1.length ≤ maxLen ∧ ∀ u4 ∈ a1, (api_Sent.Q u4))) (a2 : (List api_Order)) (_w2 : (a2.length ≤ maxLen ∧ ∀ u5 ∈ a2, (api_Order.Q u5))) (a3 : (List api_Debt)) (_w3 : (a3.length ≤ maxLen ∧ ∀ u6 ∈ a3, (api_Debt.Q u6))) (a4 : (List api_Sent)) (_w4 : (a4.length ≤ maxLen ∧ ∀ u7 ∈ a4, (api_Sent.Q u7))) (a5 : api_Order) (_w5 : (api_Order.Q a5)) : law44_DebtGrows a0 a1 a2 a3 a4 a5 = some true := by
  unfold law44_DebtGrows
  rw [small_true, bind_s, few_eq, bind_s]
  cases hf : fewB a0 a1 a2 a3
  · rfl
  · obtain ⟨h0, h1, h2, h3⟩ := few_iff hf
    simp only [Bool.not_true, cond_false]
    by_cases hm : (20 : Int) < (a4.length : Int)
    · rw [decide_eq_true hm]
      rfl
    · rw [decide_eq_false hm, cond_false]
      have en : ∀ l : List api_Sent, ([] : List api_Sent) ++ l = l := fun _ => rfl
      have eo : ∀ l : List api_Order, ([] : List api_Order) ++ l = l := fun _ => rfl
      obtain ⟨l, q1, q2, q3⟩ := grows_L2 a4 (by omega) a0 a5
      have c1 : decide (0 + a1.length ≤ 1000000) = true := decide_eq_true (by omega)
      have c2 : decide (a1.length + a4.length ≤ 1000000) = true := decide_eq_true (by omega)
      have c3 : decide (0 + a2.length ≤ 1000000) = true := decide_eq_true (by omega)
      have c4 : decide (a2.length + [a5].length ≤ 1000000) = true := decide_eq_true (by simp only [List.length_singleton]; omega)
      have c5 : decide (a1.length + l.length ≤ 1000000) = true := decide_eq_true (by omega)
      have c6 : decide (a2.length + a2.length ≤ 1000000) = true := decide_eq_true (by omega)
      obtain ⟨r, o1, o2, o3, o4⟩ := open_spec a0 a1 (by omega) (by omega) a2 (by omega) a3 (by omega)
      obtain ⟨b, b1, b2, b3, b4⟩ := open_spec a0 (a1 ++ a4) (by omega) (by rw [List.length_append]; omega) (a2 ++ [a5]) (by rw [List.length_append, List.length_singleton]; omega) a3 (by omega)
      obtain ⟨t, t1, t2, t3, t4⟩ := open_spec a0 a1 (by omega) (by omega) (a2 ++ a2) (by rw [List.length_append]; omega) a3 (by omega)
      rw [List.length_append, List.length_singleton] at b3
      have sub : ∀ d ∈ r, d ∈ b := fun d hd => by
        obtain ⟨⟨o, p1, p2, p3, p4, p5, p6⟩, p7⟩ := (o4 d).1 hd
        exact (b4 d).2 ⟨⟨o, List.mem_append.2 (Or.inl p1), p2, p3, p4, p5, may_more p6⟩, p7⟩
      have et : t = r := sd_uniq t2 o2 fun d => by
        rw [t4, o4]
        unfold OpenP
        simp only [List.mem_append, or_self]
      have ea : askS a0 (a1 ++ l) a5.Event a5.Step = askS a0 a1 a5.Event a5.Step := int_uniq (askS_L _ _ _ _).ord (askS_L _ _ _ _).ord fun x => by
        rw [(askS_L _ _ _ _).mem, (askS_L _ _ _ _).mem]
        unfold AskP
        rw [may_odd q3]
      have el := (askS_L a0 a1 a5.Event a5.Step).len
      simp only [en, eo, c1, c2, c3, c4, c6, chkO_true, bind_s, o1, b1, t1]
      rw [grows_L1 r b (by omega) (by omega) sub, seqF_l, q1, seqF_l]
      rw [asked_S a0 a1 (by omega) (by omega), bind_s, c5, chkO_true, asked_S a0 (a1 ++ l) (by omega) (by rw [List.length_append]; omega), bind_s, ea, cond_true, ints_refl _ (by omega), bind_s, cond_true, et, same_refl _ (by omega), bind_s]
end Go.Proofs.Ytomfmjejoocmmaa

/-
  The law DebtPlays answers true, as plain Lean.
-/
import Derived.Test.YtomfmjejoocmmaaP7
import Derived.Test.YtomfmjejoocmmaaH4
namespace Go.Proofs.Ytomfmjejoocmmaa
open Go.RowKit
/-- all debts, added from the last to the first -/
theorem plays_L1 (l : List api_Debt) (hr : rightB l = true) (hl : l.length ≤ 900) : loopF (law44_DebtPlays_L1 l) (([] : List api_Debt), IntKind.i64.wrap (((l.length : Nat) : Int) - 1)) = some (.inl l) := by
  have hf := (rightB_iff.1 hr).1
  have hs := (rightB_iff.1 hr).2
  have hw0 : IntKind.i64.wrap (((l.length : Nat) : Int) - 1) = (l.length : Int) - 1 := wrap64 (by omega) (by omega)
  rw [hw0]
  refine loopF_inv (body := law44_DebtPlays_L1 l) l.length (fun k s => s = (l.drop (l.length - k), (l.length : Int) - 1 - (k : Int))) (fun r => r = some (.inl l)) (fun k s hk hs' => ?_) (fun s hs' => ?_) ?_
  · subst hs'
    left
    have hi : l.length - (k + 1) < l.length := by omega
    have e1 : l.drop (l.length - (k + 1)) = l[l.length - (k + 1)] :: l.drop (l.length - k) := by
      rw [List.drop_eq_getElem_cons hi]
      congr 2
      omega
    have hsub : (l.drop (l.length - (k + 1))).Sublist l := List.drop_sublist _ _
    have hsd : SD (l.drop (l.length - (k + 1))) := hs.sublist hsub
    rw [e1] at hsd hsub
    obtain ⟨c1, c2⟩ := List.pairwise_cons.1 hsd
    have hfd : fineD l[l.length - (k + 1)] = true := hf _ (List.getElem_mem hi)
    have hnd : l[l.length - (k + 1)] ∉ l.drop (l.length - k) := fun h => by
      have := c1 _ h
      rw [ltD_irr] at this
      cases this
    have hrd : rightB (l.drop (l.length - k)) = true := right_sub hr (List.drop_sublist _ _)
    have hrp : rightB (l[l.length - (k + 1)] :: l.drop (l.length - k)) = true := right_sub hr hsub
    have ha : debt_Add (l.drop (l.length - k)) l[l.length - (k + 1)] = some (l[l.length - (k + 1)] :: l.drop (l.length - k), 0) := by
      rw [add_eq' _ (by rw [List.length_drop]; omega), add_new hrd hfd hnd, putD_head c1]
    have hb : debt_Add (l[l.length - (k + 1)] :: l.drop (l.length - k)) l[l.length - (k + 1)] = some ([], 5) := by
      rw [add_eq' _ (by rw [List.length_cons, List.length_drop]; omega), add_twice hrp hfd (by simp)]
    have g1 : decide ((0 : Int) ≤ (l.length : Int) - 1 - (k : Int)) = true := decide_eq_true (by omega)
    have g2 : decide ((l.length : Int) - 1 - (k : Int) < ((l.length : Nat) : Int)) = true := decide_eq_true (by omega)
    have g3 : getI l ((l.length : Int) - 1 - (k : Int)) = some l[l.length - (k + 1)] := by
      rw [show (l.length : Int) - 1 - (k : Int) = ((l.length - (k + 1) : Nat) : Int) by omega, getI_nat]
      exact List.getElem?_eq_getElem hi
    have hw : IntKind.i64.wrap ((l.length : Int) - 1 - (k : Int) - 1) = (l.length : Int) - 1 - ((k + 1 : Nat) : Int) := by rw [wrap64 (by omega) (by omega)]; omega
    unfold law44_DebtPlays_L1
    simp only [g1, g2, Bool.and_self, chkO_true, cond_true, hw]
    rw [g3, bind_s, ha, bind_s, hb, bind_s]
    exact ⟨_, rfl, by rw [e1]⟩
  · subst hs'
    refine ⟨.inl l, ?_, rfl⟩
    have g1 : decide ((0 : Int) ≤ (l.length : Int) - 1 - (l.length : Int)) = false := decide_eq_false (by omega)
    unfold law44_DebtPlays_L1
    simp only [g1, cond_false, Nat.sub_self, List.drop_zero]
  · rw [Nat.sub_zero, List.drop_length]
    simp
/-- what is done is confirmed -/
theorem plays_L2 (l : List api_Debt) (hr : rightB l = true) (hl : l.length ≤ 900) (done : List api_Debt) (hd : done.length ≤ 1000) : loopF (law44_DebtPlays_L2 done) (l, (0 : Int)) = some (.inl (l.filter fun x => !(memD done x))) := by
  refine loopF_inv (body := law44_DebtPlays_L2 done) done.length (fun i s => s = (l.filter (fun x => !(memD (done.take i) x)), (i : Int))) (fun r => r = some (.inl (l.filter fun x => !(memD done x)))) (fun i s hi hs => ?_) (fun s hs => ?_) ?_
  · subst hs
    left
    have hlt : decide ((i : Int) < (done.length : Int)) = true := decide_eq_true (by omega)
    have hw : IntKind.i64.wrap ((i : Int) + 1) = ((i + 1 : Nat) : Int) := by rw [wrap64 (by omega) (by omega)]; omega
    have hsub : (l.filter fun x => !(memD (done.take i) x)).Sublist l := List.filter_sublist
    have hlen := hsub.length_le
    have hrq := right_sub hr hsub
    have e : l.filter (fun x => !(memD (done.take (i + 1)) x)) = (l.filter fun x => !(memD (done.take i) x)).filter fun x => !(eqD x (done.getD i d0)) := by
      rw [List.filter_filter]
      congr 1
      funext x
      apply bool_ext
      rw [Bool.not_eq_true', Bool.and_eq_true, Bool.not_eq_true', Bool.not_eq_true', memD_false, memD_false, eqD_false, take_succ_getD done d0 hi, List.mem_append, List.mem_singleton]
      constructor
      · intro h
        exact ⟨fun h2 => h (Or.inr h2), fun h2 => h (Or.inl h2)⟩
      · rintro ⟨h1, h2⟩ (h3 | h3)
        · exact h2 h3
        · exact h1 h3
    unfold law44_DebtPlays_L2
    simp only [hlt, cond_true, getI_in d0 hi, bind_s, hw]
    rw [conf_eq _ (by omega), bind_s, e]
    by_cases hm : done.getD i d0 ∈ l.filter fun x => !(memD (done.take i) x)
    · rw [conf_there hrq hm]
      exact ⟨_, rfl, rfl⟩
    · rw [conf_not hm, cond_false, filter_not hm]
      exact ⟨_, rfl, rfl⟩
  · subst hs
    refine ⟨_, ?_, rfl⟩
    unfold law44_DebtPlays_L2
    simp only [Int.lt_irrefl, decide_false, cond_false, List.take_length]
  · have : l.filter (fun x => !(memD (done.take 0) x)) = l := by
      rw [List.filter_eq_self]
      intro x _
      rfl
    rw [this]
    rfl
theorem app_nil {A : Type} (l : List A) : ([] : List A) ++ l = l := rfl
theorem plays_L3 (ev : List api_Event) (sent : List api_Sent) (_he : ev.length ≤ 1000) (hs : sent.length ≤ 1000) (orders : List api_Order) (open' done : List api_Debt) (ho : open'.length ≤ 900) (hd : done.length ≤ 1000) (hmem : ∀ d, OpenP ev sent orders d → d ∈ open' ∨ d ∈ done) (o : api_Order) (hmo : o ∈ orders) (s24 : Int) (hg : getI orders s24 = some o) (h0 : 0 ≤ o.Event) (h1 : o.Event < (ev.length : Int)) (h2 : (ev.getD o.Event.toNat e0).Kind = 0) :
    loopF (law44_DebtPlays_L3 sent ev orders s24 o open' done) (0 : Int) = some (.inl ()) := by
  have has : ∀ d, OpenP ev sent orders d → ref44_Has (([] ++ open') ++ done) d = some true := fun d h => by
    rw [has_eq _ (by rw [app_nil, List.length_append]; omega), memD_append.2 (by rw [app_nil]; exact hmem d h)]
  have c1 : decide (0 + open'.length ≤ 1000000) = true := decide_eq_true (by omega)
  have c2 : decide ((([] : List api_Debt) ++ open').length + done.length ≤ 1000000) = true := decide_eq_true (by rw [app_nil]; omega)
  have h := loopF_idx (body := law44_DebtPlays_L3 sent ev orders s24 o open' done) sent.length (fun _ => true) (.inr (.inr false)) (fun k hk => by
    have hlt : decide ((k : Int) < (sent.length : Int)) = true := decide_eq_true (by omega)
    have hw : IntKind.i64.wrap ((k : Int) + 1) = (k : Int) + 1 := wrap64 (by omega) (by omega)
    have hms : sent.getD k s0 ∈ sent := by
      rw [List.getD_eq_getElem?_getD, List.getElem?_eq_getElem hk]
      exact List.getElem_mem hk
    unfold law44_DebtPlays_L3
    simp only [hlt, cond_true, getI_in s0 hk, bind_s, hw, c1, c2, chkO_true, hg]
    generalize sent.getD k s0 = x at hms ⊢
    by_cases g1 : x.Event < 0
    · rw [decide_eq_true g1]
      rfl
    by_cases g2 : (ev.length : Int) ≤ x.Event
    · rw [decide_eq_false g1, decide_eq_true g2]
      rfl
    by_cases g3 : x.Net < 0
    · rw [decide_eq_false g1, decide_eq_false g2, decide_eq_true g3]
      rfl
    by_cases g4 : 12 ≤ x.Net
    · rw [decide_eq_false g1, decide_eq_false g2, decide_eq_false g3, decide_eq_true g4]
      rfl
    by_cases g5 : o.Step < x.Step
    · rw [decide_eq_false g1, decide_eq_false g2, decide_eq_false g3, decide_eq_false g4, decide_eq_true g5]
      rfl
    rw [decide_eq_false g1, decide_eq_false g2, decide_eq_false g3, decide_eq_false g4, decide_eq_false g5, about_at g1 g2]
    simp only [cond_false, bind_s]
    have ok : aboutS ev x.Event o.Event = true → ref44_Has (([] ++ open') ++ done) ⟨o.Event, x.Net⟩ = some true := fun ha =>
      has _ ⟨o, hmo, rfl, ⟨h0, h1, h2⟩, by simp only; omega, by simp only; omega, Or.inr (Or.inr ⟨x, hms, ⟨by omega, by omega⟩, by
        unfold sentS
        rw [ha, decide_eq_true (show x.Step ≤ o.Step by omega)]
        rfl, rfl⟩)⟩
    unfold aboutS at ok
    rw [decide_eq_false g1, decide_eq_false g2] at ok
    cases k1 : x.Event == o.Event
    · rw [k1] at ok
      cases k2 : (ev.getD x.Event.toNat e0).Target == o.Event
      · rw [k2] at ok
        cases k3 : (ev.getD x.Event.toNat e0).Quote == o.Event
        · rfl
        · rw [k3] at ok
          simp only [cond_true, cond_false]
          rw [ok rfl]
          rfl
      · rw [k2] at ok
        simp only [cond_true, cond_false]
        rw [ok rfl]
        rfl
    · rw [k1] at ok
      simp only [cond_true]
      rw [ok rfl]
      rfl) (by
    unfold law44_DebtPlays_L3
    simp only [Int.lt_irrefl, decide_false, cond_false])
  rw [h, all_true]
  rfl
theorem plays_L4 (ev : List api_Event) (sent : List api_Sent) (he : ev.length ≤ 1000) (hs : sent.length ≤ 1000) (orders : List api_Order) (hor : orders.length ≤ 1000) (open' done : List api_Debt) (ho : open'.length ≤ 900) (hd : done.length ≤ 1000) (hmem : ∀ d, OpenP ev sent orders d → d ∈ open' ∨ d ∈ done) :
    loopF (law44_DebtPlays_L4 orders ev open' done sent) (0 : Int) = some (.inl ()) := by
  have has : ∀ d, OpenP ev sent orders d → ref44_Has (([] ++ open') ++ done) d = some true := fun d h => by
    rw [has_eq _ (by rw [app_nil, List.length_append]; omega), memD_append.2 (by rw [app_nil]; exact hmem d h)]
  have c1 : decide (0 + open'.length ≤ 1000000) = true := decide_eq_true (by omega)
  have c2 : decide ((([] : List api_Debt) ++ open').length + done.length ≤ 1000000) = true := decide_eq_true (by rw [app_nil]; omega)
  have h := loopF_idx (body := law44_DebtPlays_L4 orders ev open' done sent) orders.length (fun _ => true) false (fun i hi => by
    have hlt : decide ((i : Int) < (orders.length : Int)) = true := decide_eq_true (by omega)
    have hw : IntKind.i64.wrap ((i : Int) + 1) = (i : Int) + 1 := wrap64 (by omega) (by omega)
    have hmo : orders.getD i o0 ∈ orders := by
      rw [List.getD_eq_getElem?_getD, List.getElem?_eq_getElem hi]
      exact List.getElem_mem hi
    have hg := getI_in o0 hi
    unfold law44_DebtPlays_L4
    simp only [hlt, cond_true, hg, bind_s, hw, c1, c2, chkO_true]
    generalize orders.getD i o0 = o at hmo hg ⊢
    by_cases g1 : o.Event < 0
    · rw [decide_eq_true g1]
      rfl
    by_cases g2 : (ev.length : Int) ≤ o.Event
    · rw [decide_eq_false g1, decide_eq_true g2]
      rfl
    rw [decide_eq_false g1, decide_eq_false g2, about_at g1 g2]
    simp only [cond_false, bind_s]
    by_cases g3 : (ev.getD o.Event.toNat e0).Kind = 0
    · have e3 : ((ev.getD o.Event.toNat e0).Kind != 0) = false := by rw [g3]; rfl
      have hl3 := plays_L3 ev sent he hs orders open' done ho hd hmem o hmo (i : Int) hg (by omega) (by omega) g3
      rw [e3, cond_false, net_eq, bind_s]
      by_cases g4 : 0 ≤ netS (ev.getD o.Event.toNat e0).Author
      · have hr := netS_range (ev.getD o.Event.toNat e0).Author
        have hok := has ⟨o.Event, netS (ev.getD o.Event.toNat e0).Author⟩ ⟨o, hmo, rfl, ⟨by omega, by omega, g3⟩, g4, by simp only; omega, Or.inl rfl⟩
        rw [decide_eq_true g4, cond_true, hok, bind_s]
        simp only [Bool.not_true, cond_false, seqF_l, hl3]
      · rw [decide_eq_false g4]
        simp only [cond_false, seqF_l, hl3]
    · have e3 : ((ev.getD o.Event.toNat e0).Kind != 0) = true := bne_iff_ne.2 g3
      rw [e3]
      rfl) (by
    unfold law44_DebtPlays_L4
    simp only [Int.lt_irrefl, decide_false, cond_false])
  rw [h, all_true]
  rfl
theorem law44_DebtPlays_true (a0 : (List api_Event)) (_w0 : (a0.length ≤ maxLen ∧ ∀ u3 ∈ a0, (api_Event.Q u3))) (a1 : (List api_Sent)) (_w1 : (a1.length ≤ maxLen ∧ ∀ u4 ∈ a1, (api_Sent.Q u4))) (a2 : (List api_Order)) (_w2 : (a2.length ≤ maxLen ∧ ∀ u5 ∈ a2, (api_Order.Q u5))) (a3 : (List api_Debt)) (_w3 : (a3.length ≤ maxLen ∧ ∀ u6 ∈ a3, (api_Debt.Q u6))) : law44_DebtPlays a0 a1 a2 a3 = some true := by
  unfold law44_DebtPlays
  rw [small_true, bind_s, few_eq, bind_s]
  cases hf : fewB a0 a1 a2 a3
  · rfl
  · obtain ⟨h0, h1, h2, h3⟩ := few_iff hf
    obtain ⟨r, o1, o2, o3, o4⟩ := open_spec a0 a1 (by omega) (by omega) a2 (by omega) [] (by simp)
    obtain ⟨q, p1, p2, p3, p4⟩ := open_spec a0 a1 (by omega) (by omega) a2 (by omega) a3 (by omega)
    have hr : rightB r = true := rightB_iff.2 ⟨fun x hx => openP_fine (by omega) ((o4 x).1 hx).1, o2⟩
    have e : r.filter (fun x => !(memD a3 x)) = q := sd_uniq (o2.sublist List.filter_sublist) p2 fun d => by
      rw [List.mem_filter, o4, p4, Bool.not_eq_true', memD_false]
      simp
    simp only [Bool.not_true, cond_false]
    rw [o1, bind_s, p1, bind_s, plays_L1 r hr (by omega), seqF_l, same_refl _ (by omega), bind_s]
    simp only [Bool.not_true, cond_false]
    rw [plays_L2 r hr (by omega) a3 (by omega), seqF_l, e, same_refl _ (by omega), bind_s]
    simp only [Bool.not_true, cond_false]
    rw [plays_L4 a0 a1 (by omega) (by omega) a2 (by omega) q a3 (by omega) (by omega) (fun d hd => ?_), seqF_l]
    by_cases hm : d ∈ a3
    · exact Or.inr hm
    · exact Or.inl ((p4 d).2 ⟨hd, hm⟩)
end Go.Proofs.Ytomfmjejoocmmaa

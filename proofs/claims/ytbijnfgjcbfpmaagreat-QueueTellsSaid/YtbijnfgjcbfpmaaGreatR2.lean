/-
  A step of the reference, by the first entry again and again, is a step of the queue.
-/
import Derived.Test.YtbijnfgjcbfpmaaGreatR1
namespace Go.Proofs.YtbijnfgjcbfpmaaGreat
open Go.RowKit
theorem ref30_Put_eq (p : api_Profile) (hp : ProfOk p) (l : List api_Waiting) (hl : l.length ≤ 900) (w : api_Waiting) (now : Int) : ref30_Put p l w now = some (putS p l w now) := by
  have hc1 : decide (0 + l.length ≤ 1000000) = true := decide_eq_true (by omega)
  have hc2 : decide (([] ++ l).length + [w].length ≤ 1000000) = true := decide_eq_true (by simp; omega)
  have hj : (jobsS w.Net (l ++ [w])).length ≤ 1000 := by
    have := jobsS_len w.Net (l ++ [w])
    rw [List.length_append, List.length_singleton] at this
    omega
  obtain ⟨y, hy, hh⟩ : ∃ y, ref30_At l w.Event w.Net = some y ∧ decide ((0 : Int) ≤ y) = hasW l w.Event w.Net := by
    refine ⟨_, ref30_At_eq l (by omega) _ _, ?_⟩
    unfold hasW
    split
    · rename_i i hf
      obtain ⟨hi, h1, _⟩ := List.findIdx?_eq_some_iff_getElem.1 hf
      have : l.any (isW w.Event w.Net) = true := List.any_eq_true.2 ⟨l[i], List.getElem_mem _, h1⟩
      rw [this]
      exact decide_eq_true (by omega)
    · rename_i hf
      rw [List.findIdx?_eq_none_iff] at hf
      have : l.any (isW w.Event w.Net) = false := by
        rw [List.any_eq_false]
        intro x hx
        rw [hf x hx]
        simp
      rw [this]
      rfl
  unfold ref30_Put putS
  rw [hc1, chkO_true, ref30_Right_eq l (by omega), bind_s, ref30_Entry_eq, bind_s, hy, bind_s, hh, hc2, chkO_true]
  simp only [List.nil_append]
  rw [jobs_eq _ (by simp; omega), bind_s, ref_plan_eq p hp _ hj now, bind_s]
  cases queueB l <;> cases okW w <;> cases hasW l w.Event w.Net <;> first | rfl | (cases (planS p (jobsS w.Net (l ++ [w])) now).2.2 != 0 <;> rfl)
/-- an entry of a network that needs places -/
def cand (r : List api_Waiting) (net : Int) (k : Nat) : Prop := k < r.length ∧ (r.getD k w0).Net = net ∧ (r.getD k w0).Left ≠ 0
/-- the first of them, if there is one -/
def Best (r : List api_Waiting) (net : Int) (n : Nat) (b : Int) : Prop := (b = -1 ∧ ∀ k, k < n → ¬ cand r net k) ∨ ∃ j : Nat, b = (j : Int) ∧ j < n ∧ cand r net j ∧ ∀ k, k < n → cand r net k → ltW (r.getD k w0) (r.getD j w0) = false
theorem ltW_trans {a b c : api_Waiting} (h1 : ltW a b = true) (h2 : ltW b c = true) : ltW a c = true := by
  rw [ltW_iff] at h1 h2 ⊢
  omega
theorem next_eq (r : List api_Waiting) (hl : r.length ≤ 1000) (net : Int) : ∃ b, ref30_Next r net = some b ∧ Best r net r.length b := by
  have key := loopF_inv (body := ref30_Next_L1 r net) r.length (fun i s => s.2 = (i : Int) ∧ Best r net i s.1) (fun x => ∃ b, x = some (.inl b) ∧ Best r net r.length b) (fun i s hi hs => ?_) (fun s hs => ?_) (s0 := ((-1 : Int), (0 : Int))) ⟨rfl, Or.inl ⟨rfl, fun k hk => by omega⟩⟩
  · obtain ⟨b, e, h⟩ := key
    refine ⟨b, ?_, h⟩
    unfold ref30_Next
    rw [e]
    rfl
  · obtain ⟨b, n⟩ := s
    obtain ⟨rfl, hs⟩ := hs
    left
    have hlt : decide ((i : Int) < (r.length : Int)) = true := decide_eq_true (by omega)
    have hw : IntKind.i64.wrap ((i : Int) + 1) = ((i + 1 : Nat) : Int) := by rw [wrap64 (by omega) (by omega)]; omega
    have keep : (¬ cand r net i ∨ ∃ j : Nat, b = (j : Int) ∧ cand r net i ∧ ltW (r.getD i w0) (r.getD j w0) = false) → Best r net (i + 1) b := by
      intro h
      rcases hs with ⟨rfl, hb⟩ | ⟨j, rfl, hj, hc, hb⟩
      · refine Or.inl ⟨rfl, fun k hk => ?_⟩
        by_cases hki : k < i
        · exact hb k hki
        · have : k = i := by omega
          subst this
          rcases h with h | ⟨j, e, _⟩
          · exact h
          · have e : (-1 : Int) = (j : Int) := e
            omega
      · refine Or.inr ⟨j, rfl, by omega, hc, fun k hk hck => ?_⟩
        by_cases hki : k < i
        · exact hb k hki hck
        · have : k = i := by omega
          subst this
          rcases h with h | ⟨j', e, _, h⟩
          · exact absurd hck h
          · have : j' = j := by
              have e : (j : Int) = (j' : Int) := e
              omega
            subst this
            exact h
    have take : cand r net i → (∀ j : Nat, b = (j : Int) → ltW (r.getD i w0) (r.getD j w0) = true) → Best r net (i + 1) (i : Int) := by
      intro hc h
      refine Or.inr ⟨i, rfl, by omega, hc, fun k hk hck => ?_⟩
      by_cases hki : k < i
      · rcases hs with ⟨rfl, hb⟩ | ⟨j, rfl, hj, _, hb⟩
        · exact absurd hck (hb k hki)
        · have h1 := h j rfl
          have h2 := hb k hki hck
          cases h3 : ltW (r.getD k w0) (r.getD i w0)
          · rfl
          · rw [ltW_trans h3 h1] at h2
            cases h2
      · have : k = i := by omega
        subst this
        rw [ltW_not]
        omega
    unfold ref30_Next_L1
    simp only [hlt, cond_true, getI_in w0 hi, bind_s, hw]
    cases c1 : (r.getD i w0).Net != net
    · have c1 : (r.getD i w0).Net = net := by simpa using c1
      cases c2 : (r.getD i w0).Left == 0
      · have c2 : (r.getD i w0).Left ≠ 0 := by simpa using c2
        have hc : cand r net i := ⟨hi, c1, c2⟩
        simp only [cond_false]
        rcases hs with ⟨rfl, hb⟩ | ⟨j, rfl, hj, hcj, hb⟩
        · have z : decide ((-1 : Int) < 0) = true := rfl
          simp only [z, cond_true]
          exact ⟨_, rfl, rfl, take hc fun j e => by have e : (-1 : Int) = (j : Int) := e; omega⟩
        · have z : decide ((j : Int) < 0) = false := decide_eq_false (by omega)
          simp only [z, cond_false, getI_in w0 hcj.1, bind_s]
          have same : ∀ {Q : api_Waiting → Prop}, Q (r.getD j w0) → ∀ j' : Nat, (j : Int) = (j' : Int) → Q (r.getD j' w0) := by
            intro Q hQ j' e
            have : j' = j := by omega
            subst this
            exact hQ
          by_cases d1 : (r.getD i w0).Due < (r.getD j w0).Due
          · simp only [d1, decide_true, cond_true]
            exact ⟨_, rfl, rfl, take hc (same (Q := fun x => ltW (r.getD i w0) x = true) (by rw [ltW_iff]; exact Or.inl d1))⟩
          · simp only [d1, decide_false, cond_false]
            by_cases d2 : (r.getD i w0).Due = (r.getD j w0).Due
            · have d2' : ((r.getD i w0).Due == (r.getD j w0).Due) = true := by simpa using d2
              simp only [d2', cond_true]
              by_cases d3 : (r.getD i w0).Event < (r.getD j w0).Event
              · simp only [d3, decide_true, cond_true]
                exact ⟨_, rfl, rfl, take hc (same (Q := fun x => ltW (r.getD i w0) x = true) (by rw [ltW_iff]; exact Or.inr ⟨d2, d3⟩))⟩
              · simp only [d3, decide_false, cond_false]
                exact ⟨_, rfl, rfl, keep (Or.inr ⟨j, rfl, hc, by rw [ltW_not]; omega⟩)⟩
            · have d2' : ((r.getD i w0).Due == (r.getD j w0).Due) = false := by simpa using d2
              simp only [d2', cond_false]
              exact ⟨_, rfl, rfl, keep (Or.inr ⟨j, rfl, hc, by rw [ltW_not]; omega⟩)⟩
      · have c2 : (r.getD i w0).Left = 0 := by simpa using c2
        simp only [cond_false, cond_true]
        exact ⟨_, rfl, rfl, keep (Or.inl fun h => h.2.2 c2)⟩
    · have c1 : (r.getD i w0).Net ≠ net := by simpa using c1
      simp only [cond_true]
      exact ⟨_, rfl, rfl, keep (Or.inl fun h => c1 h.2.1)⟩
  · obtain ⟨b, n⟩ := s
    obtain ⟨rfl, hs⟩ := hs
    refine ⟨.inl b, ?_, b, rfl, hs⟩
    unfold ref30_Next_L1
    simp only [Int.lt_irrefl, decide_false, cond_false]
/-- without places nothing is given -/
theorem give_none : ∀ (q d : List Int) (r : List api_Waiting), (∀ x ∈ q, ∃ j : Nat, x = (j : Int) ∧ j < r.length ∧ 1 ≤ (r.getD j w0).Left) → giveS 0 q d r = (d, r)
  | [], _, _, _ => rfl
  | x :: q, d, r, h => by
    obtain ⟨j, rfl, hj, hl⟩ := h x (by simp)
    have ha : atW r (j : Int) = r.getD j w0 := rfl
    have hp : placesS 0 (r.getD j w0).Left = 0 := by
      unfold placesS
      rw [if_neg (by omega)]
    have hz : ((r.getD j w0).Left - 0 == 0) = false := by
      rw [beq_eq_false_iff_ne]
      omega
    have hw : lessW (r.getD j w0) 0 = r.getD j w0 := by
      unfold lessW
      rw [Int.sub_zero]
    rw [giveS, ha, hp, hz, cond_false, hw, Int.toNat_natCast, Int.sub_zero]
    have hs : r.set j (r.getD j w0) = r := by
      rw [List.getD_eq_getElem?_getD, List.getElem?_eq_getElem hj, Option.getD_some, List.set_getElem_self]
    rw [hs]
    exact give_none q d r fun y hy => h y (by simp [hy])
/-- the reference's loop -/
theorem ref_step_loop (net : Int) : ∀ (q : List Int) (pl : Int) (d : List Int) (r : List api_Waiting), r.length ≤ 1000 → d.length + q.length ≤ 1000 → 0 ≤ pl → pl ≤ 1099511627776 → q.Nodup →
    (∀ x ∈ q, ∃ j : Nat, x = (j : Int) ∧ j < r.length ∧ (r.getD j w0).Net = net ∧ 1 ≤ (r.getD j w0).Left ∧ (r.getD j w0).Left ≤ 1099511627776) →
    (0 < pl → ∀ k, cand r net k → (k : Int) ∈ q) → (q.Pairwise fun a b => ltW (atW r a) (atW r b) = true) →
    loopF (ref30_Step_L1 net) (pl, r, d) = some (.inl ((giveS pl q d r).2, (giveS pl q d r).1))
  | q, pl, d, r, hl, hdl, h0, hm, hnd, hq, hc, hs => by
    rw [loopF_eq]
    by_cases hp : 0 < pl
    · obtain ⟨b, e, hb⟩ := next_eq r hl net
      unfold ref30_Step_L1
      simp only [hp, decide_true, cond_true]
      rw [e, bind_s]
      match q, hnd, hq, hc, hs, hdl with
      | [], _, _, hc, _, _ =>
        have hb : b = -1 := by
          rcases hb with ⟨h, _⟩ | ⟨j, _, _, h, _⟩
          · exact h
          · exact absurd (hc hp j h) (by simp)
        subst hb
        rfl
      | x :: q, hnd, hq, hc, hs, hdl =>
        obtain ⟨i, rfl, hi, hin, hil, him⟩ := hq x (by simp)
        have hci : cand r net i := ⟨hi, hin, by omega⟩
        obtain ⟨hs1, hs2⟩ := List.pairwise_cons.1 hs
        obtain ⟨hnx, hnd⟩ := List.nodup_cons.1 hnd
        have hbi : b = (i : Int) := by
          rcases hb with ⟨_, h⟩ | ⟨j, rfl, hj, hcj, h⟩
          · exact absurd hci (h i hi)
          · rcases List.mem_cons.1 (hc hp j hcj) with h1 | h1
            · exact h1
            · have h2 := hs1 (j : Int) h1
              have h3 := h i hi hci
              have h2 : ltW (r.getD i w0) (r.getD j w0) = true := h2
              rw [h2] at h3
              cases h3
        subst hbi
        have z1 : decide ((i : Int) < 0) = false := decide_eq_false (by omega)
        have z2 : decide ((0 : Int) ≤ (i : Int)) = true := decide_eq_true (by omega)
        have z3 : decide ((i : Int) < ((r.length : Nat) : Int)) = true := decide_eq_true (by omega)
        have hpf := placesS_facts (pl := pl) (left := (r.getD i w0).Left) h0 (by omega)
        have hpe : (if (r.getD i w0).Left < pl then (r.getD i w0).Left else pl) = placesS pl (r.getD i w0).Left := rfl
        simp only [z1, z2, z3, cond_false, Bool.and_self, chkO_true, getI_in w0 hi, bind_s, Int.toNat_natCast, hpe]
        rw [wrap64 (n := (r.getD i w0).Left - placesS pl (r.getD i w0).Left) (by omega) (by omega), wrap64 (n := pl - placesS pl (r.getD i w0).Left) (by omega) (by omega)]
        have hle : (⟨(r.getD i w0).Event, (r.getD i w0).Net, (r.getD i w0).Left - placesS pl (r.getD i w0).Left, (r.getD i w0).Due⟩ : api_Waiting) = lessW (r.getD i w0) (placesS pl (r.getD i w0).Left) := rfl
        rw [hle, getI_in w0 (show i < (r.set i (lessW (r.getD i w0) (placesS pl (r.getD i w0).Left))).length by rw [List.length_set]; exact hi), bind_s, getW_set_eq hi]
        have hat : atW r (i : Int) = r.getD i w0 := rfl
        have hng : ∀ y ∈ q, ∃ j : Nat, y = (j : Int) ∧ i ≠ j := by
          intro y hy
          obtain ⟨j, rfl, _⟩ := hq y (by simp [hy])
          refine ⟨j, rfl, fun e => ?_⟩
          subst e
          exact hnx hy
        have hrec : ∀ d', d'.length ≤ d.length + 1 → loopF (ref30_Step_L1 net) (pl - placesS pl (r.getD i w0).Left, r.set i (lessW (r.getD i w0) (placesS pl (r.getD i w0).Left)), d') = some (.inl ((giveS (pl - placesS pl (r.getD i w0).Left) q d' (r.set i (lessW (r.getD i w0) (placesS pl (r.getD i w0).Left)))).2, (giveS (pl - placesS pl (r.getD i w0).Left) q d' (r.set i (lessW (r.getD i w0) (placesS pl (r.getD i w0).Left)))).1)) := by
          intro d' hd'
          refine ref_step_loop net q _ _ _ (by rw [List.length_set]; exact hl) (by simp at hdl; omega) (by omega) (by omega) hnd (fun y hy => ?_) (fun hp' k hk => ?_) ?_
          · obtain ⟨j, rfl, hij⟩ := hng y hy
            obtain ⟨j', e, h1, h2⟩ := hq (j : Int) (by simp [hy])
            have : j' = j := by omega
            subst this
            exact ⟨j', rfl, by rw [List.length_set]; exact h1, by rw [getW_set_ne hij]; exact h2⟩
          · obtain ⟨k1, k2, k3⟩ := hk
            rw [List.length_set] at k1
            by_cases hik : i = k
            · subst hik
              rw [getW_set_eq hi] at k3
              have : (lessW (r.getD i w0) (placesS pl (r.getD i w0).Left)).Left = 0 := by
                show (r.getD i w0).Left - placesS pl (r.getD i w0).Left = 0
                rcases hpf.2.2.2 with h | h <;> omega
              exact absurd this k3
            · rw [getW_set_ne hik] at k2 k3
              rcases List.mem_cons.1 (hc hp k ⟨k1, k2, k3⟩) with h | h
              · exact absurd (by omega) hik
              · exact h
          · refine hs2.imp_of_mem fun {a b} ha hb h => ?_
            obtain ⟨ja, rfl, h1⟩ := hng a ha
            obtain ⟨jb, rfl, h2⟩ := hng b hb
            rw [atW_set h1, atW_set h2]
            exact h
        rw [giveS, hat]
        have hll : (lessW (r.getD i w0) (placesS pl (r.getD i w0).Left)).Left = (r.getD i w0).Left - placesS pl (r.getD i w0).Left := rfl
        have hle2 : (lessW (r.getD i w0) (placesS pl (r.getD i w0).Left)).Event = (r.getD i w0).Event := rfl
        rw [hll, hle2, Int.toNat_natCast]
        cases (r.getD i w0).Left - placesS pl (r.getD i w0).Left == 0
        · exact hrec d (by omega)
        · have hcc : decide (d.length + [(r.getD i w0).Event].length ≤ 1000000) = true := decide_eq_true (by simp at hdl ⊢; omega)
          simp only [cond_true, hcc, chkO_true]
          exact hrec _ (by simp)
    · have hpz : pl = 0 := by omega
      subst hpz
      rw [give_none q d r fun x hx => by
        obtain ⟨j, e, h1, _, h2, _⟩ := hq x hx
        exact ⟨j, e, h1, h2⟩]
      rfl
theorem ref_step_L2 (s : (List api_Waiting) × (List Int)) (hl : s.1.length ≤ 1000) (hn : ∀ k, 0 ≤ (s.1.getD k w0).Left) : loopF (ref30_Step_L2 s) ((0 : Int), ([] : List api_Waiting)) = some (.inl (s.1.filter nz)) := by
  refine loopF_inv (body := ref30_Step_L2 s) s.1.length (fun i st => st = ((i : Int), (s.1.take i).filter nz)) (fun r => r = some (.inl (s.1.filter nz))) (fun i st hi hst => ?_) (fun st hst => ?_) rfl
  · subst hst
    left
    have hlt : decide ((i : Int) < ((s.1.length : Nat) : Int)) = true := decide_eq_true (by omega)
    have h0 : decide ((0 : Int) ≤ (i : Int)) = true := decide_eq_true (by omega)
    have hw : IntKind.i64.wrap ((i : Int) + 1) = ((i + 1 : Nat) : Int) := by rw [wrap64 (by omega) (by omega)]; omega
    have hfl := List.length_filter_le nz (s.1.take i)
    rw [List.length_take] at hfl
    have hc : decide (((s.1.take i).filter nz).length + [s.1.getD i w0].length ≤ 1000000) = true := decide_eq_true (by simp; omega)
    have hk := hn i
    refine ⟨_, ?_, rfl⟩
    unfold ref30_Step_L2
    simp only [hlt, h0, cond_true, Bool.and_self, chkO_true, getI_in w0 hi, bind_s, hw, hc]
    rw [take_succ_getD s.1 w0 hi, List.filter_append, List.filter_cons, List.filter_nil]
    by_cases hz : (s.1.getD i w0).Left = 0
    · have e1 : decide ((0 : Int) < (s.1.getD i w0).Left) = false := decide_eq_false (by omega)
      have e2 : nz (s.1.getD i w0) = false := by unfold nz; rw [hz]; rfl
      rw [e1, e2]
      simp
    · have e1 : decide ((0 : Int) < (s.1.getD i w0).Left) = true := decide_eq_true (by omega)
      have e2 : nz (s.1.getD i w0) = true := by
        unfold nz
        rw [Bool.not_eq_true', beq_eq_false_iff_ne]
        exact hz
      rw [e1, e2]
      simp
  · subst hst
    refine ⟨_, ?_, rfl⟩
    unfold ref30_Step_L2
    simp only [Int.lt_irrefl, decide_false, cond_false, List.take_length]
/-- both steps -/
theorem steps_same (p : api_Profile) (hp : ProfOk p) (net : Int) (l : List api_Waiting) (hl : l.length ≤ 900) (up : Bool) : ∃ a b, queue_Step p net l up = some (a, b) ∧ ref30_Step p net l up = some (a, b) ∧ a.length ≤ 1000 ∧ b.length ≤ 1000 := by
  have hc1 : decide (0 + l.length ≤ 1000000) = true := decide_eq_true (by omega)
  have e1 := profile_Check_eq p hp
  have e2 := ref13_Check_eq p hp
  cases up
  · refine ⟨[], l, step_down p net l (by omega), ?_, by simp, by omega⟩
    unfold ref30_Step
    rw [hc1, chkO_true]
    rfl
  · by_cases hck : chk p = 0
    · cases hq : queueB l
      · refine ⟨[], l, step_none p net l (by omega) e1 (Or.inr hq), ?_, by simp, by omega⟩
        unfold ref30_Step
        rw [hc1, chkO_true, e2, bind_s, hck, ref30_Right_eq l (by omega), bind_s, hq]
        rfl
      · have hok := chk_ok hck
        have hr : 0 ≤ p.Rate ∧ p.Rate ≤ 1099511627776 := ⟨by have := hok.rate; omega, by have := hok.rateM; omega⟩
        obtain ⟨r, h1, h2, h3⟩ := step_up p net l (by omega) (by rw [e1, hck]) hr hq
        have hmem : ∀ x ∈ r, ∃ j : Nat, x = (j : Int) ∧ j < l.length ∧ (l.getD j w0).Net = net := fun x hx => mem_idxs (h1.mem_iff.1 hx)
        have hnd : r.Nodup := h1.nodup_iff.2 (idxs_nodup net l l.length)
        have hrl : r.length ≤ l.length := by rw [h1.length_eq]; exact idxs_len net l l.length
        have hleft : ∀ j : Nat, j < l.length → 1 ≤ (l.getD j w0).Left ∧ (l.getD j w0).Left ≤ 1099511627776 := fun j hj => okW_left (queue_ok hq hj)
        have hleft0 : ∀ k : Nat, 0 ≤ (l.getD k w0).Left := by
          intro k
          by_cases hk : k < l.length
          · have := hleft k hk; omega
          · rw [List.getD_eq_getElem?_getD, List.getElem?_eq_none (by omega)]
            exact Int.le_refl _
        have hs : r.Pairwise fun a b => ltW (atW l a) (atW l b) = true := by
          have hb := h2.and hnd
          refine hb.imp_of_mem fun {a b} ha hb h => ?_
          obtain ⟨ja, rfl, ha1, ha2⟩ := hmem a ha
          obtain ⟨jb, rfl, hb1, hb2⟩ := hmem b hb
          have h4 : ltW (l.getD jb w0) (l.getD ja w0) = false := h.1
          have hne : ja ≠ jb := fun e => h.2 (by rw [e])
          show ltW (l.getD ja w0) (l.getD jb w0) = true
          rw [ltW_not] at h4
          rw [ltW_iff]
          rcases h4 with h4 | ⟨h4, h5⟩
          · exact Or.inl h4
          · refine Or.inr ⟨h4.symm, ?_⟩
            have hev : (l.getD ja w0).Event ≠ (l.getD jb w0).Event := by
              intro e
              rcases Nat.lt_or_gt_of_ne hne with h | h
              · exact queue_one hq h hb1 ⟨e, ha2.trans hb2.symm⟩
              · exact queue_one hq h ha1 ⟨e.symm, hb2.trans ha2.symm⟩
            omega
        have hloop := ref_step_loop net r p.Rate [] l (by omega) (by simp; omega) hr.1 hr.2 hnd (fun x hx => by
          obtain ⟨j, e, hj, hn⟩ := hmem x hx
          exact ⟨j, e, hj, hn, hleft j hj⟩) (fun _ k hk => h1.mem_iff.2 (mem_idxs_of hk.1 hk.2.1)) hs
        have F := giveS_facts r p.Rate [] l hr.1 hnd (fun x hx => by
          obtain ⟨j, e, hj, _⟩ := hmem x hx
          exact ⟨j, e, hj⟩) hleft0
        have hlen := giveS_len r p.Rate [] l
        have hL2 := ref_step_L2 ((giveS p.Rate r [] l).2, (giveS p.Rate r [] l).1) (by show (giveS p.Rate r [] l).2.length ≤ 1000; omega) (fun k => (F.gave k).lo)
        refine ⟨_, _, h3, ?_, ?_, ?_⟩
        · unfold ref30_Step
          rw [hc1, chkO_true, e2, bind_s, hck, ref30_Right_eq l (by omega), bind_s, hq]
          simp only [List.nil_append, Bool.not_true, cond_false, bne_self_eq_false]
          rw [hloop, seqF_l, hL2, seqF_l]
          rfl
        · rw [F.done]
          simp only [List.nil_append, List.length_map]
          have := List.length_filter_le (fun x : Int => ((giveS p.Rate r [] l).2.getD x.toNat w0).Left == 0) r
          omega
        · have := List.length_filter_le (fun w : api_Waiting => !(w.Left == 0)) (giveS p.Rate r [] l).2
          omega
    · refine ⟨[], l, step_none p net l (by omega) e1 (Or.inl hck), ?_, by simp, by omega⟩
      unfold ref30_Step
      rw [hc1, chkO_true, e2, bind_s]
      have : (chk p != 0) = true := by simpa using hck
      rw [this]
      rfl
end Go.Proofs.YtbijnfgjcbfpmaaGreat

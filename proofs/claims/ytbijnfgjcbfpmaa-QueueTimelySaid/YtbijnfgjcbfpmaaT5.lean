/-
  The law QueueTimely, as plain law: nothing that was put is ever late.
-/
import Derived.Test.YtbijnfgjcbfpmaaW3
namespace Go.Proofs.Ytbijnfgjcbfpmaa
open Go.RowKit
theorem putS_inv5 {p : api_Profile} {l : List api_Waiting} {w : api_Waiting} {now : Int} : ((putS p l w now).2 ≠ 0 ∧ (putS p l w now).1 = l) ∨ (putS p l w now = (l ++ [w], 0) ∧ queueB l = true ∧ okW w = true ∧ hasW l w.Event w.Net = false ∧ PlanOk p (jobsS w.Net (l ++ [w])) now) := by
  unfold putS
  cases h1 : queueB l
  · left; exact ⟨(by simp), rfl⟩
  · cases h2 : okW w
    · left; exact ⟨(by simp), rfl⟩
    · cases h3 : hasW l w.Event w.Net
      · cases h4 : (planS p (jobsS w.Net (l ++ [w])) now).2.2 != 0
        · right
          exact ⟨rfl, rfl, rfl, rfl, plan_ok.1 (by simpa using h4)⟩
        · left
          exact ⟨by simpa using h4, rfl⟩
      · left; exact ⟨(by simp), rfl⟩
theorem timely_step {p : api_Profile} (hp : ProfOk p) (h0 : chk p = 0) {l : List linguaref30_Act} (hl : l.length ≤ 40) (ha : allowB p (upsA l) = true) {i n : Nat} (hi : i < l.length) {q put : List api_Waiting} {out : List Int} (h : Inv5 p (upsA l) l i n q put out) :
    ∃ (n' : Nat) (q' put' : List api_Waiting) (out' : List Int), law30_QueueTimely_L3 l p (q, (n : Int), (i : Int), put, out) = some (.inl (q', (n' : Int), ((i + 1 : Nat) : Int), put', out')) ∧ Inv5 p (upsA l) l (i + 1) n' q' put' out' := by
  have hUl := upsA_len l
  have hnl : n ≤ 40 := by
    have := upsA_len (l.take i)
    rw [List.length_take, ← h.now] at this
    omega
  have hsz := h.sizes
  have hlen := h.len
  have hlt : decide ((i : Int) < (l.length : Int)) = true := decide_eq_true (by omega)
  have hw : IntKind.i64.wrap ((i : Int) + 1) = ((i + 1 : Nat) : Int) := by rw [wrap64 (by omega) (by omega)]; omega
  have hwn : IntKind.i64.wrap ((n : Int) + 1) = ((n + 1 : Nat) : Int) := by rw [wrap64 (by omega) (by omega)]; omega
  have h2 : loopF (law30_QueueTimely_L2 (q, (n : Int), (i : Int), put, out) (l.getD i a0A)) (false, (0 : Int)) = some (.inl (put.any fun w => w.Event == (l.getD i a0A).Event)) := timely_L2 (q, (n : Int), (i : Int), put, out) (l.getD i a0A) (by show put.length ≤ 1000; omega)
  have z0 : decide ((0 : Int) < ((0 : Nat) : Int)) = false := rfl
  unfold law30_QueueTimely_L3
  simp only [hlt, cond_true, getI_in a0A hi, bind_s, hw, hwn]
  cases hd0 : (l.getD i a0A).Do == 0
  · have e1 : ((l.getD i a0A).Do != 1) = !((l.getD i a0A).Do == 1) := rfl
    have e2 : ((l.getD i a0A).Do != 2) = !((l.getD i a0A).Do == 2) := rfl
    simp only [cond_false, seqF_l, e1, e2]
    cases hd1 : (l.getD i a0A).Do == 1
    · cases hd2 : (l.getD i a0A).Do == 2
      · simp only [Bool.not_false, cond_true, seqF_l]
        exact ⟨_, _, _, _, rfl, h.skip hi (by unfold isStep; rw [hd1, hd2]; rfl)⟩
      · have hs : isStep (l.getD i a0A) = true := by unfold isStep; rw [hd1, hd2]; rfl
        have hI := h.down rfl hi hs hd1
        have hlate := late_none q (by omega) ((n + 1 : Nat) : Int) h.hq (hI.fresh (h.at rfl hi hs).1)
        have hc : decide (out.length + 0 ≤ 1000000) = true := decide_eq_true (by omega)
        simp only [Bool.not_false, Bool.not_true, cond_true, cond_false]
        rw [step_down p 1 q (by omega)]
        simp only [bind_s, List.length_nil, hc, chkO_true, hlate, List.append_nil, z0, cond_false, seqF_l]
        exact ⟨_, _, _, _, rfl, hI⟩
    · have hs : isStep (l.getD i a0A) = true := by unfold isStep; rw [hd1]; rfl
      obtain ⟨a, b, he, hal, hI⟩ := h.up hp h0 rfl hi hl hs hd1
      have hsz2 := hI.sizes
      have hlen2 := hI.len
      have hlate := late_none b (by omega) ((n + 1 : Nat) : Int) hI.hq (hI.fresh (h.at rfl hi hs).1)
      have hc : decide (out.length + a.length ≤ 1000000) = true := decide_eq_true (by omega)
      simp only [Bool.not_true, cond_false]
      rw [he]
      simp only [bind_s, hc, chkO_true, hlate, List.length_nil, z0, cond_false, seqF_l]
      exact ⟨_, _, _, _, rfl, hI⟩
  · have hs : isStep (l.getD i a0A) = false := by
      have : (l.getD i a0A).Do = 0 := by simpa using hd0
      unfold isStep
      rw [this]
      rfl
    simp only [cond_true]
    cases ha1 : decide ((l.getD i a0A).After < 0)
    · cases ha2 : decide (1000 < (l.getD i a0A).After)
      · simp only [cond_false]
        rw [h2]
        simp only [seqF_l]
        cases hag : put.any fun w => w.Event == (l.getD i a0A).Event
        · have b1 := of_decide_eq_false ha1
          have b2 := of_decide_eq_false ha2
          simp only [cond_false]
          rw [wrap64 (n := (n : Int) + (l.getD i a0A).After) (by omega) (by omega), put_eq p hp q (by omega)]
          simp only [bind_s]
          rcases putS_inv5 (p := p) (l := q) (w := ⟨(l.getD i a0A).Event, 1, (l.getD i a0A).Left, (n : Int) + (l.getD i a0A).After⟩) (now := (n : Int)) with ⟨k1, k2⟩ | ⟨k1, _, kw, kh, kp⟩
          · have e : ((putS p q ⟨(l.getD i a0A).Event, 1, (l.getD i a0A).Left, (n : Int) + (l.getD i a0A).After⟩ (n : Int)).2 == 0) = false := by simpa using k1
            simp only [e, cond_false, k2, seqF_r, seqF_l]
            exact ⟨_, _, _, _, rfl, h.skip hi hs⟩
          · rw [k1]
            have hc : decide (put.length + [(⟨(l.getD i a0A).Event, 1, (l.getD i a0A).Left, (n : Int) + (l.getD i a0A).After⟩ : api_Waiting)].length ≤ 1000000) = true := decide_eq_true (by simp; omega)
            simp only [beq_self_eq_true, cond_true, hc, chkO_true, seqF_r, seqF_l]
            exact ⟨_, _, _, _, rfl, h.put h0 ha (by omega) hi hs rfl hag kw kh kp⟩
        · simp only [cond_true, seqF_r, seqF_l]
          exact ⟨_, _, _, _, rfl, h.skip hi hs⟩
      · simp only [cond_true, cond_false, seqF_r, seqF_l]
        exact ⟨_, _, _, _, rfl, h.skip hi hs⟩
    · simp only [cond_true, seqF_r, seqF_l]
      exact ⟨_, _, _, _, rfl, h.skip hi hs⟩
theorem timely_L3 {p : api_Profile} (hp : ProfOk p) (h0 : chk p = 0) {l : List linguaref30_Act} (hl : l.length ≤ 40) (ha : allowB p (upsA l) = true) :
    ∃ (n : Nat) (q put : List api_Waiting) (out : List Int), loopF (law30_QueueTimely_L3 l p) (([] : List api_Waiting), (0 : Int), (0 : Int), ([] : List api_Waiting), ([] : List Int)) = some (.inl (q, (n : Int), put, out)) ∧ Inv5 p (upsA l) l l.length n q put out := by
  refine loopF_inv (body := law30_QueueTimely_L3 l p) l.length (fun i s => ∃ (n : Nat) (q put : List api_Waiting) (out : List Int), s = (q, (n : Int), (i : Int), put, out) ∧ Inv5 p (upsA l) l i n q put out)
    (fun r => ∃ (n : Nat) (q put : List api_Waiting) (out : List Int), r = some (.inl (q, (n : Int), put, out)) ∧ Inv5 p (upsA l) l l.length n q put out) (fun i s hi hs => ?_) (fun s hs => ?_) ?_
  · obtain ⟨n, q, put, out, rfl, hI⟩ := hs
    obtain ⟨n', q', put', out', he, hI'⟩ := timely_step hp h0 hl ha hi hI
    left
    exact ⟨_, he, n', q', put', out', rfl, hI'⟩
  · obtain ⟨n, q, put, out, rfl, hI⟩ := hs
    refine ⟨.inl (q, (n : Int), put, out), ?_, n, q, put, out, rfl, hI⟩
    unfold law30_QueueTimely_L3
    simp only [Int.lt_irrefl, decide_false, cond_false]
  · refine ⟨0, [], [], [], rfl, ?_⟩
    refine ⟨rfl, rfl, by simp, by simp, List.Perm.refl _, List.nodup_nil, by simp, fun d _ _ => ?_⟩
    have hok := chk_ok h0
    exact Int.mul_nonneg (by have := hok.rate; omega) (cntT_nonneg _)
theorem timely_L4 (s50 : ((List api_Waiting) × Int × (List api_Waiting) × (List Int))) (k : Nat) (hk : k < s50.2.2.1.length) (hl : s50.2.2.2.length ≤ 1000) :
    loopF (law30_QueueTimely_L4 s50 (k : Int)) ((0 : Int), (0 : Int)) = some (.inl ((s50.2.2.2.count (s50.2.2.1.getD k w0).Event : Nat) : Int)) := by
  refine loopF_inv (body := law30_QueueTimely_L4 s50 (k : Int)) s50.2.2.2.length (fun i s => s = ((((s50.2.2.2.take i).count (s50.2.2.1.getD k w0).Event : Nat) : Int), (i : Int))) (fun r => r = some (.inl ((s50.2.2.2.count (s50.2.2.1.getD k w0).Event : Nat) : Int))) (fun i s hi hs => ?_) (fun s hs => ?_) rfl
  · subst hs
    left
    have hlt : decide ((i : Int) < (s50.2.2.2.length : Int)) = true := decide_eq_true (by omega)
    have hw : IntKind.i64.wrap ((i : Int) + 1) = ((i + 1 : Nat) : Int) := by rw [wrap64 (by omega) (by omega)]; omega
    have h0 : decide ((0 : Int) ≤ (i : Int)) = true := decide_eq_true (by omega)
    have h1 : decide ((0 : Int) ≤ (k : Int)) = true := decide_eq_true (by omega)
    have h2 : decide ((k : Int) < (s50.2.2.1.length : Int)) = true := decide_eq_true (by omega)
    have hcl := List.count_le_length (a := (s50.2.2.1.getD k w0).Event) (l := s50.2.2.2.take i)
    rw [List.length_take] at hcl
    have hw2 : IntKind.i64.wrap ((((s50.2.2.2.take i).count (s50.2.2.1.getD k w0).Event : Nat) : Int) + 1) = (((s50.2.2.2.take i).count (s50.2.2.1.getD k w0).Event + 1 : Nat) : Int) := by rw [wrap64 (by omega) (by omega)]; omega
    refine ⟨_, ?_, rfl⟩
    unfold law30_QueueTimely_L4
    rw [take_succ_getD s50.2.2.2 0 hi, List.count_append]
    simp only [hlt, h0, h1, h2, cond_true, getI_in (0 : Int) hi, getI_in w0 hk, bind_s, hw, hw2, Bool.and_self, chkO_true]
    rw [List.count_singleton]
    cases s50.2.2.2.getD i 0 == (s50.2.2.1.getD k w0).Event
    · simp
    · simp
  · subst hs
    refine ⟨_, ?_, rfl⟩
    unfold law30_QueueTimely_L4
    simp only [Int.lt_irrefl, decide_false, cond_false, List.take_length]
theorem Inv5.count {p : api_Profile} {U : List Bool} {l : List linguaref30_Act} {i n : Nat} {q put : List api_Waiting} {out : List Int} (h : Inv5 p U l i n q put out) {k : Nat} (hk : k < put.length) :
    out.count (put.getD k w0).Event = bif q.any fun w => w.Event == (put.getD k w0).Event then 0 else 1 := by
  have hm : (put.getD k w0).Event ∈ put.map api_Waiting.Event := List.mem_map.2 ⟨_, mem_getD hk, rfl⟩
  have h1 : (put.map api_Waiting.Event).count (put.getD k w0).Event = 1 := by
    have a := List.nodup_iff_count.1 h.nd (put.getD k w0).Event
    have b := List.count_pos_iff.2 hm
    omega
  rw [← h.perm.count_eq, List.count_append] at h1
  cases hq : q.any fun w => w.Event == (put.getD k w0).Event
  · have : (q.map api_Waiting.Event).count (put.getD k w0).Event = 0 := by
      rw [List.count_eq_zero]
      intro hm
      obtain ⟨w, hw, e⟩ := List.mem_map.1 hm
      have : (q.any fun w => w.Event == (put.getD k w0).Event) = true := List.any_eq_true.2 ⟨w, hw, by simp [e]⟩
      rw [this] at hq
      cases hq
    simp only [cond_false]
    omega
  · obtain ⟨w, hw, e⟩ := List.any_eq_true.1 hq
    have : 0 < (q.map api_Waiting.Event).count (put.getD k w0).Event := List.count_pos_iff.2 (List.mem_map.2 ⟨w, hw, by simpa using e⟩)
    simp only [cond_true]
    omega
theorem timely_L5 {p : api_Profile} {U : List Bool} {l : List linguaref30_Act} {i n : Nat} {q put : List api_Waiting} {out : List Int} (h : Inv5 p U l i n q put out) (hn : n ≤ U.length) (hi : i ≤ 40) : loopF (law30_QueueTimely_L5 (q, (n : Int), put, out)) (0 : Int) = some (.inl ()) := by
  have hsz := h.sizes
  have hlen := h.len
  refine loopF_inv (body := law30_QueueTimely_L5 (q, (n : Int), put, out)) put.length (fun i s => s = (i : Int)) (fun r => r = some (.inl ())) (fun k s hk hs => ?_) (fun s hs => ?_) rfl
  · subst hs
    left
    have hlt : decide ((k : Int) < (put.length : Int)) = true := decide_eq_true (by omega)
    have hw : IntKind.i64.wrap ((k : Int) + 1) = ((k + 1 : Nat) : Int) := by rw [wrap64 (by omega) (by omega)]; omega
    have h0 : decide ((0 : Int) ≤ (k : Int)) = true := decide_eq_true (by omega)
    have h4 := timely_L4 (q, (n : Int), put, out) k hk (by show out.length ≤ 1000; omega)
    refine ⟨_, ?_, rfl⟩
    unfold law30_QueueTimely_L5
    rw [h4]
    simp only [hlt, h0, cond_true, getI_in w0 hk, bind_s, hw, Bool.and_self, chkO_true, seqF_l, gone_eq q (by omega)]
    rw [h.count hk]
    cases hq : q.any fun w => w.Event == (put.getD k w0).Event
    · have e1 : decide ((1 : Int) < ((1 : Nat) : Int)) = false := rfl
      have e2 : (((1 : Nat) : Int) == 1) = true := rfl
      have e3 : (((1 : Nat) : Int) != 1) = false := rfl
      simp only [cond_false, e1, e2, e3, Bool.not_false, beq_self_eq_true, Bool.not_true]
      cases decide ((put.getD k w0).Due ≤ (n : Int)) <;> rfl
    · have e1 : decide ((1 : Int) < ((0 : Nat) : Int)) = false := rfl
      have e2 : (((0 : Nat) : Int) == 1) = false := rfl
      have e4 : (false == false) = true := rfl
      have hd : decide ((put.getD k w0).Due ≤ (n : Int)) = false := by
        obtain ⟨w, hw, e⟩ := List.any_eq_true.1 hq
        have e := eq_of_beq e
        obtain ⟨v, hv, v1, v2⟩ := h.due w hw
        have hf := h.fresh hn w hw
        obtain ⟨j, hj, rfl⟩ := getD_of_mem hv
        have hjk : j = k := by
          have hnd := h.nd
          rw [List.nodup_iff_pairwise_ne, List.pairwise_iff_getElem] at hnd
          have hje : (put.getD j w0).Event = (put.getD k w0).Event := v1.trans e
          have gj : ∀ j (hj : j < put.length), (put.map api_Waiting.Event)[j]'(by rw [List.length_map]; exact hj) = (put.getD j w0).Event := by
            intro j hj
            rw [List.getElem_map, List.getD_eq_getElem?_getD, List.getElem?_eq_getElem hj]
            rfl
          rcases Nat.lt_trichotomy j k with h | h | h
          · have := hnd j k (by rw [List.length_map]; exact hj) (by rw [List.length_map]; exact hk) h
            rw [gj j hj, gj k hk] at this
            exact absurd hje this
          · exact h
          · have := hnd k j (by rw [List.length_map]; exact hk) (by rw [List.length_map]; exact hj) h
            rw [gj j hj, gj k hk] at this
            exact absurd hje.symm this
        subst hjk
        rw [v2]
        exact decide_eq_false (by omega)
      simp only [cond_true, cond_false, e1, e2, e4, Bool.not_true, hd, seqF_l]
  · subst hs
    refine ⟨_, ?_, rfl⟩
    unfold law30_QueueTimely_L5
    simp only [Int.lt_irrefl, decide_false, cond_false]
theorem law30_QueueTimely_true' (a0 : api_Profile) (hp : ProfOk a0) (a1 : List linguaref30_Act) : law30_QueueTimely a0 a1 = some true := by
  unfold law30_QueueTimely
  rw [small_true, bind_some_of rfl, ref30_Few_eq, bind_some_of rfl]
  cases hf : (decide (((([] : List api_Waiting).length : Nat) : Int) ≤ 0) && decide (a0.Window ≤ 1000) && decide ((a0.Types.length : Int) ≤ 20))
  · rfl
  · simp only [Bool.not_true, cond_false]
    cases hl : decide ((40 : Int) < (a1.length : Int))
    · have hl : a1.length ≤ 40 := by have := of_decide_eq_false hl; omega
      simp only [cond_false]
      rw [profile_Check_eq a0 hp, bind_some_of rfl]
      cases hc : chk a0 != 0
      · have hc0 : chk a0 = 0 := by simpa using hc
        simp only [cond_false]
        have hul := upsA_len a1
        rw [timely_L1 a1 (by omega), seqF_l, Allowed_eq a0 hp hc0 _ (by omega), bind_some_of rfl]
        cases ha : allowB a0 (upsA a1)
        · rfl
        · obtain ⟨n, q, put, out, he, hI⟩ := timely_L3 hp hc0 hl ha
          have hsz := hI.sizes
          have hlen := hI.len
          have hn : n ≤ (upsA a1).length := by
            have := hI.now
            rw [List.take_length] at this
            omega
          simp only [Bool.not_true, cond_false]
          rw [he, seqF_l, timely_L5 hI hn hl, seqF_l]
          simp only [cond_true]
          rw [wrap64 (by omega) (by omega)]
          have : ((out.length : Nat) : Int) + ((q.length : Nat) : Int) = ((put.length : Nat) : Int) := by omega
          rw [this, beq_self_eq_true]
      · rfl
    · rfl
def linguaref30_Act.Q (x : linguaref30_Act) : Prop := (IntKind.i64.min ≤ x.Do ∧ x.Do ≤ IntKind.i64.max) ∧ (IntKind.i64.min ≤ x.Event ∧ x.Event ≤ IntKind.i64.max) ∧ (IntKind.i64.min ≤ x.Left ∧ x.Left ≤ IntKind.i64.max) ∧ (IntKind.i64.min ≤ x.After ∧ x.After ≤ IntKind.i64.max)
theorem law30_QueueTimely_true (a0 : api_Profile) (w0 : (api_Profile.Q a0)) (a1 : (List linguaref30_Act)) (_w1 : (a1.length ≤ maxLen ∧ ∀ u2 ∈ a1, (linguaref30_Act.Q u2))) : law30_QueueTimely a0 a1 = some true :=
  law30_QueueTimely_true' a0 (prof_of w0) a1
end Go.Proofs.Ytbijnfgjcbfpmaa

/-
  Which debts are open: the program and the reference (plain law of layer 44).
-/
import Derived.Test.YtomfmjejoocmmaaP4
namespace Go.Proofs.Ytomfmjejoocmmaa
open Go.RowKit
def AskP (ev : List api_Event) (sent : List api_Sent) (m step x : Int) : Prop := (0 ≤ m ∧ m < (ev.length : Int) ∧ (ev.getD m.toNat e0).Kind = 0) ∧ 0 ≤ x ∧ x < 12 ∧ May ev sent m step x
/-- lists of networks, each once, in order -/
structure AskL (ev : List api_Event) (sent : List api_Sent) (m step : Int) (r : List Int) : Prop where
  ord : r.Pairwise fun a b => a < b
  mem : ∀ x, x ∈ r ↔ AskP ev sent m step x
theorem AskL.len {ev : List api_Event} {sent : List api_Sent} {m step : Int} {r : List Int} (h : AskL ev sent m step r) : r.length ≤ 12 := nodup_len 12 r (h.ord.imp fun {a b} h => by omega) fun x hx => by
  have := (h.mem x).1 hx
  exact ⟨this.2.1, this.2.2.1⟩
theorem AskL.uniq {ev : List api_Event} {sent : List api_Sent} {m step : Int} {r q : List Int} (h : AskL ev sent m step r) (k : AskL ev sent m step q) : r = q := int_uniq h.ord k.ord fun x => by rw [h.mem, k.mem]
theorem asked_spec (ev : List api_Event) (sent : List api_Sent) (he : ev.length ≤ 1000) (hs : sent.length ≤ 1000) (m step : Int) : ∃ r, debt_Asked ev sent m step = some r ∧ AskL ev sent m step r := by
  obtain ⟨r, h1, h2, h3⟩ := asked_eq ev sent he hs m step
  exact ⟨r, h1, h2, h3⟩
theorem range_any {n : Nat} {q : Nat → Bool} : (List.range n).all (fun i => !(q i)) = false ↔ ∃ i, i < n ∧ q i = true := by
  rw [List.all_eq_false]
  constructor
  · rintro ⟨i, hi, h⟩
    exact ⟨i, List.mem_range.1 hi, by simpa using h⟩
  · rintro ⟨i, hi, h⟩
    exact ⟨i, List.mem_range.2 hi, by simp [h]⟩
theorem may_eq (ev : List api_Event) (sent : List api_Sent) (he : ev.length ≤ 1000) (hs : sent.length ≤ 1000) (m step net : Int) (h0 : 0 ≤ m) (h1 : m < (ev.length : Int)) (n0 : 0 ≤ net) (n1 : net < 12) :
    ∃ b, ref44_may ev sent m step net = some b ∧ (b = true ↔ May ev sent m step net) := by
  have l1 := loopF_idx (body := ref44_may_L1 ev m net) ev.length (fun i => !(((i : Int) == m || editS m (ev.getD i e0)) && netS (ev.getD i e0).Author == net)) true (fun i hi => by
    have hlt : decide ((i : Int) < (ev.length : Int)) = true := decide_eq_true (by omega)
    have hw : IntKind.i64.wrap ((i : Int) + 1) = (i : Int) + 1 := wrap64 (by omega) (by omega)
    unfold ref44_may_L1 editS
    simp only [hlt, cond_true, getI_in e0 hi, bind_s, hw, ref_net_eq]
    cases (i : Int) == m
    · cases (ev.getD i e0).Kind == 1
      · rfl
      · cases (ev.getD i e0).Target == m
        · rfl
        · cases netS (ev.getD i e0).Author == net <;> rfl
    · cases netS (ev.getD i e0).Author == net <;> rfl) (by
    unfold ref44_may_L1
    simp only [Int.lt_irrefl, decide_false, cond_false])
  have l2 := loopF_idx (body := ref44_may_L2 sent net step ev m) sent.length (fun i => !((sent.getD i s0).Net == net && sentS ev m step (sent.getD i s0))) true (fun i hi => by
    have hlt : decide ((i : Int) < (sent.length : Int)) = true := decide_eq_true (by omega)
    have hw : IntKind.i64.wrap ((i : Int) + 1) = (i : Int) + 1 := wrap64 (by omega) (by omega)
    unfold ref44_may_L2 sentS
    simp only [hlt, cond_true, getI_in s0 hi, bind_s, hw, (about_eq ev _ m).2]
    cases (sent.getD i s0).Net == net
    · rfl
    · cases decide ((sent.getD i s0).Step ≤ step)
      · rfl
      · cases aboutS ev (sent.getD i s0).Event m <;> rfl) (by
    unfold ref44_may_L2
    simp only [Int.lt_irrefl, decide_false, cond_false])
  refine ⟨!((List.range ev.length).all (fun i => !(((i : Int) == m || editS m (ev.getD i e0)) && netS (ev.getD i e0).Author == net)) && (List.range sent.length).all fun i => !((sent.getD i s0).Net == net && sentS ev m step (sent.getD i s0))), ?_, ?_⟩
  · unfold ref44_may
    rw [l1, l2]
    cases (List.range ev.length).all (fun i => !(((i : Int) == m || editS m (ev.getD i e0)) && netS (ev.getD i e0).Author == net))
    · rfl
    · cases (List.range sent.length).all fun i => !((sent.getD i s0).Net == net && sentS ev m step (sent.getD i s0)) <;> rfl
  · rw [Bool.not_eq_true', Bool.and_eq_false_iff, range_any, range_any]
    have ge : ∀ i, i < ev.length → ev.getD i e0 ∈ ev := fun i hi => by
      rw [List.getD_eq_getElem?_getD, List.getElem?_eq_getElem hi]
      exact List.getElem_mem hi
    have gs : ∀ i, i < sent.length → sent.getD i s0 ∈ sent := fun i hi => by
      rw [List.getD_eq_getElem?_getD, List.getElem?_eq_getElem hi]
      exact List.getElem_mem hi
    unfold May
    constructor
    · rintro (⟨i, hi, h⟩ | ⟨i, hi, h⟩)
      · rw [Bool.and_eq_true, Bool.or_eq_true] at h
        have hn : netS (ev.getD i e0).Author = net := by simpa using h.2
        rcases h.1 with h | h
        · have : m.toNat = i := by
            have : (i : Int) = m := by simpa using h
            omega
          exact Or.inl (by rw [this]; exact hn.symm)
        · exact Or.inr (Or.inl ⟨_, ge i hi, h, hn⟩)
      · rw [Bool.and_eq_true] at h
        have hn : (sent.getD i s0).Net = net := by simpa using h.1
        exact Or.inr (Or.inr ⟨_, gs i hi, by omega, h.2, hn⟩)
    · rintro (h | ⟨x, hx, h, hn⟩ | ⟨s, hs, _, h, hn⟩)
      · refine Or.inl ⟨m.toNat, by omega, ?_⟩
        rw [Bool.and_eq_true, Bool.or_eq_true]
        exact ⟨Or.inl (by simp; omega), by simp [h]⟩
      · obtain ⟨i, hi, rfl⟩ := List.getElem_of_mem hx
        refine Or.inl ⟨i, hi, ?_⟩
        rw [List.getD_eq_getElem?_getD, List.getElem?_eq_getElem hi, Option.getD_some, h, hn]
        simp
      · obtain ⟨i, hi, rfl⟩ := List.getElem_of_mem hs
        refine Or.inr ⟨i, hi, ?_⟩
        rw [List.getD_eq_getElem?_getD, List.getElem?_eq_getElem hi, Option.getD_some, h, hn]
        simp
theorem ref_asked_spec (ev : List api_Event) (sent : List api_Sent) (he : ev.length ≤ 1000) (hs : sent.length ≤ 1000) (m step : Int) : ∃ r, ref44_Asked ev sent m step = some r ∧ AskL ev sent m step r := by
  unfold ref44_Asked
  by_cases h1 : m < 0
  · rw [decide_eq_true h1]
    exact ⟨[], rfl, List.Pairwise.nil, fun x => by unfold AskP; simp; omega⟩
  · by_cases h2 : (ev.length : Int) ≤ m
    · rw [decide_eq_false h1, decide_eq_true h2]
      exact ⟨[], rfl, List.Pairwise.nil, fun x => by unfold AskP; simp; omega⟩
    · rw [decide_eq_false h1, decide_eq_false h2, about_at h1 h2]
      simp only [cond_false, bind_s]
      cases h3 : (ev.getD m.toNat e0).Kind != 0
      · have h3 : (ev.getD m.toNat e0).Kind = 0 := by simpa using h3
        have key := loopF_inv (body := ref44_Asked_L1 ev sent m step) 12 (fun i s => s.1 = (i : Int) ∧ s.2.length ≤ i ∧ (s.2.Pairwise fun a b => a < b) ∧ ∀ x, x ∈ s.2 ↔ 0 ≤ x ∧ x < (i : Int) ∧ May ev sent m step x) (fun r => ∃ l, r = some (.inl l) ∧ AskL ev sent m step l) (fun i s hi hs' => ?_) (fun s hs' => ?_) (s0 := ((0 : Int), ([] : List Int))) ⟨rfl, Nat.le_refl _, List.Pairwise.nil, fun x => by simp; omega⟩
        · obtain ⟨l, q, hl⟩ := key
          simp only [cond_false]
          rw [q, seqF_l]
          exact ⟨l, rfl, hl⟩
        · obtain ⟨n, l⟩ := s
          obtain ⟨rfl, hll, hp, hm⟩ := hs'
          left
          have hlt : decide ((i : Int) < 12) = true := decide_eq_true (by omega)
          have hw : IntKind.i64.wrap ((i : Int) + 1) = ((i + 1 : Nat) : Int) := by rw [wrap64 (by omega) (by omega)]; omega
          have hc : decide (l.length + [(i : Int)].length ≤ 1000000) = true := decide_eq_true (by
            have hll : l.length ≤ i := hll
            simp only [List.length_singleton]; omega)
          obtain ⟨b, hb, hiff⟩ := may_eq ev sent he hs m step (i : Int) (by omega) (by omega) (by omega) (by omega)
          unfold ref44_Asked_L1
          simp only [hlt, cond_true, hw]
          rw [hb, bind_s]
          cases b
          · have hno : ¬ May ev sent m step (i : Int) := fun h => by have := hiff.2 h; cases this
            refine ⟨_, rfl, rfl, Nat.le_succ_of_le hll, hp, fun x => ?_⟩
            rw [hm]
            constructor
            · rintro ⟨a, b, c⟩
              exact ⟨a, by omega, c⟩
            · rintro ⟨a, b, c⟩
              by_cases hx : x = (i : Int)
              · subst hx
                exact absurd c hno
              · exact ⟨a, by omega, c⟩
          · simp only [cond_true, hc, chkO_true]
            refine ⟨_, rfl, rfl, ?_, ?_, fun x => ?_⟩
            · have hll : l.length ≤ i := hll
              simp only [List.length_append, List.length_singleton]
              omega
            · rw [List.pairwise_append]
              refine ⟨hp, List.pairwise_singleton _ _, fun a ha b hb => ?_⟩
              rw [List.mem_singleton.1 hb]
              exact ((hm a).1 ha).2.1
            · rw [List.mem_append, hm, List.mem_singleton]
              constructor
              · rintro (⟨a, b, c⟩ | rfl)
                · exact ⟨a, by omega, c⟩
                · exact ⟨by omega, by omega, hiff.1 rfl⟩
              · rintro ⟨a, b, c⟩
                by_cases hx : x = (i : Int)
                · exact Or.inr hx
                · exact Or.inl ⟨a, by omega, c⟩
        · obtain ⟨n, l⟩ := s
          obtain ⟨rfl, _, hp, hm⟩ := hs'
          refine ⟨.inl l, ?_, l, rfl, hp, fun x => ?_⟩
          · unfold ref44_Asked_L1
            simp
          · rw [hm]
            unfold AskP
            constructor
            · rintro ⟨a, b, c⟩
              exact ⟨⟨by omega, by omega, h3⟩, a, by omega, c⟩
            · rintro ⟨_, a, b, c⟩
              exact ⟨a, by omega, c⟩
      · refine ⟨[], rfl, List.Pairwise.nil, fun x => ?_⟩
        have h3 : (ev.getD m.toNat e0).Kind ≠ 0 := by simpa using h3
        constructor
        · intro h; simp at h
        · rintro ⟨⟨_, _, h⟩, _⟩
          exact absurd h h3
/- debts that are open -/
theorem contains_eq (l : List api_Debt) (hl : l.length ≤ 10000) (d : api_Debt) : slices_Contains_api_Debt_api_Debt l d = some (memD l d) := by
  have h := loopF_inv (body := slices_Index_api_Debt_api_Debt_L1 l d) l.length (fun i s => s = (i : Int) ∧ memD (l.take i) d = false) (fun r => (r = some (.inl ()) ∧ memD l d = false) ∨ ∃ k : Int, r = some (.inr k) ∧ 0 ≤ k ∧ memD l d = true) (fun i s hi hs => ?_) (fun s hs => ?_) (s0 := (0 : Int)) ⟨rfl, rfl⟩
  · unfold slices_Contains_api_Debt_api_Debt slices_Index_api_Debt_api_Debt
    rcases h with ⟨h, e⟩ | ⟨k, h, hk, e⟩
    · rw [h, e]
      rfl
    · rw [h, e, seqF_r, bind_s, decide_eq_true hk]
  · obtain ⟨rfl, hm⟩ := hs
    have hlt : decide ((i : Int) < (l.length : Int)) = true := decide_eq_true (by omega)
    have hw : IntKind.i64.wrap ((i : Int) + 1) = ((i + 1 : Nat) : Int) := by rw [wrap64 (by omega) (by omega)]; omega
    unfold slices_Index_api_Debt_api_Debt_L1
    simp only [hlt, cond_true, getI_in d0 hi, bind_s, hw, foldD]
    cases he : eqD d (l.getD i d0)
    · left
      refine ⟨_, rfl, rfl, ?_⟩
      rw [memD_false] at hm ⊢
      rw [take_succ_getD l d0 hi, List.mem_append, List.mem_singleton]
      rintro (h | h)
      · exact hm h
      · rw [← h, eqD_refl] at he
        cases he
    · right
      refine ⟨_, rfl, Or.inr ⟨_, rfl, by omega, ?_⟩⟩
      rw [memD_iff, eqD_iff.1 he, List.getD_eq_getElem?_getD, List.getElem?_eq_getElem hi]
      exact List.getElem_mem hi
  · obtain ⟨rfl, hm⟩ := hs
    rw [List.take_length] at hm
    refine ⟨.inl (), ?_, Or.inl ⟨rfl, hm⟩⟩
    unfold slices_Index_api_Debt_api_Debt_L1
    simp only [Int.lt_irrefl, decide_false, cond_false]
def OpenP (ev : List api_Event) (sent : List api_Sent) (orders : List api_Order) (d : api_Debt) : Prop := ∃ o ∈ orders, o.Event = d.Event ∧ AskP ev sent o.Event o.Step d.Net
theorem open_L1 (y : List Int) (hy : y.length ≤ 12) (done : List api_Debt) (hd : done.length ≤ 10000) (o : api_Order) (acc : List api_Debt) (ha : acc.length ≤ 100000) :
    ∃ r, loopF (debt_Open_L1 y done o) ((0 : Int), acc) = some (.inl r) ∧ r.length ≤ acc.length + 12 ∧ ∀ d, d ∈ r ↔ d ∈ acc ∨ (d.Event = o.Event ∧ d.Net ∈ y ∧ d ∉ done) := by
  have key := loopF_inv (body := debt_Open_L1 y done o) y.length (fun i s => s.1 = (i : Int) ∧ s.2.length ≤ acc.length + i ∧ ∀ d, d ∈ s.2 ↔ d ∈ acc ∨ (d.Event = o.Event ∧ d.Net ∈ y.take i ∧ d ∉ done)) (fun r => ∃ q, r = some (.inl q) ∧ q.length ≤ acc.length + y.length ∧ ∀ d, d ∈ q ↔ d ∈ acc ∨ (d.Event = o.Event ∧ d.Net ∈ y ∧ d ∉ done)) (fun i s hi hs => ?_) (fun s hs => ?_) (s0 := ((0 : Int), acc)) ⟨rfl, Nat.le_refl _, fun d => by simp⟩
  · obtain ⟨r, h1, h2, h3⟩ := key
    exact ⟨r, h1, by omega, h3⟩
  · obtain ⟨n, l⟩ := s
    obtain ⟨rfl, hl, hm⟩ := hs
    have hl : l.length ≤ acc.length + i := hl
    left
    have hlt : decide ((i : Int) < ((y.length : Nat) : Int)) = true := decide_eq_true (by omega)
    have h0 : decide ((0 : Int) ≤ (i : Int)) = true := decide_eq_true (by omega)
    have hw : IntKind.i64.wrap ((i : Int) + 1) = ((i + 1 : Nat) : Int) := by rw [wrap64 (by omega) (by omega)]; omega
    have hc : ∀ x : api_Debt, decide (l.length + [x].length ≤ 1000000) = true := fun x => decide_eq_true (by simp only [List.length_singleton]; omega)
    have hmt : ∀ x : Int, x ∈ y.take (i + 1) ↔ x ∈ y.take i ∨ x = y.getD i 0 := fun x => by rw [take_succ_getD y 0 hi, List.mem_append, List.mem_singleton]
    unfold debt_Open_L1
    simp only [hlt, h0, cond_true, Bool.and_self, chkO_true, getI_in (0 : Int) hi, bind_s, hw, contains_eq done hd, hc]
    cases he : memD done ⟨o.Event, y.getD i 0⟩
    · have he := memD_false.1 he
      simp only [Bool.not_false, cond_true]
      refine ⟨_, rfl, rfl, by simp only [List.length_append, List.length_singleton]; omega, fun d => ?_⟩
      rw [List.mem_append, hm, List.mem_singleton, hmt]
      constructor
      · rintro ((h | ⟨h1, h2, h3⟩) | rfl)
        · exact Or.inl h
        · exact Or.inr ⟨h1, Or.inl h2, h3⟩
        · exact Or.inr ⟨rfl, Or.inr rfl, he⟩
      · rintro (h | ⟨h1, h2 | h2, h3⟩)
        · exact Or.inl (Or.inl h)
        · exact Or.inl (Or.inr ⟨h1, h2, h3⟩)
        · exact Or.inr (debt_ext h1 h2)
    · have he := memD_iff.1 he
      simp only [Bool.not_true, cond_false]
      refine ⟨_, rfl, rfl, Nat.le_succ_of_le hl, fun d => ?_⟩
      rw [hm, hmt]
      constructor
      · rintro (h | ⟨h1, h2, h3⟩)
        · exact Or.inl h
        · exact Or.inr ⟨h1, Or.inl h2, h3⟩
      · rintro (h | ⟨h1, h2 | h2, h3⟩)
        · exact Or.inl h
        · exact Or.inr ⟨h1, h2, h3⟩
        · rw [debt_ext (b := ⟨o.Event, y.getD i 0⟩) h1 h2] at h3
          exact absurd he h3
  · obtain ⟨n, l⟩ := s
    obtain ⟨rfl, hl, hm⟩ := hs
    rw [List.take_length] at hm
    refine ⟨.inl l, ?_, l, rfl, hl, hm⟩
    unfold debt_Open_L1
    simp only [Int.lt_irrefl, decide_false, cond_false]
theorem openP_succ {ev : List api_Event} {sent : List api_Sent} {orders : List api_Order} {i : Nat} (hi : i < orders.length) (d : api_Debt) :
    OpenP ev sent (orders.take (i + 1)) d ↔ ((orders.getD i o0).Event = d.Event ∧ AskP ev sent (orders.getD i o0).Event (orders.getD i o0).Step d.Net) ∨ OpenP ev sent (orders.take i) d :=
  mem_take_succ hi (d := o0) (Q := fun o => o.Event = d.Event ∧ AskP ev sent o.Event o.Step d.Net)
theorem open_L2 (ev : List api_Event) (sent : List api_Sent) (he : ev.length ≤ 1000) (hs : sent.length ≤ 1000) (orders : List api_Order) (ho : orders.length ≤ 1000) (done : List api_Debt) (hd : done.length ≤ 10000) :
    ∃ r, loopF (debt_Open_L2 orders ev sent done) ((0 : Int), ([] : List api_Debt)) = some (.inl r) ∧ r.length ≤ 12 * orders.length ∧ ∀ d, d ∈ r ↔ OpenP ev sent orders d ∧ d ∉ done := by
  have key := loopF_inv (body := debt_Open_L2 orders ev sent done) orders.length (fun i s => s.1 = (i : Int) ∧ s.2.length ≤ 12 * i ∧ ∀ d, d ∈ s.2 ↔ OpenP ev sent (orders.take i) d ∧ d ∉ done) (fun r => ∃ q, r = some (.inl q) ∧ q.length ≤ 12 * orders.length ∧ ∀ d, d ∈ q ↔ OpenP ev sent orders d ∧ d ∉ done) (fun i s hi hs' => ?_) (fun s hs' => ?_) (s0 := ((0 : Int), ([] : List api_Debt))) ⟨rfl, Nat.le_refl _, fun d => by simp [OpenP]⟩
  · exact key
  · obtain ⟨n, l⟩ := s
    obtain ⟨rfl, hl, hm⟩ := hs'
    have hl : l.length ≤ 12 * i := hl
    left
    have hlt : decide ((i : Int) < (orders.length : Int)) = true := decide_eq_true (by omega)
    have hw : IntKind.i64.wrap ((i : Int) + 1) = ((i + 1 : Nat) : Int) := by rw [wrap64 (by omega) (by omega)]; omega
    obtain ⟨y, hy, hL⟩ := asked_spec ev sent he hs (orders.getD i o0).Event (orders.getD i o0).Step
    obtain ⟨r, h1, h2, h3⟩ := open_L1 y hL.len done hd (orders.getD i o0) l (by omega)
    unfold debt_Open_L2
    simp only [hlt, cond_true, getI_in o0 hi, bind_s, hw]
    rw [hy, bind_s, h1, seqF_l]
    refine ⟨_, rfl, rfl, by simp only; omega, fun d => ?_⟩
    rw [h3, hm, openP_succ hi, hL.mem]
    constructor
    · rintro (⟨h, h'⟩ | ⟨k1, k2, k3⟩)
      · exact ⟨Or.inr h, h'⟩
      · exact ⟨Or.inl ⟨k1.symm, k2⟩, k3⟩
    · rintro ⟨⟨k1, k2⟩ | h, h'⟩
      · exact Or.inr ⟨k1.symm, k2, h'⟩
      · exact Or.inl ⟨h, h'⟩
  · obtain ⟨n, l⟩ := s
    obtain ⟨rfl, hl, hm⟩ := hs'
    rw [List.take_length] at hm
    refine ⟨.inl l, ?_, l, rfl, hl, hm⟩
    unfold debt_Open_L2
    simp only [Int.lt_irrefl, decide_false, cond_false]
/-- of a list in order, each once -/
theorem ddP_facts {s : List api_Debt} (h : s.Pairwise fun a b => ltD b a = false) : ∀ m, m ≤ s.length → SD (ddP s m) ∧ ∀ x, x ∈ ddP s m ↔ ∃ k, k < m ∧ s.getD k d0 = x
  | 0, _ => ⟨List.Pairwise.nil, fun x => by simp [ddP]⟩
  | m + 1, hm => by
    obtain ⟨h1, h2⟩ := ddP_facts h m (by omega)
    have hg : ∀ {i : Nat} (h : i < s.length), s.getD i d0 = s[i] := fun h => by rw [List.getD_eq_getElem?_getD, List.getElem?_eq_getElem h]; rfl
    have le : ∀ i j, i < j → j < s.length → ltD (s.getD j d0) (s.getD i d0) = false := by
      intro i j hij hj
      rw [hg hj, hg (show i < s.length by omega)]
      exact (List.pairwise_iff_getElem.1 h) i j (by omega) hj hij
    rw [ddP]
    cases hc : m == 0 || !(eqD (s.getD m d0) (s.getD (m - 1) d0))
    · simp only [cond_false, List.append_nil]
      refine ⟨h1, fun x => ?_⟩
      rw [h2]
      rw [Bool.or_eq_false_iff, beq_eq_false_iff_ne, Bool.not_eq_false', eqD_iff] at hc
      constructor
      · rintro ⟨k, hk, e⟩
        exact ⟨k, by omega, e⟩
      · rintro ⟨k, hk, e⟩
        by_cases hkm : k < m
        · exact ⟨k, hkm, e⟩
        · have : k = m := by omega
          subst this
          exact ⟨k - 1, by omega, by rw [← hc.2, e]⟩
    · simp only [cond_true]
      have hlast : ∀ x ∈ ddP s m, ltD x (s.getD m d0) = true := by
        intro x hx
        obtain ⟨k, hk, e⟩ := (h2 x).1 hx
        subst e
        rw [Bool.or_eq_true, beq_iff_eq, Bool.not_eq_true', eqD_false] at hc
        rcases hc with hc | hc
        · omega
        · have l2 : ltD (s.getD (m - 1) d0) (s.getD m d0) = true := by
            rcases ltD_tri (s.getD (m - 1) d0) (s.getD m d0) with h | h | h
            · exact h
            · exact absurd h.symm hc
            · rw [le (m - 1) m (by omega) (by omega)] at h
              cases h
          by_cases hk1 : k = m - 1
          · rw [hk1]; exact l2
          · rcases ltD_tri (s.getD k d0) (s.getD (m - 1) d0) with h | h | h
            · exact ltD_trans h l2
            · rw [h]; exact l2
            · rw [le k (m - 1) (by omega) (by omega)] at h
              cases h
      refine ⟨?_, fun x => ?_⟩
      · unfold SD
        rw [List.pairwise_append]
        exact ⟨h1, List.pairwise_singleton _ _, fun a ha b hb => by rw [List.mem_singleton.1 hb]; exact hlast a ha⟩
      · rw [List.mem_append, h2, List.mem_singleton]
        constructor
        · rintro (⟨k, hk, e⟩ | e)
          · exact ⟨k, by omega, e⟩
          · exact ⟨m, by omega, e.symm⟩
        · rintro ⟨k, hk, e⟩
          by_cases hkm : k < m
          · exact Or.inl ⟨k, hkm, e⟩
          · have : k = m := by omega
            subst this
            exact Or.inr e.symm
theorem sort_eq (l : List api_Debt) (hl : l.length ≤ 1000000) : ∃ r, sortF debt_compare l = some r ∧ r.Perm l ∧ r.Pairwise fun a b => ltD b a = false := by
  have hlt : ∀ a b, ltOf cmpD a b = ltD a b := fun a b => cmpD_lt a b
  have hok : SortOk debt_compare l cmpD := by
    refine ⟨compare_eq, ⟨fun x => ?_, fun x y z => ?_, fun x y z => ?_⟩, fun x hx y hy e1 e2 => ?_, by omega⟩
    · rw [hlt]; exact ltD_irr x
    · rw [hlt, hlt, hlt]; exact ltD_trans
    · rw [hlt, hlt, hlt, ltD_not, ltD_not, ltD_not]; omega
    · rw [hlt] at e1 e2
      rcases ltD_tri x y with h | h | h
      · rw [h] at e1; cases e1
      · exact h
      · rw [h] at e2; cases e2
  refine ⟨_, sortF_eq hok, List.mergeSort_perm _ _, ?_⟩
  have := List.pairwise_mergeSort (le := fun x y => !ltOf cmpD y x) (fun a b c e1 e2 => by
        simp only [Bool.not_eq_true', hlt] at e1 e2 ⊢
        rw [ltD_not] at e1 e2 ⊢
        omega) (fun a b => by
        simp only [hlt]
        cases h : ltD b a
        · rfl
        · have : ltD a b = false := by
            rw [ltD_iff] at h
            rw [ltD_not]
            omega
          rw [this]
          rfl) l
  exact this.imp fun {a b} h => by
    rw [← hlt]
    simpa using h
theorem open_spec (ev : List api_Event) (sent : List api_Sent) (he : ev.length ≤ 1000) (hs : sent.length ≤ 1000) (orders : List api_Order) (ho : orders.length ≤ 1000) (done : List api_Debt) (hd : done.length ≤ 10000) :
    ∃ r, debt_Open ev sent orders done = some r ∧ SD r ∧ r.length ≤ 12 * orders.length ∧ ∀ d, d ∈ r ↔ OpenP ev sent orders d ∧ d ∉ done := by
  obtain ⟨q, h1, h2, h3⟩ := open_L2 ev sent he hs orders ho done hd
  obtain ⟨r, k1, k2, k3⟩ := sort_eq q (by omega)
  have hlen := k2.length_eq
  obtain ⟨f1, f2⟩ := ddP_facts k3 r.length (Nat.le_refl _)
  have hdl := ddP_len r r.length
  refine ⟨ddP r r.length, ?_, f1, by omega, fun d => ?_⟩
  · unfold debt_Open
    rw [h1, seqF_l, k1, bind_s, compact_eq r (by omega), bind_s]
  · rw [f2, ← h3, ← k2.mem_iff]
    constructor
    · rintro ⟨k, hk, e⟩
      rw [List.getD_eq_getElem?_getD, List.getElem?_eq_getElem hk, Option.getD_some] at e
      rw [← e]
      exact List.getElem_mem hk
    · intro hdr
      obtain ⟨k, hk, e⟩ := List.getElem_of_mem hdr
      exact ⟨k, hk, by rw [List.getD_eq_getElem?_getD, List.getElem?_eq_getElem hk, Option.getD_some, e]⟩
end Go.Proofs.Ytomfmjejoocmmaa

/-
  What is open, by the reference; the small examples; lists compared with themselves (plain law of layer 44).
-/
import Derived.Test.YtomfmjejoocmmaaP5
namespace Go.Proofs.Ytomfmjejoocmmaa
open Go.RowKit
theorem ref_open_L1 (y : List Int) (hy : y.length ≤ 12) (done : List api_Debt) (hd : done.length ≤ 10000) (orders : List api_Order) (o : api_Order) (s12 : Int × List api_Debt) (hg : getI orders s12.1 = some o) (acc : List api_Debt) (ha : acc.length ≤ 9000) (hs : SD acc) :
    ∃ r, loopF (ref44_Open_L1 y orders s12 done) ((0 : Int), acc) = some (.inl r) ∧ SD r ∧ r.length ≤ acc.length + 12 ∧ ∀ d, d ∈ r ↔ d ∈ acc ∨ (d.Event = o.Event ∧ d.Net ∈ y ∧ d ∉ done) := by
  have key := loopF_inv (body := ref44_Open_L1 y orders s12 done) y.length (fun i s => s.1 = (i : Int) ∧ SD s.2 ∧ s.2.length ≤ acc.length + i ∧ ∀ d, d ∈ s.2 ↔ d ∈ acc ∨ (d.Event = o.Event ∧ d.Net ∈ y.take i ∧ d ∉ done)) (fun r => ∃ q, r = some (.inl q) ∧ SD q ∧ q.length ≤ acc.length + y.length ∧ ∀ d, d ∈ q ↔ d ∈ acc ∨ (d.Event = o.Event ∧ d.Net ∈ y ∧ d ∉ done)) (fun i s hi hs => ?_) (fun s hs => ?_) (s0 := ((0 : Int), acc)) ⟨rfl, hs, Nat.le_refl _, fun d => by simp⟩
  · obtain ⟨r, h1, h0, h2, h3⟩ := key
    exact ⟨r, h1, h0, by omega, h3⟩
  · obtain ⟨n, l⟩ := s
    obtain ⟨rfl, hsd, hl, hm⟩ := hs
    have hl : l.length ≤ acc.length + i := hl
    have hsd : SD l := hsd
    left
    have hlt : decide ((i : Int) < ((y.length : Nat) : Int)) = true := decide_eq_true (by omega)
    have h0 : decide ((0 : Int) ≤ (i : Int)) = true := decide_eq_true (by omega)
    have hw : IntKind.i64.wrap ((i : Int) + 1) = ((i + 1 : Nat) : Int) := by rw [wrap64 (by omega) (by omega)]; omega
    have hmt : ∀ x : Int, x ∈ y.take (i + 1) ↔ x ∈ y.take i ∨ x = y.getD i 0 := fun x => by rw [take_succ_getD y 0 hi, List.mem_append, List.mem_singleton]
    unfold ref44_Open_L1
    simp only [hlt, h0, cond_true, Bool.and_self, chkO_true, getI_in (0 : Int) hi, bind_s, hw, has_eq done hd, hg]
    have stay : (d0 : api_Debt) = d0 → (∀ d : api_Debt, d.Event = o.Event → d.Net = y.getD i 0 → d ∉ done → d ∈ l) → ∀ d, d ∈ l ↔ d ∈ acc ∨ (d.Event = o.Event ∧ d.Net ∈ y.take (i + 1) ∧ d ∉ done) := fun _ hin d => by
      constructor
      · intro h
        rcases (hm d).1 h with h | ⟨h1, h2, h3⟩
        · exact Or.inl h
        · exact Or.inr ⟨h1, (hmt _).2 (Or.inl h2), h3⟩
      · rintro (h | ⟨h1, h2, h3⟩)
        · exact (hm d).2 (Or.inl h)
        · rcases (hmt _).1 h2 with h2 | h2
          · exact (hm d).2 (Or.inr ⟨h1, h2, h3⟩)
          · exact hin d h1 h2 h3
    cases he : memD done ⟨o.Event, y.getD i 0⟩
    · have he := memD_false.1 he
      simp only [Bool.not_false, cond_true]
      rw [has_eq l (by omega), bind_s]
      cases hel : memD l ⟨o.Event, y.getD i 0⟩
      · have hel := memD_false.1 hel
        simp only [Bool.not_false, cond_true]
        rw [put_eq l (by omega) _ hel, bind_s]
        have hlen := putD_len l ⟨o.Event, y.getD i 0⟩
        refine ⟨_, rfl, rfl, sd_putD hsd hel, by simp only; omega, fun d => ?_⟩
        rw [mem_putD, hm, hmt]
        constructor
        · rintro (rfl | h | ⟨h1, h2, h3⟩)
          · exact Or.inr ⟨rfl, Or.inr rfl, he⟩
          · exact Or.inl h
          · exact Or.inr ⟨h1, Or.inl h2, h3⟩
        · rintro (h | ⟨h1, h2 | h2, h3⟩)
          · exact Or.inr (Or.inl h)
          · exact Or.inr (Or.inr ⟨h1, h2, h3⟩)
          · exact Or.inl (debt_ext h1 h2)
      · have hel := memD_iff.1 hel
        simp only [Bool.not_true, cond_false]
        exact ⟨_, rfl, rfl, hsd, Nat.le_succ_of_le hl, stay rfl fun d h1 h2 _ => by rw [debt_ext (b := ⟨o.Event, y.getD i 0⟩) h1 h2]; exact hel⟩
    · have he := memD_iff.1 he
      simp only [Bool.not_true, cond_false]
      exact ⟨_, rfl, rfl, hsd, Nat.le_succ_of_le hl, stay rfl fun d h1 h2 h3 => by rw [debt_ext (b := ⟨o.Event, y.getD i 0⟩) h1 h2] at h3; exact absurd he h3⟩
  · obtain ⟨n, l⟩ := s
    obtain ⟨rfl, hsd, hl, hm⟩ := hs
    rw [List.take_length] at hm
    refine ⟨.inl l, ?_, l, rfl, hsd, hl, hm⟩
    unfold ref44_Open_L1
    simp only [Int.lt_irrefl, decide_false, cond_false]
theorem ref_open_spec (ev : List api_Event) (sent : List api_Sent) (he : ev.length ≤ 1000) (hs : sent.length ≤ 1000) (orders : List api_Order) (ho : orders.length ≤ 700) (done : List api_Debt) (hd : done.length ≤ 10000) :
    ∃ r, ref44_Open ev sent orders done = some r ∧ SD r ∧ ∀ d, d ∈ r ↔ OpenP ev sent orders d ∧ d ∉ done := by
  have key := loopF_inv (body := ref44_Open_L2 orders ev sent done) orders.length (fun i s => s.1 = (i : Int) ∧ SD s.2 ∧ s.2.length ≤ 12 * i ∧ ∀ d, d ∈ s.2 ↔ OpenP ev sent (orders.take i) d ∧ d ∉ done) (fun r => ∃ q, r = some (.inl q) ∧ SD q ∧ ∀ d, d ∈ q ↔ OpenP ev sent orders d ∧ d ∉ done) (fun i s hi hs' => ?_) (fun s hs' => ?_) (s0 := ((0 : Int), ([] : List api_Debt))) ⟨rfl, List.Pairwise.nil, Nat.le_refl _, fun d => by simp [OpenP]⟩
  · obtain ⟨q, h1, h2, h3⟩ := key
    refine ⟨q, ?_, h2, h3⟩
    unfold ref44_Open
    rw [h1, seqF_l]
  · obtain ⟨n, l⟩ := s
    obtain ⟨rfl, hsd, hl, hm⟩ := hs'
    have hl : l.length ≤ 12 * i := hl
    left
    have hlt : decide ((i : Int) < (orders.length : Int)) = true := decide_eq_true (by omega)
    have hw : IntKind.i64.wrap ((i : Int) + 1) = ((i + 1 : Nat) : Int) := by rw [wrap64 (by omega) (by omega)]; omega
    obtain ⟨y, hy, hL⟩ := ref_asked_spec ev sent he hs (orders.getD i o0).Event (orders.getD i o0).Step
    obtain ⟨r, h1, h0, h2, h3⟩ := ref_open_L1 y hL.len done hd orders (orders.getD i o0) ((i : Int), l) (getI_in o0 hi) l (by omega) hsd
    unfold ref44_Open_L2
    simp only [hlt, cond_true, getI_in o0 hi, bind_s, hw]
    rw [hy, bind_s, h1, seqF_l]
    refine ⟨_, rfl, rfl, h0, by simp only; omega, fun d => ?_⟩
    rw [h3, hm, openP_succ hi, hL.mem]
    constructor
    · rintro (⟨h, h'⟩ | ⟨k1, k2, k3⟩)
      · exact ⟨Or.inr h, h'⟩
      · exact ⟨Or.inl ⟨k1.symm, k2⟩, k3⟩
    · rintro ⟨⟨k1, k2⟩ | h, h'⟩
      · exact Or.inr ⟨k1.symm, k2, h'⟩
      · exact Or.inl ⟨h, h'⟩
  · obtain ⟨n, l⟩ := s
    obtain ⟨rfl, hsd, hl, hm⟩ := hs'
    rw [List.take_length] at hm
    refine ⟨.inl l, ?_, l, rfl, hsd, hm⟩
    unfold ref44_Open_L2
    simp only [Int.lt_irrefl, decide_false, cond_false]
/- lists compared with themselves -/
theorem all_true (n : Nat) : ((List.range n).all fun _ => true) = true := by
  rw [List.all_eq_true]
  exact fun _ _ => rfl
theorem ints_refl (a : List Int) (h : a.length ≤ 1000000) : ref44_Ints a a = some true := by
  have h := loopF_idx (body := ref44_Ints_L1 a a) a.length (fun _ => true) false (fun i hi => by
    have hlt : decide ((i : Int) < (a.length : Int)) = true := decide_eq_true (by omega)
    have hw : IntKind.i64.wrap ((i : Int) + 1) = (i : Int) + 1 := wrap64 (by omega) (by omega)
    have hn : (a.getD i 0 != a.getD i 0) = false := by simp
    unfold ref44_Ints_L1
    simp only [hlt, cond_true, getI_in (0 : Int) hi, bind_s, hw, hn, cond_false]) (by
    unfold ref44_Ints_L1
    simp only [Int.lt_irrefl, decide_false, cond_false])
  have hn : ((a.length : Int) != (a.length : Int)) = false := by simp
  unfold ref44_Ints
  rw [hn, cond_false, h, all_true]
  rfl
theorem same_refl (a : List api_Debt) (h : a.length ≤ 1000000) : ref44_Same a a = some true := by
  have h := loopF_idx (body := ref44_Same_L1 a a) a.length (fun _ => true) false (fun i hi => by
    have hlt : decide ((i : Int) < (a.length : Int)) = true := decide_eq_true (by omega)
    have hw : IntKind.i64.wrap ((i : Int) + 1) = (i : Int) + 1 := wrap64 (by omega) (by omega)
    unfold ref44_Same_L1
    simp only [hlt, cond_true, getI_in d0 hi, bind_s, hw, foldD, eqD_refl, Bool.not_true, cond_false]) (by
    unfold ref44_Same_L1
    simp only [Int.lt_irrefl, decide_false, cond_false])
  have hn : ((a.length : Int) != (a.length : Int)) = false := by simp
  unfold ref44_Same
  rw [hn, cond_false, h, all_true]
  rfl
/- the bounds -/
def fewB (ev : List api_Event) (sent : List api_Sent) (orders : List api_Order) (done : List api_Debt) : Bool := decide (ev.length ≤ 40) && (decide (sent.length ≤ 40) && (decide (orders.length ≤ 20) && decide (done.length ≤ 40)))
theorem few_eq (ev : List api_Event) (sent : List api_Sent) (orders : List api_Order) (done : List api_Debt) : ref44_Few ev sent orders done = some (fewB ev sent orders done) := by
  have e1 : decide ((ev.length : Int) ≤ 40) = decide (ev.length ≤ 40) := decide_eq_decide.2 (by omega)
  have e2 : decide ((sent.length : Int) ≤ 40) = decide (sent.length ≤ 40) := decide_eq_decide.2 (by omega)
  have e3 : decide ((orders.length : Int) ≤ 20) = decide (orders.length ≤ 20) := decide_eq_decide.2 (by omega)
  have e4 : decide ((done.length : Int) ≤ 40) = decide (done.length ≤ 40) := decide_eq_decide.2 (by omega)
  unfold ref44_Few fewB
  rw [e1, e2, e3, e4]
  cases decide (ev.length ≤ 40) <;> cases decide (sent.length ≤ 40) <;> cases decide (orders.length ≤ 20) <;> rfl
structure Few (ev : List api_Event) (sent : List api_Sent) (orders : List api_Order) (done : List api_Debt) : Prop where
  ev : ev.length ≤ 40
  sent : sent.length ≤ 40
  orders : orders.length ≤ 20
  done : done.length ≤ 40
theorem few_iff {ev : List api_Event} {sent : List api_Sent} {orders : List api_Order} {done : List api_Debt} (h : fewB ev sent orders done = true) : Few ev sent orders done := by
  unfold fewB at h
  simp only [Bool.and_eq_true, decide_eq_true_eq] at h
  exact ⟨h.1, h.2.1, h.2.2.1, h.2.2.2⟩
/- small examples -/
def mayB (ev : List api_Event) (sent : List api_Sent) (m step net : Int) : Bool := net == netS (ev.getD m.toNat e0).Author || (ev.any (fun x => editS m x && netS x.Author == net) || sent.any fun s => (decide (0 ≤ s.Net) && decide (s.Net < 12)) && (sentS ev m step s && s.Net == net))
theorem mayB_iff {ev : List api_Event} {sent : List api_Sent} {m step net : Int} : mayB ev sent m step net = true ↔ May ev sent m step net := by
  unfold mayB May
  simp only [Bool.or_eq_true, Bool.and_eq_true, beq_iff_eq, List.any_eq_true, decide_eq_true_eq]
def nets12 : List Int := [0, 1, 2, 3, 4, 5, 6, 7, 8, 9, 10, 11]
theorem mem_nets {x : Int} : x ∈ nets12 ↔ 0 ≤ x ∧ x < 12 := by
  unfold nets12
  simp only [List.mem_cons, List.not_mem_nil, or_false]
  omega
def askS (ev : List api_Event) (sent : List api_Sent) (m step : Int) : List Int := bif decide (0 ≤ m) && (decide (m < (ev.length : Int)) && (ev.getD m.toNat e0).Kind == 0) then nets12.filter (mayB ev sent m step) else []
theorem askS_L (ev : List api_Event) (sent : List api_Sent) (m step : Int) : AskL ev sent m step (askS ev sent m step) := by
  unfold askS
  cases hc : decide (0 ≤ m) && (decide (m < (ev.length : Int)) && (ev.getD m.toNat e0).Kind == 0)
  · refine ⟨List.Pairwise.nil, fun x => ⟨fun h => by simp at h, fun h => ?_⟩⟩
    obtain ⟨⟨h1, h2, h3⟩, _⟩ := h
    rw [decide_eq_true h1, decide_eq_true h2, h3] at hc
    cases hc
  · simp only [Bool.and_eq_true, decide_eq_true_eq, beq_iff_eq] at hc
    rw [cond_true]
    refine ⟨List.Pairwise.sublist List.filter_sublist (by unfold nets12; decide), fun x => ?_⟩
    rw [List.mem_filter, mem_nets, mayB_iff]
    unfold AskP
    exact ⟨fun h => ⟨hc, h.1.1, h.1.2, h.2⟩, fun h => ⟨⟨h.2.1, h.2.2.1⟩, h.2.2.2⟩⟩
theorem asked_S (ev : List api_Event) (sent : List api_Sent) (he : ev.length ≤ 1000) (hs : sent.length ≤ 1000) (m step : Int) : debt_Asked ev sent m step = some (askS ev sent m step) := by
  obtain ⟨r, h1, h2⟩ := asked_spec ev sent he hs m step
  rw [h1, h2.uniq (askS_L ev sent m step)]
theorem ref_asked_S (ev : List api_Event) (sent : List api_Sent) (he : ev.length ≤ 1000) (hs : sent.length ≤ 1000) (m step : Int) : ref44_Asked ev sent m step = some (askS ev sent m step) := by
  obtain ⟨r, h1, h2⟩ := ref_asked_spec ev sent he hs m step
  rw [h1, h2.uniq (askS_L ev sent m step)]
def smpE : List api_Event := [(api_Event.mk (1 : Int) (0 : Int) ([] : List Int) (0 : Int) (0 : Int) (-1 : Int) (-1 : Int) (0 : Int) (0 : Int) (ByteArray.mk #[]) ([] : List Int) (0 : Int)), (api_Event.mk (1 : Int) (0 : Int) ([] : List Int) (1 : Int) (0 : Int) (0 : Int) (-1 : Int) (0 : Int) (0 : Int) (ByteArray.mk #[]) ([] : List Int) (0 : Int)), (api_Event.mk (2 : Int) (0 : Int) ([] : List Int) (0 : Int) (0 : Int) (0 : Int) (-1 : Int) (0 : Int) (0 : Int) (ByteArray.mk #[]) ([] : List Int) (0 : Int))]
def smpS : List api_Sent := [(api_Sent.mk (0 : Int) (3 : Int) (5 : Int)), (api_Sent.mk (2 : Int) (4 : Int) (7 : Int)), (api_Sent.mk (1 : Int) (3 : Int) (9 : Int))]
theorem sample_eq : law44_sample = some (smpE, smpS) := rfl
theorem smp_asked (m step : Int) : debt_Asked smpE smpS m step = some (askS smpE smpS m step) := asked_S smpE smpS (by decide) (by decide) m step
theorem smp04 : askS smpE smpS 0 4 = [1] := by decide +kernel
theorem smp05 : askS smpE smpS 0 5 = [1, 3] := by decide +kernel
theorem smp07 : askS smpE smpS 0 7 = [1, 3, 4] := by decide +kernel
theorem smp29 : askS smpE smpS 2 9 = [2, 4] := by decide +kernel
theorem smp19 : askS smpE smpS 1 9 = [] := by decide +kernel
theorem smp_open : debt_Open smpE smpS [(api_Order.mk (0 : Int) (0 : Int) (0 : Int) (7 : Int))] [(api_Debt.mk (0 : Int) (3 : Int))] = some [(api_Debt.mk (0 : Int) (1 : Int)), (api_Debt.mk (0 : Int) (4 : Int))] := by
  obtain ⟨r, h1, h2, _, h3⟩ := open_spec smpE smpS (by decide) (by decide) [(api_Order.mk (0 : Int) (0 : Int) (0 : Int) (7 : Int))] (by decide) [(api_Debt.mk (0 : Int) (3 : Int))] (by decide)
  rw [h1]
  congr 1
  have hL := askS_L smpE smpS 0 7
  rw [smp07] at hL
  refine sd_uniq h2 (by unfold SD; decide) fun d => ?_
  rw [h3]
  unfold OpenP
  constructor
  · rintro ⟨⟨o, ho, e, h⟩, hd⟩
    rw [List.mem_singleton] at ho
    subst ho
    have hx := (hL.mem d.Net).2 h
    have e : (0 : Int) = d.Event := e
    simp only [List.mem_cons, List.not_mem_nil, or_false] at hx hd ⊢
    rcases hx with hx | hx | hx
    · exact Or.inl (debt_ext e.symm hx)
    · exact absurd (debt_ext e.symm hx) hd
    · exact Or.inr (debt_ext e.symm hx)
  · intro hd
    simp only [List.mem_cons, List.not_mem_nil, or_false] at hd
    rcases hd with rfl | rfl
    · exact ⟨⟨⟨0, 0, 0, 7⟩, List.mem_singleton_self _, rfl, (hL.mem 1).1 (by simp)⟩, by simp⟩
    · exact ⟨⟨⟨0, 0, 0, 7⟩, List.mem_singleton_self _, rfl, (hL.mem 4).1 (by simp)⟩, by simp⟩
theorem smp_add : addS [(api_Debt.mk (0 : Int) (1 : Int)), (api_Debt.mk (0 : Int) (4 : Int))] (api_Debt.mk (0 : Int) (3 : Int)) = ([(api_Debt.mk (0 : Int) (1 : Int)), (api_Debt.mk (0 : Int) (3 : Int)), (api_Debt.mk (0 : Int) (4 : Int))], 0) := by rfl
theorem smp_conf : confS [(api_Debt.mk (0 : Int) (1 : Int)), (api_Debt.mk (0 : Int) (3 : Int)), (api_Debt.mk (0 : Int) (4 : Int))] (api_Debt.mk (0 : Int) (3 : Int)) = ([(api_Debt.mk (0 : Int) (1 : Int)), (api_Debt.mk (0 : Int) (4 : Int))], 0) := by rfl
theorem smp_none : confS [(api_Debt.mk (0 : Int) (1 : Int)), (api_Debt.mk (0 : Int) (4 : Int))] (api_Debt.mk (0 : Int) (3 : Int)) = ([], 4) := by rfl
theorem small_true : law44_small = some true := by
  unfold law44_small
  rw [sample_eq, bind_s]
  simp only [smp_asked, smp04, smp05, smp07, smp29, smp19, bind_s]
  rw [ints_refl _ (by decide), bind_s, cond_true, ints_refl _ (by decide), bind_s, cond_true, ints_refl _ (by decide), bind_s, seqF_l, ints_refl _ (by decide), bind_s, cond_true, seqF_l]
  rw [smp_open, bind_s, add_eq' _ (by decide), bind_s, smp_add, conf_eq _ (by decide), bind_s, smp_conf, conf_eq _ (by decide), bind_s, smp_none]
  simp only [same_refl _ (show ([(api_Debt.mk (0 : Int) (1 : Int)), (api_Debt.mk (0 : Int) (4 : Int))] : List api_Debt).length ≤ 1000000 by decide), same_refl _ (show ([(api_Debt.mk (0 : Int) (1 : Int)), (api_Debt.mk (0 : Int) (3 : Int)), (api_Debt.mk (0 : Int) (4 : Int))] : List api_Debt).length ≤ 1000000 by decide), bind_s]
  rfl
end Go.Proofs.Ytomfmjejoocmmaa

/-
  Which networks may have a message, and which debts are open: the program and the reference (plain law of layer 44).
-/
import Derived.Test.YtomfmjejoocmmaaP3
namespace Go.Proofs.Ytomfmjejoocmmaa
open Go.RowKit
def e0 : api_Event := ⟨0, 0, [], 0, 0, 0, 0, 0, 0, ByteArray.mk #[], [], 0⟩
def s0 : api_Sent := ⟨0, 0, 0⟩
def o0 : api_Order := ⟨0, 0, 0, 0⟩
/-- the network of an account -/
def netS (a : Int) : Int := bif decide (0 ≤ a) && decide (a < 2000) then Int.tmod a 12 else -1
theorem netS_range (a : Int) : -1 ≤ netS a ∧ netS a ≤ 11 := by
  unfold netS
  by_cases h : 0 ≤ a
  · by_cases h2 : a < 2000
    · rw [decide_eq_true h, decide_eq_true h2, Bool.and_self, cond_true, Int.tmod_eq_emod_of_nonneg h]
      omega
    · rw [decide_eq_false h2, Bool.and_false]
      simp
  · rw [decide_eq_false h]
    simp
theorem net_eq (a : Int) : event_Net a = some (netS a) := by
  unfold event_Net event_below netS
  cases decide ((0 : Int) ≤ a)
  · rfl
  · cases decide (a < (2000 : Int)) <;> rfl
theorem ref_net_eq (a : Int) : ref14_Net a = some (netS a) := by
  unfold ref14_Net netS
  rw [lt_not_le a 0]
  have e : decide ((1999 : Int) < a) = !decide (a < 2000) := by
    apply bool_ext
    rw [Bool.not_eq_true', decide_eq_true_iff, decide_eq_false_iff_not]
    omega
  rw [e]
  cases decide ((0 : Int) ≤ a)
  · rfl
  · cases decide (a < (2000 : Int)) <;> rfl
/-- an event is about a message -/
def aboutS (ev : List api_Event) (id m : Int) : Bool := !decide (id < 0) && (!decide ((ev.length : Int) ≤ id) && (id == m || ((ev.getD id.toNat e0).Target == m || (ev.getD id.toNat e0).Quote == m)))
theorem about_at {ev : List api_Event} {id : Int} (h1 : ¬ id < 0) (h2 : ¬ (ev.length : Int) ≤ id) : getI ev id = some (ev.getD id.toNat e0) := by
  rw [getI_of (by omega), List.getElem?_eq_getElem (by omega), List.getD_eq_getElem?_getD, List.getElem?_eq_getElem (by omega)]
  rfl
theorem about_eq (ev : List api_Event) (id m : Int) : debt_about ev id m = some (aboutS ev id m) ∧ ref44_about ev id m = some (aboutS ev id m) := by
  unfold debt_about ref44_about aboutS
  by_cases h1 : id < 0
  · rw [decide_eq_true h1]
    exact ⟨rfl, rfl⟩
  · by_cases h2 : (ev.length : Int) ≤ id
    · rw [decide_eq_false h1, decide_eq_true h2]
      exact ⟨rfl, rfl⟩
    · rw [decide_eq_false h1, decide_eq_false h2, about_at h1 h2]
      simp only [cond_false, Bool.not_false, Bool.true_and, bind_s]
      cases id == m
      · cases (ev.getD id.toNat e0).Target == m
        · exact ⟨rfl, rfl⟩
        · exact ⟨rfl, rfl⟩
      · exact ⟨rfl, rfl⟩
/-- an edit of a message -/
def editS (m : Int) (x : api_Event) : Bool := x.Kind == 1 && x.Target == m
/-- what was sent of a message -/
def sentS (ev : List api_Event) (m step : Int) (s : api_Sent) : Bool := decide (s.Step ≤ step) && aboutS ev s.Event m
/-- a network may have a message -/
def May (ev : List api_Event) (sent : List api_Sent) (m step net : Int) : Prop :=
  net = netS (ev.getD m.toNat e0).Author ∨ (∃ x ∈ ev, editS m x = true ∧ netS x.Author = net) ∨ ∃ s ∈ sent, (0 ≤ s.Net ∧ s.Net < 12) ∧ sentS ev m step s = true ∧ s.Net = net
theorem mput_keys (k : Int) (b : Bool) : ∀ (l : List (Int × Bool)), (l.map Prod.fst).Nodup → ((mputT k b l).map Prod.fst).Nodup ∧ ∀ x, x ∈ (mputT k b l).map Prod.fst ↔ x = k ∨ x ∈ l.map Prod.fst
  | [], _ => by simp [mputT]
  | p :: l, h => by
    rw [List.map_cons, List.nodup_cons] at h
    obtain ⟨h1, h2⟩ := mput_keys k b l h.2
    rw [mputT]
    cases hk : k == p.1
    · simp only [cond_false, List.map_cons, List.nodup_cons, List.mem_cons, h2]
      have hne : k ≠ p.1 := by simpa using hk
      refine ⟨⟨fun hc => ?_, h1⟩, fun x => ⟨fun h => ?_, fun h => ?_⟩⟩
      · rcases hc with hc | hc
        · exact hne hc.symm
        · exact h.1 hc
      · rcases h with h | h | h
        · exact Or.inr (Or.inl h)
        · exact Or.inl h
        · exact Or.inr (Or.inr h)
      · rcases h with h | h | h
        · exact Or.inr (Or.inl h)
        · exact Or.inl h
        · exact Or.inr (Or.inr h)
    · have he : k = p.1 := by simpa using hk
      simp only [cond_true, List.map_cons, List.nodup_cons, List.mem_cons]
      rw [he]
      exact ⟨h, fun x => ⟨fun h => Or.inr h, fun h => by rcases h with h | h; exact Or.inl h; exact h⟩⟩
theorem mdel_keys (k : Int) : ∀ (l : List (Int × Bool)), (l.map Prod.fst).Nodup → ((mdelT k l).map Prod.fst).Nodup ∧ ∀ x, x ∈ (mdelT k l).map Prod.fst ↔ x ≠ k ∧ x ∈ l.map Prod.fst
  | [], _ => by simp [mdelT]
  | p :: l, h => by
    rw [List.map_cons, List.nodup_cons] at h
    obtain ⟨h1, h2⟩ := mdel_keys k l h.2
    rw [mdelT]
    cases hk : k == p.1
    · have hne : k ≠ p.1 := by simpa using hk
      simp only [cond_false, List.map_cons, List.nodup_cons, List.mem_cons, h2]
      refine ⟨⟨fun hc => h.1 hc.2, h1⟩, fun x => ⟨fun h => ?_, fun h => ?_⟩⟩
      · rcases h with h | h
        · exact ⟨fun e => hne (e.symm.trans h), Or.inl h⟩
        · exact ⟨h.1, Or.inr h.2⟩
      · rcases h with ⟨h3, h4 | h4⟩
        · exact Or.inl h4
        · exact Or.inr ⟨h3, h4⟩
    · have he : k = p.1 := by simpa using hk
      simp only [cond_true, List.map_cons, List.mem_cons]
      rw [he]
      refine ⟨h.2, fun x => ⟨fun hx => ⟨fun e => h.1 (e ▸ hx), Or.inr hx⟩, fun hx => ?_⟩⟩
      rcases hx with ⟨h3, h4 | h4⟩
      · exact absurd h4 h3
      · exact h4
/-- the keys of the map: each once, between -1 and 11 -/
structure Keys (l : List (Int × Bool)) (P : Int → Prop) : Prop where
  nd : (l.map Prod.fst).Nodup
  mem : ∀ x, x ∈ l.map Prod.fst ↔ P x
theorem Keys.put {l : List (Int × Bool)} {P Q : Int → Prop} (h : Keys l P) (k : Int) (hQ : ∀ x, Q x ↔ x = k ∨ P x) : Keys (mputT k true l) Q := by
  obtain ⟨h1, h2⟩ := mput_keys k true l h.nd
  exact ⟨h1, fun x => by rw [h2, hQ, h.mem]⟩
theorem Keys.same {l : List (Int × Bool)} {P Q : Int → Prop} (h : Keys l P) (hQ : ∀ x, Q x ↔ P x) : Keys l Q := ⟨h.nd, fun x => by rw [h.mem, hQ]⟩
theorem mem_take_succ {A : Type} {l : List A} {d : A} {i : Nat} (hi : i < l.length) (Q : A → Prop) : (∃ x ∈ l.take (i + 1), Q x) ↔ Q (l.getD i d) ∨ ∃ x ∈ l.take i, Q x := by
  rw [take_succ_getD l d hi]
  constructor
  · rintro ⟨x, hx, hq⟩
    rcases List.mem_append.1 hx with hx | hx
    · exact Or.inr ⟨x, hx, hq⟩
    · rw [List.mem_singleton.1 hx] at hq
      exact Or.inl hq
  · rintro (hq | ⟨x, hx, hq⟩)
    · exact ⟨_, by simp, hq⟩
    · exact ⟨x, by simp [hx], hq⟩
theorem asked_L1 (ev : List api_Event) (he : ev.length ≤ 1000) (m : Int) (l0 : List (Int × Bool)) (P : Int → Prop) (h0 : Keys l0 P) :
    ∃ l, loopF (debt_Asked_L1 ev m) ((0 : Int), l0) = some (.inl l) ∧ Keys l fun x => P x ∨ ∃ y ∈ ev, editS m y = true ∧ netS y.Author = x := by
  refine loopF_inv (body := debt_Asked_L1 ev m) ev.length (fun i s => s.1 = (i : Int) ∧ Keys s.2 fun x => P x ∨ ∃ y ∈ ev.take i, editS m y = true ∧ netS y.Author = x) (fun r => ∃ l, r = some (.inl l) ∧ Keys l fun x => P x ∨ ∃ y ∈ ev, editS m y = true ∧ netS y.Author = x) (fun i s hi hs => ?_) (fun s hs => ?_) ⟨rfl, h0.same fun x => by simp⟩
  · obtain ⟨n, l⟩ := s
    obtain ⟨rfl, hk⟩ := hs
    left
    have hlt : decide ((i : Int) < (ev.length : Int)) = true := decide_eq_true (by omega)
    have hw : IntKind.i64.wrap ((i : Int) + 1) = ((i + 1 : Nat) : Int) := by rw [wrap64 (by omega) (by omega)]; omega
    unfold debt_Asked_L1
    simp only [hlt, cond_true, getI_in e0 hi, bind_s, hw, net_eq]
    cases h1 : editS m (ev.getD i e0)
    · have hs : Keys l fun x => P x ∨ ∃ y ∈ ev.take (i + 1), editS m y = true ∧ netS y.Author = x := hk.same fun x => by
        rw [mem_take_succ hi (d := e0) (Q := fun y => editS m y = true ∧ netS y.Author = x), h1]
        simp
      unfold editS at h1
      cases h2 : (ev.getD i e0).Kind == 1
      · exact ⟨_, rfl, rfl, hs⟩
      · rw [h2, Bool.true_and] at h1
        rw [h1]
        exact ⟨_, rfl, rfl, hs⟩
    · have hs : Keys (mputT (netS (ev.getD i e0).Author) true l) fun x => P x ∨ ∃ y ∈ ev.take (i + 1), editS m y = true ∧ netS y.Author = x := hk.put _ fun x => by
        rw [mem_take_succ hi (d := e0) (Q := fun y => editS m y = true ∧ netS y.Author = x), h1]
        constructor
        · rintro (h | ⟨_, h⟩ | h)
          · exact Or.inr (Or.inl h)
          · exact Or.inl h.symm
          · exact Or.inr (Or.inr h)
        · rintro (h | h | h)
          · exact Or.inr (Or.inl ⟨rfl, h.symm⟩)
          · exact Or.inl h
          · exact Or.inr (Or.inr h)
      unfold editS at h1
      rw [Bool.and_eq_true] at h1
      rw [h1.1, h1.2]
      exact ⟨_, rfl, rfl, hs⟩
  · obtain ⟨n, l⟩ := s
    obtain ⟨rfl, hk⟩ := hs
    rw [List.take_length] at hk
    refine ⟨.inl l, ?_, l, rfl, hk⟩
    unfold debt_Asked_L1
    simp only [Int.lt_irrefl, decide_false, cond_false]
theorem asked_L2 (ev : List api_Event) (sent : List api_Sent) (he : sent.length ≤ 1000) (m step : Int) (l0 : List (Int × Bool)) (P : Int → Prop) (h0 : Keys l0 P) :
    ∃ l, loopF (debt_Asked_L2 sent step ev m) ((0 : Int), l0) = some (.inl l) ∧ Keys l fun x => P x ∨ ∃ s ∈ sent, (0 ≤ s.Net ∧ s.Net < 12) ∧ sentS ev m step s = true ∧ s.Net = x := by
  refine loopF_inv (body := debt_Asked_L2 sent step ev m) sent.length (fun i s => s.1 = (i : Int) ∧ Keys s.2 fun x => P x ∨ ∃ y ∈ sent.take i, (0 ≤ y.Net ∧ y.Net < 12) ∧ sentS ev m step y = true ∧ y.Net = x) (fun r => ∃ l, r = some (.inl l) ∧ Keys l fun x => P x ∨ ∃ s ∈ sent, (0 ≤ s.Net ∧ s.Net < 12) ∧ sentS ev m step s = true ∧ s.Net = x) (fun i s hi hs => ?_) (fun s hs => ?_) ⟨rfl, h0.same fun x => by simp⟩
  · obtain ⟨n, l⟩ := s
    obtain ⟨rfl, hk⟩ := hs
    left
    have hlt : decide ((i : Int) < (sent.length : Int)) = true := decide_eq_true (by omega)
    have hw : IntKind.i64.wrap ((i : Int) + 1) = ((i + 1 : Nat) : Int) := by rw [wrap64 (by omega) (by omega)]; omega
    have no : ¬ ((0 ≤ (sent.getD i s0).Net ∧ (sent.getD i s0).Net < 12) ∧ sentS ev m step (sent.getD i s0) = true) → Keys l fun x => P x ∨ ∃ y ∈ sent.take (i + 1), (0 ≤ y.Net ∧ y.Net < 12) ∧ sentS ev m step y = true ∧ y.Net = x := fun h => hk.same fun x => by
      rw [mem_take_succ hi (d := s0) (Q := fun y => (0 ≤ y.Net ∧ y.Net < 12) ∧ sentS ev m step y = true ∧ y.Net = x)]
      constructor
      · rintro (h1 | h1 | h1)
        · exact Or.inl h1
        · exact absurd ⟨h1.1, h1.2.1⟩ h
        · exact Or.inr h1
      · rintro (h1 | h1)
        · exact Or.inl h1
        · exact Or.inr (Or.inr h1)
    have yes : (0 ≤ (sent.getD i s0).Net ∧ (sent.getD i s0).Net < 12) → sentS ev m step (sent.getD i s0) = true → Keys (mputT (sent.getD i s0).Net true l) fun x => P x ∨ ∃ y ∈ sent.take (i + 1), (0 ≤ y.Net ∧ y.Net < 12) ∧ sentS ev m step y = true ∧ y.Net = x := fun h h' => hk.put _ fun x => by
      rw [mem_take_succ hi (d := s0) (Q := fun y => (0 ≤ y.Net ∧ y.Net < 12) ∧ sentS ev m step y = true ∧ y.Net = x)]
      constructor
      · rintro (h1 | h1 | h1)
        · exact Or.inr (Or.inl h1)
        · exact Or.inl h1.2.2.symm
        · exact Or.inr (Or.inr h1)
      · rintro (h1 | h1 | h1)
        · exact Or.inr (Or.inl ⟨h, h', h1.symm⟩)
        · exact Or.inl h1
        · exact Or.inr (Or.inr h1)
    unfold debt_Asked_L2
    simp only [hlt, cond_true, getI_in s0 hi, bind_s, hw, network_eq, (about_eq ev _ m).1]
    unfold sentS at no yes
    by_cases h1 : (sent.getD i s0).Step ≤ step
    · rw [decide_eq_true h1] at no yes ⊢
      by_cases h2 : 0 ≤ (sent.getD i s0).Net
      · by_cases h3 : (sent.getD i s0).Net < 12
        · rw [decide_eq_true h2, decide_eq_true h3]
          simp only [cond_true, Bool.and_self]
          cases h4 : aboutS ev (sent.getD i s0).Event m
          · rw [h4] at no
            exact ⟨_, rfl, rfl, no (by simp)⟩
          · rw [h4] at yes
            exact ⟨_, rfl, rfl, yes ⟨h2, h3⟩ rfl⟩
        · rw [decide_eq_false h3, Bool.and_false]
          exact ⟨_, rfl, rfl, no fun h => h3 h.1.2⟩
      · rw [decide_eq_false h2]
        exact ⟨_, rfl, rfl, no fun h => h2 h.1.1⟩
    · rw [decide_eq_false h1] at no ⊢
      exact ⟨_, rfl, rfl, no fun h => by cases h.2⟩
  · obtain ⟨n, l⟩ := s
    obtain ⟨rfl, hk⟩ := hs
    rw [List.take_length] at hk
    refine ⟨.inl l, ?_, l, rfl, hk⟩
    unfold debt_Asked_L2
    simp only [Int.lt_irrefl, decide_false, cond_false]
theorem nodup_len : ∀ (n : Nat) (l : List Int), l.Nodup → (∀ x ∈ l, 0 ≤ x ∧ x < (n : Int)) → l.length ≤ n
  | 0, l, _, h => by
    cases l with
    | nil => exact Nat.le_refl _
    | cons x l =>
      have := h x (by simp)
      omega
  | n + 1, l, hn, h => by
    have ih := nodup_len n (l.filter fun x => !(x == (n : Int))) (hn.sublist List.filter_sublist) fun x hx => by
      obtain ⟨h1, h2⟩ := List.mem_filter.1 hx
      have := h x h1
      have h3 : x ≠ (n : Int) := by simpa using h2
      omega
    have hp := (List.filter_append_perm (fun x => x == (n : Int)) l).length_eq
    rw [List.length_append] at hp
    have h1 : (l.filter fun x => x == (n : Int)).length ≤ 1 := by
      have hnf : (l.filter fun x => x == (n : Int)).Nodup := hn.sublist List.filter_sublist
      have hall : ∀ x ∈ l.filter (fun x => x == (n : Int)), x = (n : Int) := fun x hx => by simpa using (List.mem_filter.1 hx).2
      generalize l.filter (fun x => x == (n : Int)) = q at hnf hall
      match q, hnf, hall with
      | [], _, _ => simp
      | [a], _, _ => simp
      | a :: b :: q, hnf, hall =>
        have ha := hall a (by simp)
        have hb := hall b (by simp)
        have := (List.nodup_cons.1 hnf).1
        exact absurd (by rw [ha, hb]; simp) this
    omega
/-- the networks that may have a message, by the program -/
theorem asked_eq (ev : List api_Event) (sent : List api_Sent) (he : ev.length ≤ 1000) (hs : sent.length ≤ 1000) (m step : Int) :
    ∃ r, debt_Asked ev sent m step = some r ∧ (r.Pairwise fun a b => a < b) ∧ ∀ x, x ∈ r ↔ (0 ≤ m ∧ m < (ev.length : Int) ∧ (ev.getD m.toNat e0).Kind = 0) ∧ 0 ≤ x ∧ x < 12 ∧ May ev sent m step x := by
  unfold debt_Asked
  by_cases h1 : m < 0
  · rw [decide_eq_true h1]
    exact ⟨[], rfl, List.Pairwise.nil, fun x => by simp; omega⟩
  · by_cases h2 : (ev.length : Int) ≤ m
    · rw [decide_eq_false h1, decide_eq_true h2]
      exact ⟨[], rfl, List.Pairwise.nil, fun x => by simp; omega⟩
    · rw [decide_eq_false h1, decide_eq_false h2, about_at h1 h2]
      simp only [cond_false, bind_s]
      cases h3 : (ev.getD m.toNat e0).Kind != 0
      · have h3 : (ev.getD m.toNat e0).Kind = 0 := by simpa using h3
        simp only [cond_false]
        rw [net_eq, bind_s]
        have k0 : Keys (mputT (netS (ev.getD m.toNat e0).Author) true ([] : List (Int × Bool))) fun x => x = netS (ev.getD m.toNat e0).Author := ⟨by simp [mputT], fun x => by simp [mputT]⟩
        obtain ⟨l1, q1, k1⟩ := asked_L1 ev he m _ _ k0
        obtain ⟨l2, q2, k2⟩ := asked_L2 ev sent hs m step l1 _ k1
        obtain ⟨d1, d2⟩ := mdel_keys (-1) l2 k2.nd
        have hrange : ∀ x, x ∈ (mdelT (-1) l2).map Prod.fst ↔ 0 ≤ x ∧ x < 12 ∧ May ev sent m step x := by
          intro x
          rw [d2, k2.mem]
          unfold May
          constructor
          · rintro ⟨hne, (h | ⟨y, hy, hy2, h⟩) | ⟨s, hs1, hs2, hs3, h⟩⟩
            · have := netS_range (ev.getD m.toNat e0).Author
              exact ⟨by omega, by omega, Or.inl h⟩
            · have := netS_range y.Author
              exact ⟨by omega, by omega, Or.inr (Or.inl ⟨y, hy, hy2, h⟩)⟩
            · exact ⟨by omega, by omega, Or.inr (Or.inr ⟨s, hs1, hs2, hs3, h⟩)⟩
          · rintro ⟨h4, h5, h | h | h⟩
            · exact ⟨by omega, Or.inl (Or.inl h)⟩
            · exact ⟨by omega, Or.inl (Or.inr h)⟩
            · exact ⟨by omega, Or.inr h⟩
        have hlen : ((mdelT (-1) l2).map Prod.fst).length ≤ 12 := nodup_len 12 _ d1 fun x hx => by
          have := (hrange x).1 hx
          exact ⟨this.1, this.2.1⟩
        rw [q1, seqF_l, q2, seqF_l]
        have hc : (decide (((mdelT (-1) l2).map Prod.fst).length ≤ 1000000) && ((mdelT (-1) l2).map Prod.fst).all fun k => decide (-9223372036854775808 ≤ k) && decide (k ≤ 9223372036854775807)) = true := by
          rw [Bool.and_eq_true, List.all_eq_true]
          refine ⟨decide_eq_true (by omega), fun k hk => ?_⟩
          have := (hrange k).1 hk
          rw [Bool.and_eq_true, decide_eq_true_eq, decide_eq_true_eq]
          omega
        have hq : sortedK ((mdelT (-1) l2).map Prod.fst) = some (((mdelT (-1) l2).map Prod.fst).mergeSort fun x y => decide (x ≤ y)) := by
          unfold sortedK
          rw [hc, chkO_true]
        rw [hq, bind_s]
        refine ⟨_, rfl, ?_, fun x => ?_⟩
        · have h1 := List.pairwise_mergeSort (le := fun (x y : Int) => decide (x ≤ y)) (fun a b c h1 h2 => by have := of_decide_eq_true h1; have := of_decide_eq_true h2; exact decide_eq_true (by omega)) (fun a b => by
            by_cases h : a ≤ b
            · simp [h]
            · simp [show b ≤ a by omega]) ((mdelT (-1) l2).map Prod.fst)
          have h2 : (((mdelT (-1) l2).map Prod.fst).mergeSort fun x y => decide (x ≤ y)).Nodup := (List.mergeSort_perm _ _).nodup_iff.2 d1
          refine (h1.and h2).imp fun {a b} h => ?_
          have h3 := of_decide_eq_true h.1
          have h4 := h.2
          omega
        · rw [(List.mergeSort_perm _ _).mem_iff, hrange]
          constructor
          · exact fun h => ⟨⟨by omega, by omega, h3⟩, h⟩
          · exact fun h => h.2
      · refine ⟨[], rfl, List.Pairwise.nil, fun x => ?_⟩
        have h3 : (ev.getD m.toNat e0).Kind ≠ 0 := by simpa using h3
        constructor
        · intro h; simp at h
        · rintro ⟨⟨_, _, h⟩, _⟩
          exact absurd h h3
end Go.Proofs.Ytomfmjejoocmmaa

/-
  The law ForthLocal answers true, as plain Lean.
-/
import Derived.Test.YtljdbikodogeiaaDoorB8
import Derived.Test.YtljdbikodogeiaaDoorH3
namespace Go.Proofs.YtljdbikodogeiaaDoor
open Go.RowKit
theorem ne_ways (p : api_Profile) (a b : List api_Event) (bad : List Int) : (netOf p b bad).ways = (netOf p a bad).ways := rfl
theorem all_ag {p : api_Profile} {bad : List Int} {a b : List api_Event} {k : Nat} (h : Ag a b k) {id : Int} (hid : id.toNat ≠ k) (ht : 0 ≤ (a.getD id.toNat e0).Target → (a.getD id.toNat e0).Target.toNat ≠ k) (hq : 0 ≤ (a.getD id.toNat e0).Quote → (a.getD id.toNat e0).Quote.toNat ≠ k)
    (hn : (a.getD id.toNat e0).Kind ≠ 0 → 0 ≤ (a.getD id.toNat e0).Target → (a.getD id.toNat e0).Target < (a.length : Int) → (0 ≤ (a.getD (a.getD id.toNat e0).Target.toNat e0).Target → (a.getD (a.getD id.toNat e0).Target.toNat e0).Target.toNat ≠ k) ∧ (0 ≤ (a.getD (a.getD id.toNat e0).Target.toNat e0).Quote → (a.getD (a.getD id.toNat e0).Target.toNat e0).Quote.toNat ≠ k)) :
    allS (netOf p b bad) id = allS (netOf p a bad) id := by
  have hact : actB b id = actB a id := by
    unfold actB
    rw [h.eq _ hid, h.msg]
    cases hm : msgB a (a.getD id.toNat e0).Target id
    · simp only [Bool.false_and]
    · rw [h.eq _ (ht (msg_range hm).1)]
  unfold allS
  rw [ne_ev, ne_ev, h.eq _ hid, hact]
  cases hk : (a.getD id.toNat e0).Kind == 0
  · simp only [cond_false]
    cases ha : actB a id
    · simp only [Bool.not_false, cond_true]
    · simp only [Bool.not_true, cond_false]
      obtain ⟨t1, _, t2, _⟩ := act_target ha
      have hk0 : (a.getD id.toNat e0).Kind ≠ 0 := by simpa using hk
      obtain ⟨m1, m2⟩ := hn hk0 t1 t2
      have hT := ht t1
      have hfirst := h.first (p := p) (bad := bad) hT (fun hm => m1 (msg_range hm).1) (fun hm => m2 (msg_range hm).1)
      have hwords := h.words (p := p) (bad := bad) hT (fun hm => m1 (msg_range hm).1) (fun hm => m2 (msg_range hm).1)
      have hline := h.line (p := p) (bad := bad) hT
      have hplace := h.place (p := p) (bad := bad) (a.getD id.toNat e0).Target
      have heach : ∀ kind texts, eachS (netOf p b bad) id kind texts = eachS (netOf p a bad) id kind texts := fun kind texts => by
        unfold eachS
        rw [ne_ev, ne_ev, h.eq _ hid, hfirst]
      have hedit : editS (netOf p b bad) id = editS (netOf p a bad) id := by
        unfold editS editText
        rw [ne_ev, ne_ev, ne_p, ne_p, ne_bad, ne_bad, h.eq _ hid, ne_same p a b, hfirst, hwords, heach, hline, hplace, ne_post p a b]
      have hremove : removeS (netOf p b bad) id = removeS (netOf p a bad) id := by
        unfold removeS
        rw [ne_ev, ne_ev, ne_ways p a b, h.eq _ hid, ne_same p a b, heach, heach, hplace, ne_post p a b]
      have hreact : reactS (netOf p b bad) id = reactS (netOf p a bad) id := by
        unfold reactS reactText reactKind
        rw [ne_ev, ne_ev, h.eq _ hid, ne_same p a b, hplace, ne_post p a b]
      rw [hedit, hremove, hreact]
  · simp only [cond_true]
    exact h.first hid (fun hm => ht (msg_range hm).1) (fun hm => hq (msg_range hm).1)
theorem set_getD (a : List api_Event) (k : Nat) (hk : k < a.length) (x : api_Event) (j : Nat) : (a.set k x).getD j e0 = if j = k then x else a.getD j e0 := by
  rw [List.getD_eq_getElem?_getD, List.getD_eq_getElem?_getD, List.getElem?_set]
  by_cases h : k = j
  · subst h
    simp [hk]
  · rw [if_neg h, if_neg (Ne.symm h)]
theorem ag_set (a : List api_Event) (k : Nat) (hk : k < a.length) (text : ByteArray) (files : List Int) :
    Ag a (a.set k ⟨(a.getD k e0).Author, (a.getD k e0).Seq, (a.getD k e0).Causes, (a.getD k e0).Kind, (a.getD k e0).Group, (a.getD k e0).Target, (a.getD k e0).Quote, (a.getD k e0).Who, (a.getD k e0).N, text, files, (a.getD k e0).Step⟩) k := by
  refine ⟨List.length_set, fun j hj => ?_, fun j => ?_, fun j => ?_⟩
  · rw [set_getD a k hk, if_neg hj]
  · rw [set_getD a k hk]
    by_cases h : j = k
    · rw [if_pos h, h]
    · rw [if_neg h]
  · rw [set_getD a k hk]
    by_cases h : j = k
    · rw [if_pos h, h]
    · rw [if_neg h]
theorem getD_mem (l : List api_Item) (i : Nat) (hi : i < l.length) : l.getD i i0 ∈ l := by
  rw [List.getD_eq_getElem?_getD, List.getElem?_eq_getElem hi]
  exact List.getElem_mem hi
theorem files_len {n : forth_network} (h : NetOk n) {id : Int} (h1 : 0 ≤ id) (h2 : id < (n.events.length : Int)) : (allS n id).length ≤ 1000000 ∧ ∀ x ∈ allS n id, x.Files.length ≤ 1000000 := by
  have hpp := h.parts
  have hm := ev_mem h1 h2
  have hxf := h.files _ hm
  have hsl := shown_len n.p.Files n.bad (n.events.getD id.toNat e0).Files []
  have hsh : (shownS n.p.Files n.bad (n.events.getD id.toNat e0).Files).length ≤ 1000000 := by
    unfold shownS
    simp only [List.length_nil] at hsl
    omega
  have up : ∀ (f : api_Item → api_Item) (l : List api_Item), (∀ x ∈ l, x.Files.length ≤ 1000000) → (∀ x : api_Item, x.Files.length ≤ 1000000 → (f x).Files.length ≤ 1000000) → ∀ x ∈ upd0 f l, x.Files.length ≤ 1000000 := by
    intro f l hl hf x hx
    cases l with
    | nil => simp [upd0] at hx
    | cons y r =>
      rcases List.mem_cons.1 hx with rfl | hx
      · exact hf y (hl y (by simp))
      · exact hl x (by simp [hx])
  have it : ∀ kind texts, ∀ x ∈ itemsS id kind texts, x.Files.length ≤ 1000000 := by
    intro kind texts x hx
    obtain ⟨i, _, rfl⟩ := List.mem_map.1 hx
    exact Nat.zero_le _
  have po : ∀ s on, ∀ x ∈ postS n id s on, x.Files.length ≤ 1000000 := fun s on => up _ _ (it _ _) fun x hx => hx
  have ea : ∀ kind texts, ∀ x ∈ eachS n id kind texts, x.Files.length ≤ 1000000 := by
    intro kind texts x hx
    obtain ⟨i, hi, rfl⟩ := List.mem_map.1 hx
    have hi := List.mem_range.1 hi
    have q := it kind _ _ (getD_mem (itemsS id kind (allT (firstS' n (n.events.getD id.toNat e0).Target).length texts)) i hi)
    exact q
  have fl := first_len h id
  have fl2 := first_len h (n.events.getD id.toNat e0).Target
  have pl := fun s on => post_len h id s on
  have el : ∀ kind texts, (eachS n id kind texts).length ≤ 1000000 := fun kind texts => by rw [each_len]; omega
  have pl' : ∀ s on, (postS n id s on).length ≤ 1000000 := fun s on => by have := pl s on; omega
  have re : (reactS n id).length ≤ 1000000 ∧ ∀ x ∈ reactS n id, x.Files.length ≤ 1000000 := by
    unfold reactS
    cases sameB n 4
    · exact ⟨pl' _ _, po _ _⟩
    · refine ⟨by simp, fun x hx => ?_⟩
      rw [cond_true, List.mem_singleton] at hx
      rw [hx]
      exact Nat.zero_le _
  unfold allS
  cases (n.events.getD id.toNat e0).Kind == 0
  · cases actB n.events id
    · exact ⟨Nat.zero_le _, fun x hx => by simp at hx⟩
    · cases (n.events.getD id.toNat e0).Kind == 1
      · cases (n.events.getD id.toNat e0).Kind == 2
        · cases (n.events.getD id.toNat e0).Kind == 3
          · cases (n.events.getD id.toNat e0).Kind == 4
            · exact ⟨Nat.zero_le _, fun x hx => by simp at hx⟩
            · exact re
          · exact re
        · show (removeS n id).length ≤ _ ∧ ∀ x ∈ removeS n id, _
          unfold removeS
          cases sameB n 3
          · cases (n.ways.getD 3 w0).How == 2
            · exact ⟨pl' _ _, po _ _⟩
            · exact ⟨el _ _, ea _ _⟩
          · exact ⟨el _ _, ea _ _⟩
      · show (editS n id).length ≤ _ ∧ ∀ x ∈ editS n id, _
        unfold editS
        cases sameB n 2
        · exact ⟨pl' _ _, po _ _⟩
        · refine ⟨?_, ?_⟩
          · rw [cond_true, upd0_len]
            exact el _ _
          · exact up _ _ (ea _ _) fun x _ => hsh
  · refine ⟨?_, ?_⟩
    · rw [cond_true]
      omega
    · rw [cond_true]
      unfold firstS'
      refine up _ _ ?_ fun x _ => hsh
      have q : ∀ x ∈ (bif msgB n.events (n.events.getD id.toNat e0).Quote id && sameB n 6 then upd0 (setQuote (n.events.getD id.toNat e0).Quote) (postS n id (wordsS n id (n.events.getD id.toNat e0).Text (n.events.getD id.toNat e0).Files) (bif msgB n.events (n.events.getD id.toNat e0).Target id then placeS n (n.events.getD id.toNat e0).Target else -1)) else postS n id (wordsS n id (n.events.getD id.toNat e0).Text (n.events.getD id.toNat e0).Files) (bif msgB n.events (n.events.getD id.toNat e0).Target id then placeS n (n.events.getD id.toNat e0).Target else -1)), x.Files.length ≤ 1000000 := by
        cases msgB n.events (n.events.getD id.toNat e0).Quote id && sameB n 6
        · exact po _ _
        · exact up _ _ (po _ _) fun x hx => hx
      cases sameB n 7
      · exact q
      · exact up _ _ q fun x hx => hx
theorem law21_ForthLocal_true (a0 : api_Profile) (w0 : (api_Profile.Q a0)) (a1 : (List api_Event)) (w1 : (a1.length ≤ maxLen ∧ ∀ u4 ∈ a1, (api_Event.Q u4))) (a2 : (List Int)) (_w2 : (a2.length ≤ maxLen ∧ ∀ u5 ∈ a2, (IntKind.i64.min ≤ u5 ∧ u5 ≤ IntKind.i64.max))) (a3 : Int) (w3 : (IntKind.u8.min ≤ a3 ∧ a3 ≤ IntKind.u8.max)) (a4 : Int) (w4 : (IntKind.u8.min ≤ a4 ∧ a4 ≤ IntKind.u8.max)) (a5 : ByteArray) (_w5 : (a5.size ≤ maxLen)) (a6 : (List Int)) (w6 : (a6.length ≤ maxLen ∧ ∀ u6 ∈ a6, (IntKind.i64.min ≤ u6 ∧ u6 ≤ IntKind.i64.max))) : law21_ForthLocal a0 a1 a2 a3 a4 a5 a6 = some true := by
  have hp := prof_ok w0
  unfold law21_ForthLocal
  rw [small_true, bind_s, compile_eq _ hp, bind_s, few_eq, bind_s]
  cases hf : fewB a1 a2
  · rfl
  cases hc : chk a0 != 0
  case true =>
    simp only [Bool.not_true, cond_false, cond_true]
    rw [hc]
    rfl
  have hc : chk a0 = 0 := by simpa using hc
  simp only [Bool.not_true, cond_false]
  have e0' : ((0 : Int) != 0) = false := rfl
  simp only [e0', cond_false]
  by_cases hl : (a1.length : Int) = 0
  · rw [show ((a1.length : Int) == 0) = true by simpa using hl]
    rfl
  rw [show ((a1.length : Int) == 0) = false by simpa using hl, cond_false]
  by_cases ht : (300 : Int) < (a5.size : Int)
  · rw [decide_eq_true ht]
    rfl
  rw [decide_eq_false ht, cond_false]
  by_cases hfl : (10 : Int) < (a6.length : Int)
  · rw [decide_eq_true hfl]
    rfl
  rw [decide_eq_false hfl, cond_false, show ((a1.length : Int) != 0) = true by simpa using hl, chkO_true]
  have hints := ev_ints w1.2
  have hnet := net_ok (bad := a2) hc hf hints
  have hlen : a1.length ≤ 14 := hnet.ev
  have u8 : IntKind.u8.min = 0 ∧ IntKind.u8.max = 255 := ⟨rfl, rfl⟩
  rw [u8.1, u8.2] at w3 w4
  rw [wrap64 (n := a3) (by omega) (by omega), wrap64 (n := a4) (by omega) (by omega), Int.tmod_eq_emod_of_nonneg (by omega), Int.tmod_eq_emod_of_nonneg (by omega)]
  have k1 := Int.emod_nonneg a3 hl
  have k2 := Int.emod_lt_of_pos a3 (show 0 < (a1.length : Int) by omega)
  have i1 := Int.emod_nonneg a4 hl
  have i2 := Int.emod_lt_of_pos a4 (show 0 < (a1.length : Int) by omega)
  generalize a3 % (a1.length : Int) = k at k1 k2 ⊢
  generalize a4 % (a1.length : Int) = i at i1 i2 ⊢
  rw [ev_at i1 i2, bind_s]
  have sameT := (files_len hnet i1 i2)
  have head : ∀ (x : api_Event) (s1 : Bool) (K : Bool → Option Bool), (seqF (A := Bool) (seqF (A := Bool) (bif (x.Kind != (0 : Int)) then (bif (decide ((0 : Int) ≤ x.Target)) then some (.inl (decide (x.Target < (a1.length : Int)))) else some (.inl false)) else some (.inl false)) fun s4 => (bif s4 then (getI a1 x.Target).bind fun x11 => (bif s1 then some (.inl true) else (bif (x11.Target == k) then some (.inl true) else some (.inl (x11.Quote == k)))) else some (.inl s1))) K) = K (bif (x.Kind != 0) && (decide (0 ≤ x.Target) && decide (x.Target < (a1.length : Int))) then (s1 || ((a1.getD x.Target.toNat e0).Target == k || (a1.getD x.Target.toNat e0).Quote == k)) else s1) := by
    intro x s1 K
    cases x.Kind != 0
    · rfl
    · by_cases q1 : 0 ≤ x.Target
      · by_cases q2 : x.Target < (a1.length : Int)
        · rw [decide_eq_true q1, decide_eq_true q2, ev_at q1 q2]
          simp only [cond_true, seqF_l, bind_s, Bool.and_self]
          cases s1
          · cases (a1.getD x.Target.toNat e0).Target == k <;> rfl
          · rfl
        · rw [decide_eq_true q1, decide_eq_false q2]
          rfl
      · rw [decide_eq_false q1]
        rfl
  have near1 : ∀ K : Bool → Option Bool, (seqF (A := Bool) (bif (k == i) then some (.inl true) else (bif ((a1.getD i.toNat e0).Target == k) then some (.inl true) else some (.inl ((a1.getD i.toNat e0).Quote == k)))) K) = K (k == i || ((a1.getD i.toNat e0).Target == k || (a1.getD i.toNat e0).Quote == k)) := by
    intro K
    cases k == i
    · cases (a1.getD i.toNat e0).Target == k <;> rfl
    · rfl
  rw [near1, head]
  cases hne : (bif ((a1.getD i.toNat e0).Kind != 0) && (decide (0 ≤ (a1.getD i.toNat e0).Target) && decide ((a1.getD i.toNat e0).Target < (a1.length : Int))) then ((k == i || ((a1.getD i.toNat e0).Target == k || (a1.getD i.toNat e0).Quote == k)) || ((a1.getD (a1.getD i.toNat e0).Target.toNat e0).Target == k || (a1.getD (a1.getD i.toNat e0).Target.toNat e0).Quote == k)) else (k == i || ((a1.getD i.toNat e0).Target == k || (a1.getD i.toNat e0).Quote == k)))
  case true => rfl
  have n1 : (k == i || ((a1.getD i.toNat e0).Target == k || (a1.getD i.toNat e0).Quote == k)) = false := by
    cases hq : (k == i || ((a1.getD i.toNat e0).Target == k || (a1.getD i.toNat e0).Quote == k))
    · rfl
    · rw [hq] at hne
      cases hz : ((a1.getD i.toNat e0).Kind != 0) && (decide (0 ≤ (a1.getD i.toNat e0).Target) && decide ((a1.getD i.toNat e0).Target < (a1.length : Int)))
      · rw [hz] at hne; cases hne
      · rw [hz] at hne; cases hne
  have n2 : (a1.getD i.toNat e0).Kind ≠ 0 → 0 ≤ (a1.getD i.toNat e0).Target → (a1.getD i.toNat e0).Target < (a1.length : Int) → (a1.getD (a1.getD i.toNat e0).Target.toNat e0).Target ≠ k ∧ (a1.getD (a1.getD i.toNat e0).Target.toNat e0).Quote ≠ k := by
    intro c1 c2 c3
    rw [n1, decide_eq_true c2, decide_eq_true c3, show ((a1.getD i.toNat e0).Kind != 0) = true from bne_iff_ne.2 c1] at hne
    have : ((a1.getD (a1.getD i.toNat e0).Target.toNat e0).Target == k || (a1.getD (a1.getD i.toNat e0).Target.toNat e0).Quote == k) = false := hne
    rw [Bool.or_eq_false_iff, beq_eq_false_iff_ne, beq_eq_false_iff_ne] at this
    exact this
  rw [Bool.or_eq_false_iff, Bool.or_eq_false_iff, beq_eq_false_iff_ne, beq_eq_false_iff_ne, beq_eq_false_iff_ne] at n1
  obtain ⟨n3, n4, n5⟩ := n1
  simp only [cond_false]
  have en : ∀ l : List api_Event, ([] : List api_Event) ++ l = l := fun _ => rfl
  simp only [en]
  have c1 : decide (0 + a1.length ≤ 1000000) = true := decide_eq_true (by omega)
  have c2 : (decide (0 ≤ k) && decide (k < ((a1.length : Nat) : Int))) = true := by
    simp only [Bool.and_eq_true, decide_eq_true_eq]
    omega
  rw [c1, chkO_true, c2, chkO_true, ev_at k1 k2, bind_s]
  have hkn : k.toNat < a1.length := by omega
  have g2 : ∀ y : api_Event, getI (a1.set k.toNat y) k = some y := fun y => by
    rw [getI_of k1, List.getElem?_set_self hkn]
  rw [g2, bind_s]
  simp only [List.set_set]
  have hag := ag_set a1 k.toNat hkn a5 a6
  generalize hb : a1.set k.toNat ⟨(a1.getD k.toNat e0).Author, (a1.getD k.toNat e0).Seq, (a1.getD k.toNat e0).Causes, (a1.getD k.toNat e0).Kind, (a1.getD k.toNat e0).Group, (a1.getD k.toNat e0).Target, (a1.getD k.toNat e0).Quote, (a1.getD k.toNat e0).Who, (a1.getD k.toNat e0).N, a5, a6, (a1.getD k.toNat e0).Step⟩ = b at hag
  have hkm := hints _ (ev_mem k1 k2)
  have bm : ∀ x ∈ b, x.Text.size ≤ 300 ∧ x.Files.length ≤ 10 ∧ i64 x.Who ∧ i64 x.N ∧ ∀ f ∈ x.Files, i64 f := by
    intro x hx
    rw [← hb] at hx
    rcases List.mem_or_eq_of_mem_set hx with hx | rfl
    · exact ⟨hnet.txt x hx, hnet.files x hx, hints x hx⟩
    · exact ⟨by show a5.size ≤ 300; omega, by show a6.length ≤ 10; omega, hkm.1, hkm.2.1, fun f hf => w6.2 f hf⟩
  have hnb : NetOk (netOf a0 b a2) := ⟨hnet.ways, hnet.bad, by show b.length ≤ 14; rw [hag.len]; exact hlen, fun x hx => (bm x hx).1, fun x hx => (bm x hx).2.1, fun x hx => (bm x hx).2.2, hnet.size, hnet.parts, hnet.most⟩
  rw [forth_eq hp hc hnet, bind_s, forth_eq hp hc hnb, bind_s]
  have hall := all_ag (p := a0) (bad := a2) hag (id := i) (by omega) (fun h => by omega) (fun h => by omega) (fun c1 c2 c3 => by
    obtain ⟨z1, z2⟩ := n2 c1 c2 c3
    exact ⟨fun h => by omega, fun h => by omega⟩)
  unfold forthS
  rw [hag.len, decide_eq_false (show ¬ i < 0 by omega), decide_eq_false (show ¬ (a1.length : Int) ≤ i by omega), cond_false, cond_false, hall]
  simp only [cond_false, beq_self_eq_true, cond_true]
  rw [items_refl _ sameT.1 sameT.2]
  rfl
end Go.Proofs.YtljdbikodogeiaaDoor

/-
  What the laws say of lists of debts: adding and confirming undo each other (plain law of layer 44).
-/
import Derived.Test.YtomfmjejoocmmaaP6
namespace Go.Proofs.Ytomfmjejoocmmaa
open Go.RowKit
def api_Event.Q (x : api_Event) : Prop := (IntKind.i64.min ≤ x.Author ∧ x.Author ≤ IntKind.i64.max) ∧ (IntKind.i64.min ≤ x.Seq ∧ x.Seq ≤ IntKind.i64.max) ∧ (x.Causes.length ≤ maxLen ∧ ∀ u1 ∈ x.Causes, (IntKind.i64.min ≤ u1 ∧ u1 ≤ IntKind.i64.max)) ∧ (IntKind.i64.min ≤ x.Kind ∧ x.Kind ≤ IntKind.i64.max) ∧ (IntKind.i64.min ≤ x.Group ∧ x.Group ≤ IntKind.i64.max) ∧ (IntKind.i64.min ≤ x.Target ∧ x.Target ≤ IntKind.i64.max) ∧ (IntKind.i64.min ≤ x.Quote ∧ x.Quote ≤ IntKind.i64.max) ∧ (IntKind.i64.min ≤ x.Who ∧ x.Who ≤ IntKind.i64.max) ∧ (IntKind.i64.min ≤ x.N ∧ x.N ≤ IntKind.i64.max) ∧ (x.Text.size ≤ maxLen) ∧ (x.Files.length ≤ maxLen ∧ ∀ u2 ∈ x.Files, (IntKind.i64.min ≤ u2 ∧ u2 ≤ IntKind.i64.max)) ∧ (IntKind.i64.min ≤ x.Step ∧ x.Step ≤ IntKind.i64.max)
def api_Sent.Q (x : api_Sent) : Prop := (IntKind.i64.min ≤ x.Event ∧ x.Event ≤ IntKind.i64.max) ∧ (IntKind.i64.min ≤ x.Net ∧ x.Net ≤ IntKind.i64.max) ∧ (IntKind.i64.min ≤ x.Step ∧ x.Step ≤ IntKind.i64.max)
def api_Order.Q (x : api_Order) : Prop := (IntKind.i64.min ≤ x.Kind ∧ x.Kind ≤ IntKind.i64.max) ∧ (IntKind.i64.min ≤ x.Event ∧ x.Event ≤ IntKind.i64.max) ∧ (IntKind.i64.min ≤ x.By ∧ x.By ≤ IntKind.i64.max) ∧ (IntKind.i64.min ≤ x.Step ∧ x.Step ≤ IntKind.i64.max)
def api_Debt.Q (x : api_Debt) : Prop := (IntKind.i64.min ≤ x.Event ∧ x.Event ≤ IntKind.i64.max) ∧ (IntKind.i64.min ≤ x.Net ∧ x.Net ≤ IntKind.i64.max)
theorem addS_len (l : List api_Debt) (d : api_Debt) : (addS l d).1.length ≤ l.length + 1 := by
  unfold addS
  cases rightB l && fineD d
  · simp
  · cases memD l d
    · exact Nat.le_of_eq (putD_len l d)
    · simp
theorem confS_len (l : List api_Debt) (d : api_Debt) : (confS l d).1.length ≤ l.length := by
  unfold confS
  cases rightB l && fineD d
  · simp
  · cases memD l d
    · simp
    · exact List.length_filter_le _ _
theorem right_sub {l q : List api_Debt} (h : rightB l = true) (hs : q.Sublist l) : rightB q = true := by
  rw [rightB_iff] at h ⊢
  exact ⟨fun x hx => h.1 x (hs.subset hx), h.2.sublist hs⟩
theorem right_put {l : List api_Debt} {d : api_Debt} (h : rightB l = true) (hf : fineD d = true) (hd : d ∉ l) : rightB (putD l d) = true := by
  rw [rightB_iff] at h ⊢
  refine ⟨fun x hx => ?_, sd_putD h.2 hd⟩
  rcases mem_putD.1 hx with rfl | hx
  · exact hf
  · exact h.1 x hx
theorem add_new {l : List api_Debt} {d : api_Debt} (h : rightB l = true) (hf : fineD d = true) (hd : d ∉ l) : addS l d = (putD l d, 0) := by
  unfold addS
  rw [h, hf, memD_false.2 hd]
  rfl
theorem add_twice {l : List api_Debt} {d : api_Debt} (h : rightB l = true) (hf : fineD d = true) (hd : d ∈ l) : addS l d = ([], 5) := by
  unfold addS
  rw [h, hf, memD_iff.2 hd]
  rfl
theorem conf_there {l : List api_Debt} {d : api_Debt} (h : rightB l = true) (hd : d ∈ l) : confS l d = (l.filter (fun x => !(eqD x d)), 0) := by
  unfold confS
  rw [h, (rightB_iff.1 h).1 d hd, memD_iff.2 hd]
  rfl
theorem conf_not {l : List api_Debt} {d : api_Debt} (hd : d ∉ l) : ((confS l d).2 == 0) = false := by
  unfold confS
  rw [memD_false.2 hd]
  cases rightB l && fineD d <;> rfl
theorem filter_not {l : List api_Debt} {d : api_Debt} (hd : d ∉ l) : l.filter (fun x => !(eqD x d)) = l := by
  rw [List.filter_eq_self]
  intro x hx
  rw [Bool.not_eq_true', eqD_false]
  intro e
  subst e
  exact hd hx
theorem mem_filter_ne {l : List api_Debt} {d x : api_Debt} : x ∈ l.filter (fun x => !(eqD x d)) ↔ x ∈ l ∧ x ≠ d := by
  rw [List.mem_filter, Bool.not_eq_true', eqD_false]
theorem put_filter {l : List api_Debt} {d : api_Debt} (h : SD l) (hd : d ∈ l) : putD (l.filter fun x => !(eqD x d)) d = l := by
  have hn : d ∉ l.filter fun x => !(eqD x d) := fun hc => (mem_filter_ne.1 hc).2 rfl
  refine sd_uniq (sd_putD (h.sublist List.filter_sublist) hn) h fun x => ?_
  rw [mem_putD, mem_filter_ne]
  constructor
  · rintro (rfl | h)
    · exact hd
    · exact h.1
  · intro hx
    by_cases e : x = d
    · exact Or.inl e
    · exact Or.inr ⟨hx, e⟩
theorem filter_put {l : List api_Debt} {d : api_Debt} (h : SD l) (hd : d ∉ l) : (putD l d).filter (fun x => !(eqD x d)) = l := by
  refine sd_uniq ((sd_putD h hd).sublist List.filter_sublist) h fun x => ?_
  rw [mem_filter_ne, mem_putD]
  constructor
  · rintro ⟨h1 | h1, h2⟩
    · exact absurd h1 h2
    · exact h1
  · intro hx
    refine ⟨Or.inr hx, fun e => ?_⟩
    subst e
    exact hd hx
theorem putD_head {l : List api_Debt} {d : api_Debt} (h : ∀ x ∈ l, ltD d x = true) : putD l d = d :: l := by
  cases l with
  | nil => rfl
  | cons x l =>
    have h1 := h x (by simp)
    have h2 : ltD x d = false := by
      cases h3 : ltD x d
      · rfl
      · exact absurd h3 (ltD_asymm _ _ h1)
    unfold putD
    rw [List.takeWhile_cons, List.dropWhile_cons, h2]
    rfl
theorem memD_append {l q : List api_Debt} {d : api_Debt} : memD (l ++ q) d = true ↔ d ∈ l ∨ d ∈ q := by rw [memD_iff, List.mem_append]
theorem openP_fine {ev : List api_Event} {sent : List api_Sent} {orders : List api_Order} (he : ev.length ≤ 1000) {d : api_Debt} (h : OpenP ev sent orders d) : fineD d = true := by
  obtain ⟨o, _, e, ⟨h1, h2, _⟩, h3, h4, _⟩ := h
  unfold fineD
  rw [decide_eq_true (show 0 ≤ d.Event by omega), decide_eq_true (show d.Event < 100000 by omega), decide_eq_true h3, decide_eq_true h4]
  rfl
end Go.Proofs.Ytomfmjejoocmmaa

/-
  What came in (plain law of layer 21).
-/
import Derived.Test.YtljdbikodogeiaaGreatDoorRA
import Derived.Test.YtljdbikodogeiaaGreatDoorBA
namespace Go.Proofs.YtljdbikodogeiaaGreatDoor
open Go.RowKit
def api_Profile.Q (x : api_Profile) : Prop := (x.Name.size ≤ maxLen) ∧ (IntKind.i64.min ≤ x.Edit ∧ x.Edit ≤ IntKind.i64.max) ∧ (IntKind.i64.min ≤ x.Within ∧ x.Within ≤ IntKind.i64.max) ∧ (IntKind.i64.min ≤ x.Delete ∧ x.Delete ≤ IntKind.i64.max) ∧ True ∧ (IntKind.i64.min ≤ x.Thread ∧ x.Thread ≤ IntKind.i64.max) ∧ True ∧ True ∧ (IntKind.i64.min ≤ x.Size ∧ x.Size ≤ IntKind.i64.max) ∧ (IntKind.i64.min ≤ x.Parts ∧ x.Parts ≤ IntKind.i64.max) ∧ (IntKind.i64.min ≤ x.Files ∧ x.Files ≤ IntKind.i64.max) ∧ (IntKind.i64.min ≤ x.Bytes ∧ x.Bytes ≤ IntKind.i64.max) ∧ (x.Types.length ≤ maxLen ∧ ∀ u1 ∈ x.Types, (u1.size ≤ maxLen)) ∧ (IntKind.i64.min ≤ x.Join ∧ x.Join ≤ IntKind.i64.max) ∧ (IntKind.i64.min ≤ x.History ∧ x.History ≤ IntKind.i64.max) ∧ (IntKind.i64.min ≤ x.Remove ∧ x.Remove ≤ IntKind.i64.max) ∧ (IntKind.i64.min ≤ x.Level ∧ x.Level ≤ IntKind.i64.max) ∧ True ∧ (IntKind.i64.min ≤ x.Rate ∧ x.Rate ≤ IntKind.i64.max) ∧ (IntKind.i64.min ≤ x.Down ∧ x.Down ≤ IntKind.i64.max) ∧ (IntKind.i64.min ≤ x.Window ∧ x.Window ≤ IntKind.i64.max) ∧ (IntKind.i64.min ≤ x.Keep ∧ x.Keep ≤ IntKind.i64.max)
def api_Event.Q (x : api_Event) : Prop := (IntKind.i64.min ≤ x.Author ∧ x.Author ≤ IntKind.i64.max) ∧ (IntKind.i64.min ≤ x.Seq ∧ x.Seq ≤ IntKind.i64.max) ∧ (x.Causes.length ≤ maxLen ∧ ∀ u2 ∈ x.Causes, (IntKind.i64.min ≤ u2 ∧ u2 ≤ IntKind.i64.max)) ∧ (IntKind.i64.min ≤ x.Kind ∧ x.Kind ≤ IntKind.i64.max) ∧ (IntKind.i64.min ≤ x.Group ∧ x.Group ≤ IntKind.i64.max) ∧ (IntKind.i64.min ≤ x.Target ∧ x.Target ≤ IntKind.i64.max) ∧ (IntKind.i64.min ≤ x.Quote ∧ x.Quote ≤ IntKind.i64.max) ∧ (IntKind.i64.min ≤ x.Who ∧ x.Who ≤ IntKind.i64.max) ∧ (IntKind.i64.min ≤ x.N ∧ x.N ≤ IntKind.i64.max) ∧ (x.Text.size ≤ maxLen) ∧ (x.Files.length ≤ maxLen ∧ ∀ u3 ∈ x.Files, (IntKind.i64.min ≤ u3 ∧ u3 ≤ IntKind.i64.max)) ∧ (IntKind.i64.min ≤ x.Step ∧ x.Step ≤ IntKind.i64.max)
def api_Way.Q (x : api_Way) : Prop := (IntKind.i64.min ≤ x.How ∧ x.How ≤ IntKind.i64.max) ∧ (IntKind.i64.min ≤ x.Finds ∧ x.Finds ≤ IntKind.i64.max)
theorem ev_ints {l : List api_Event} (h : ∀ x ∈ l, api_Event.Q x) : ∀ x ∈ l, i64 x.Who ∧ i64 x.N ∧ ∀ f ∈ x.Files, i64 f := fun x hx => by
  obtain ⟨_, _, _, _, _, _, _, h8, h9, _, h11, _⟩ := h x hx
  exact ⟨h8, h9, fun f hf => h11.2 f hf⟩
theorem prof_ok {p : api_Profile} (h : api_Profile.Q p) : ProfOk p := by
  obtain ⟨h1, _, _, _, _, _, _, _, _, _, _, _, h13, _⟩ := h
  exact ⟨h1, h13.1, h13.2⟩
theorem ne_ev (p : api_Profile) (b : List api_Event) (bad : List Int) : (netOf p b bad).events = b := rfl
theorem ne_p (p : api_Profile) (b : List api_Event) (bad : List Int) : (netOf p b bad).p = p := rfl
theorem ne_bad (p : api_Profile) (b : List api_Event) (bad : List Int) : (netOf p b bad).bad = bad := rfl
theorem getD_mem (l : List api_Item) (i : Nat) (hi : i < l.length) : l.getD i i0 ∈ l := by
  rw [List.getD_eq_getElem?_getD, List.getElem?_eq_getElem hi]
  exact List.getElem_mem hi
theorem files_len {n : forth_network} (h : NetOk n) {id : Int} (h1 : 0 ≤ id) (h2 : id < (n.events.length : Int)) : (allS n id).length ≤ 1000000 ∧ ∀ x ∈ allS n id, x.Files.length ≤ 1000000 := by
  have hpp := h.parts
  have hm := ev_mem h1 h2
  have hxf := h.files _ hm
  have hsl := shown_len n.p.Files n.bad (n.events.getD id.toNat e0).Files []
  have hsh : (shownS n.p.Files n.bad (n.events.getD id.toNat e0).Files).length ≤ 1000000 := by
    unfold shownS
    simp only [List.length_nil] at hsl
    omega
  have up : ∀ (f : api_Item → api_Item) (l : List api_Item), (∀ x ∈ l, x.Files.length ≤ 1000000) → (∀ x : api_Item, x.Files.length ≤ 1000000 → (f x).Files.length ≤ 1000000) → ∀ x ∈ upd0 f l, x.Files.length ≤ 1000000 := by
    intro f l hl hf x hx
    cases l with
    | nil => simp [upd0] at hx
    | cons y r =>
      rcases List.mem_cons.1 hx with rfl | hx
      · exact hf y (hl y (by simp))
      · exact hl x (by simp [hx])
  have it : ∀ kind texts, ∀ x ∈ itemsS id kind texts, x.Files.length ≤ 1000000 := by
    intro kind texts x hx
    obtain ⟨i, _, rfl⟩ := List.mem_map.1 hx
    exact Nat.zero_le _
  have po : ∀ s on, ∀ x ∈ postS n id s on, x.Files.length ≤ 1000000 := fun s on => up _ _ (it _ _) fun x hx => hx
  have ea : ∀ kind texts, ∀ x ∈ eachS n id kind texts, x.Files.length ≤ 1000000 := by
    intro kind texts x hx
    obtain ⟨i, hi, rfl⟩ := List.mem_map.1 hx
    have hi := List.mem_range.1 hi
    have q := it kind _ _ (getD_mem (itemsS id kind (allT (firstS' n (n.events.getD id.toNat e0).Target).length texts)) i hi)
    exact q
  have fl := first_len h id
  have fl2 := first_len h (n.events.getD id.toNat e0).Target
  have pl := fun s on => post_len h id s on
  have el : ∀ kind texts, (eachS n id kind texts).length ≤ 1000000 := fun kind texts => by rw [each_len]; omega
  have pl' : ∀ s on, (postS n id s on).length ≤ 1000000 := fun s on => by have := pl s on; omega
  have re : (reactS n id).length ≤ 1000000 ∧ ∀ x ∈ reactS n id, x.Files.length ≤ 1000000 := by
    unfold reactS
    cases sameB n 4
    · exact ⟨pl' _ _, po _ _⟩
    · refine ⟨by simp, fun x hx => ?_⟩
      rw [cond_true, List.mem_singleton] at hx
      rw [hx]
      exact Nat.zero_le _
  unfold allS
  cases (n.events.getD id.toNat e0).Kind == 0
  · cases actB n.events id
    · exact ⟨Nat.zero_le _, fun x hx => by simp at hx⟩
    · cases (n.events.getD id.toNat e0).Kind == 1
      · cases (n.events.getD id.toNat e0).Kind == 2
        · cases (n.events.getD id.toNat e0).Kind == 3
          · cases (n.events.getD id.toNat e0).Kind == 4
            · exact ⟨Nat.zero_le _, fun x hx => by simp at hx⟩
            · exact re
          · exact re
        · show (removeS n id).length ≤ _ ∧ ∀ x ∈ removeS n id, _
          unfold removeS
          cases sameB n 3
          · cases (n.ways.getD 3 w0).How == 2
            · exact ⟨pl' _ _, po _ _⟩
            · exact ⟨el _ _, ea _ _⟩
          · exact ⟨el _ _, ea _ _⟩
      · show (editS n id).length ≤ _ ∧ ∀ x ∈ editS n id, _
        unfold editS
        cases sameB n 2
        · exact ⟨pl' _ _, po _ _⟩
        · refine ⟨?_, ?_⟩
          · rw [cond_true, upd0_len]
            exact el _ _
          · exact up _ _ (ea _ _) fun x _ => hsh
  · refine ⟨?_, ?_⟩
    · rw [cond_true]
      omega
    · rw [cond_true]
      unfold firstS'
      refine up _ _ ?_ fun x _ => hsh
      have q : ∀ x ∈ (bif msgB n.events (n.events.getD id.toNat e0).Quote id && sameB n 6 then upd0 (setQuote (n.events.getD id.toNat e0).Quote) (postS n id (wordsS n id (n.events.getD id.toNat e0).Text (n.events.getD id.toNat e0).Files) (bif msgB n.events (n.events.getD id.toNat e0).Target id then placeS n (n.events.getD id.toNat e0).Target else -1)) else postS n id (wordsS n id (n.events.getD id.toNat e0).Text (n.events.getD id.toNat e0).Files) (bif msgB n.events (n.events.getD id.toNat e0).Target id then placeS n (n.events.getD id.toNat e0).Target else -1)), x.Files.length ≤ 1000000 := by
        cases msgB n.events (n.events.getD id.toNat e0).Quote id && sameB n 6
        · exact po _ _
        · exact up _ _ (po _ _) fun x hx => hx
      cases sameB n 7
      · exact q
      · exact up _ _ q fun x hx => hx
end Go.Proofs.YtljdbikodogeiaaGreatDoor

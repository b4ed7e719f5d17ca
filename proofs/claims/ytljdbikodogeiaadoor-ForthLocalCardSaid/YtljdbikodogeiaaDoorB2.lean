/-
  Messages, threads, lines, files and words of items (plain law of layers 16, 10 and 21).
-/
import Derived.Test.YtljdbikodogeiaaDoorB1
import Derived.Test.YtljdbikodogeiaaDoorG4
import Derived.Lib.ItoaLen
namespace Go.Proofs.YtljdbikodogeiaaDoor
open Go.RowKit
def e0 : api_Event := ⟨0, 0, [], 0, 0, 0, 0, 0, 0, ByteArray.mk #[], [], 0⟩
theorem ev_at {ev : List api_Event} {id : Int} (h1 : 0 ≤ id) (h2 : id < (ev.length : Int)) : getI ev id = some (ev.getD id.toNat e0) := by
  rw [getI_of h1, List.getElem?_eq_getElem (by omega), List.getD_eq_getElem?_getD, List.getElem?_eq_getElem (by omega)]
  rfl
/-- a message, less than a number -/
def msgB (ev : List api_Event) (id than : Int) : Bool := decide (0 ≤ id) && (decide (id < than) && (decide (id < (ev.length : Int)) && (ev.getD id.toNat e0).Kind == 0))
theorem message_eq (n : forth_network) (id than : Int) : forth_network_message n id than = some (msgB n.events id than) := by
  unfold forth_network_message msgB
  by_cases h1 : 0 ≤ id
  · by_cases h3 : id < (n.events.length : Int)
    · rw [ev_at h1 h3, decide_eq_true h1, decide_eq_true h3]
      cases decide (id < than) <;> rfl
    · rw [decide_eq_true h1, decide_eq_false h3]
      cases decide (id < than) <;> rfl
  · rw [decide_eq_false h1]
    rfl
def vmsgB (ev : List api_Event) (id : Int) : Bool := decide (0 ≤ id) && (decide (id < (ev.length : Int)) && (ev.getD id.toNat e0).Kind == 0)
theorem vmessage_eq (ev : List api_Event) (id : Int) : view_message ev id = some (vmsgB ev id) := by
  unfold view_message vmsgB
  by_cases h1 : 0 ≤ id
  · by_cases h3 : id < (ev.length : Int)
    · rw [ev_at h1 h3, decide_eq_true h1, decide_eq_true h3]
      rfl
    · rw [decide_eq_true h1, decide_eq_false h3]
      rfl
  · rw [decide_eq_false h1]
    rfl
theorem vmsg_range {ev : List api_Event} {id : Int} (h : vmsgB ev id = true) : 0 ≤ id ∧ id < (ev.length : Int) := by
  unfold vmsgB at h
  simp only [Bool.and_eq_true, decide_eq_true_eq] at h
  exact ⟨h.1, h.2.1⟩
/-- what a message answers -/
def parS (ev : List api_Event) (id : Int) : Int := bif decide ((ev.getD id.toNat e0).Target < id) && vmsgB ev (ev.getD id.toNat e0).Target then (ev.getD id.toNat e0).Target else -1
theorem parent_eq (ev : List api_Event) (id : Int) (h1 : 0 ≤ id) (h2 : id < (ev.length : Int)) : view_parent ev id = some (parS ev id) := by
  unfold view_parent parS
  rw [ev_at h1 h2, bind_s, vmessage_eq]
  cases decide ((ev.getD id.toNat e0).Target < id)
  · rfl
  · cases vmsgB ev (ev.getD id.toNat e0).Target <;> rfl
theorem par_cases (ev : List api_Event) (id : Int) : parS ev id = -1 ∨ (0 ≤ parS ev id ∧ parS ev id < id ∧ parS ev id < (ev.length : Int)) := by
  unfold parS
  cases h : decide ((ev.getD id.toNat e0).Target < id) && vmsgB ev (ev.getD id.toNat e0).Target
  · exact Or.inl rfl
  · rw [Bool.and_eq_true, decide_eq_true_eq] at h
    have := vmsg_range h.2
    exact Or.inr ⟨this.1, h.1, this.2⟩
/-- the first message of a thread -/
def rootF (ev : List api_Event) : Nat → Int → Int
  | 0, id => id
  | k + 1, id => bif decide (0 ≤ parS ev id) then rootF ev k (parS ev id) else id
theorem root_loop (ev : List api_Event) : ∀ (k : Nat) (id : Int), 0 ≤ id → id < (ev.length : Int) → id.toNat < k → loopF (view_Root_L1 ev) (id, parS ev id) = some (.inl (rootF ev k id))
  | 0, _, _, _, h => absurd h (Nat.not_lt_zero _)
  | k + 1, id, h1, h2, h => by
    rw [rootF]
    rcases par_cases ev id with hp | ⟨p1, p2, p3⟩
    · rw [hp]
      rw [loopF_stop (b := .inl id)]
      · rfl
      · rfl
    · rw [decide_eq_true p1, cond_true, loopF_next (s' := (parS ev id, parS ev (parS ev id)))]
      · exact root_loop ev k (parS ev id) p1 p3 (by omega)
      · unfold view_Root_L1
        rw [decide_eq_true p1, cond_true, parent_eq ev _ p1 p3]
        rfl
def rootS (ev : List api_Event) (id : Int) : Int := bif vmsgB ev id then rootF ev (id.toNat + 1) id else -1
theorem root_eq (ev : List api_Event) (id : Int) : view_Root ev id = some (rootS ev id) := by
  unfold view_Root rootS
  rw [vmessage_eq, bind_s]
  cases h : vmsgB ev id
  · rfl
  · obtain ⟨h1, h2⟩ := vmsg_range h
    simp only [Bool.not_true, cond_false, cond_true]
    rw [parent_eq ev id h1 h2, bind_s, root_loop ev (id.toNat + 1) id h1 h2 (Nat.lt_succ_self _)]
    rfl
def placeS (n : forth_network) (id : Int) : Int := bif n.p.Thread == 2 then id else bif n.p.Thread == 1 then rootS n.events id else -1
theorem place_eq (n : forth_network) (id : Int) : forth_network_place n id = some (placeS n id) := by
  unfold forth_network_place placeS
  rw [root_eq]
  cases n.p.Thread == 2
  · cases n.p.Thread == 1 <;> rfl
  · rfl
def sameB (n : forth_network) (c : Nat) : Bool := (n.ways.getD c w0).How == 0
theorem same_eq (n : forth_network) (c : Nat) (h : c < n.ways.length) : forth_network_same n (c : Int) = some (sameB n c) := by
  unfold forth_network_same sameB
  rw [getI_in w0 h]
  rfl
/- lines -/
def lineA (s : ByteArray) : ByteArray := ⟨(Lib.cut s.data.toList (ByteArray.mk #[10]).data.toList).1.toArray⟩
def lineS (s : ByteArray) : ByteArray := (lineA s).extract (0 : Int).toNat (if (20 : Int) < ((lineA s).size : Int) then (20 : Int) else ((lineA s).size : Int)).toNat
theorem lineS_size (s : ByteArray) : (lineS s).size ≤ 20 := by
  unfold lineS
  rw [ByteArray.size_extract]
  split <;> omega
theorem wline_eq (s : ByteArray) (h : s.size ≤ 1000000) : words_Line s 20 = some (lineS s) := by
  unfold words_Line strings_Cut
  rw [decide_eq_true (show s.size < 4294967281 by omega), chkO_true, bind_s]
  have e : (if (20 : Int) < 0 then (0 : Int) else 20) = 20 := rfl
  simp only [e]
  have c : cutO (0 : Int) (if (20 : Int) < ((lineA s).size : Int) then (20 : Int) else ((lineA s).size : Int)) ((lineA s).size : Int) = true := by
    unfold cutO
    simp only [Bool.and_eq_true, decide_eq_true_eq]
    split <;> omega
  have c' := c
  unfold lineA at c'
  rw [c']
  rfl
theorem line_eq (n : forth_network) (id : Int) (h1 : 0 ≤ id) (h2 : id < (n.events.length : Int)) (h : (n.events.getD id.toNat e0).Text.size ≤ 1000000) : forth_network_line n id = some (lineS (n.events.getD id.toNat e0).Text) := by
  unfold forth_network_line
  rw [ev_at h1 h2, bind_s, wline_eq _ h]
  rfl
/- files -/
def hasI (l : List Int) (x : Int) : Bool := l.any fun y => x == y
theorem hasI_iff {l : List Int} {x : Int} : hasI l x = true ↔ x ∈ l := by
  unfold hasI
  rw [List.any_eq_true]
  constructor
  · rintro ⟨y, hy, e⟩
    rw [beq_iff_eq] at e
    rw [e]
    exact hy
  · intro h
    exact ⟨x, h, beq_self_eq_true x⟩
theorem containsI_eq (l : List Int) (hl : l.length ≤ 1000000) (x : Int) : slices_Contains_int_int l x = some (hasI l x) := by
  have h := loopF_inv (body := slices_Index_int_int_L1 l x) l.length (fun i s => s = (i : Int) ∧ hasI (l.take i) x = false) (fun r => (r = some (.inl ()) ∧ hasI l x = false) ∨ ∃ k : Int, r = some (.inr k) ∧ 0 ≤ k ∧ hasI l x = true) (fun i s hi hs => ?_) (fun s hs => ?_) (s0 := (0 : Int)) ⟨rfl, rfl⟩
  · unfold slices_Contains_int_int slices_Index_int_int
    rcases h with ⟨h, e⟩ | ⟨k, h, hk, e⟩
    · rw [h, e]
      rfl
    · rw [h, e, seqF_r, bind_s, decide_eq_true hk]
  · obtain ⟨rfl, hm⟩ := hs
    have hlt : decide ((i : Int) < (l.length : Int)) = true := decide_eq_true (by omega)
    have hw : IntKind.i64.wrap ((i : Int) + 1) = ((i + 1 : Nat) : Int) := by rw [wrap64 (by omega) (by omega)]; omega
    unfold slices_Index_int_int_L1
    simp only [hlt, cond_true, getI_in (0 : Int) hi, bind_s, hw]
    cases he : x == l.getD i 0
    · left
      refine ⟨_, rfl, rfl, ?_⟩
      unfold hasI at hm ⊢
      rw [take_succ_getD l 0 hi, List.any_append, hm]
      simp only [List.any_cons, List.any_nil, he]
      rfl
    · right
      refine ⟨_, rfl, Or.inr ⟨_, rfl, by omega, ?_⟩⟩
      rw [hasI_iff]
      have he : x = l.getD i 0 := by simpa using he
      rw [he, List.getD_eq_getElem?_getD, List.getElem?_eq_getElem hi]
      exact List.getElem_mem hi
  · obtain ⟨rfl, hm⟩ := hs
    rw [List.take_length] at hm
    refine ⟨.inl (), ?_, Or.inl ⟨rfl, hm⟩⟩
    unfold slices_Index_int_int_L1
    simp only [Int.lt_irrefl, decide_false, cond_false]
def shownF (most : Int) (bad : List Int) (acc : List Int) (f : Int) : List Int := bif decide ((acc.length : Int) < most) && !(hasI bad f) then acc ++ [f] else acc
def shownS (most : Int) (bad files : List Int) : List Int := files.foldl (shownF most bad) []
theorem shown_len (most : Int) (bad : List Int) : ∀ (files acc : List Int), (files.foldl (shownF most bad) acc).length ≤ acc.length + files.length
  | [], acc => Nat.le_refl _
  | f :: files, acc => by
    have := shown_len most bad files (shownF most bad acc f)
    have h2 : (shownF most bad acc f).length ≤ acc.length + 1 := by
      unfold shownF
      cases decide ((acc.length : Int) < most) && !(hasI bad f) <;> simp
    simp only [List.foldl_cons, List.length_cons]
    omega
theorem shown_most (most : Int) (h0 : 0 ≤ most) (bad : List Int) : ∀ (files acc : List Int), (acc.length : Int) ≤ most → (∀ x ∈ acc, x ∉ bad) → ((files.foldl (shownF most bad) acc).length : Int) ≤ most ∧ ∀ x ∈ files.foldl (shownF most bad) acc, x ∉ bad
  | [], acc, h, k => ⟨h, k⟩
  | f :: files, acc, h, k => by
    rw [List.foldl_cons]
    refine shown_most most h0 bad files _ ?_ ?_
    · unfold shownF
      cases hc : decide ((acc.length : Int) < most) && !(hasI bad f)
      · exact h
      · rw [Bool.and_eq_true, decide_eq_true_eq] at hc
        simp only [cond_true, List.length_append, List.length_singleton]
        omega
    · unfold shownF
      cases hc : decide ((acc.length : Int) < most) && !(hasI bad f)
      · exact k
      · intro x hx
        rw [Bool.and_eq_true, Bool.not_eq_true'] at hc
        simp only [cond_true, List.mem_append, List.mem_singleton] at hx
        rcases hx with hx | rfl
        · exact k x hx
        · intro hb
          rw [hasI_iff.2 hb] at hc
          cases hc.2
theorem shown_eq (n : forth_network) (files : List Int) (hf : files.length ≤ 1000) (hb : n.bad.length ≤ 1000) : forth_network_shown n files = some (shownS n.p.Files n.bad files) := by
  have key := loopF_inv (body := forth_network_shown_L1 files n) files.length (fun i s => s = ((i : Int), (files.take i).foldl (shownF n.p.Files n.bad) [])) (fun r => r = some (.inl (shownS n.p.Files n.bad files))) (fun i s hi hs => ?_) (fun s hs => ?_) (s0 := ((0 : Int), ([] : List Int))) rfl
  · unfold forth_network_shown
    rw [key]
    rfl
  · subst hs
    left
    have hlt : decide ((i : Int) < (files.length : Int)) = true := decide_eq_true (by omega)
    have hw : IntKind.i64.wrap ((i : Int) + 1) = ((i + 1 : Nat) : Int) := by rw [wrap64 (by omega) (by omega)]; omega
    have hlen := shown_len n.p.Files n.bad (files.take i) []
    rw [List.length_take, List.length_nil] at hlen
    refine ⟨_, ?_, rfl⟩
    unfold forth_network_shown_L1
    simp only [hlt, cond_true, getI_in (0 : Int) hi, bind_s, hw]
    rw [take_succ_getD files 0 hi, List.foldl_append, List.foldl_cons, List.foldl_nil]
    generalize (files.take i).foldl (shownF n.p.Files n.bad) [] = acc at hlen ⊢
    have c : decide (acc.length + [files.getD i 0].length ≤ 1000000) = true := decide_eq_true (by simp only [List.length_singleton]; omega)
    rw [containsI_eq n.bad (by omega), bind_s, c]
    unfold shownF
    cases decide ((acc.length : Int) < n.p.Files)
    · rfl
    · cases hasI n.bad (files.getD i 0) <;> rfl
  · subst hs
    refine ⟨_, ?_, rfl⟩
    unfold forth_network_shown_L1
    simp only [Int.lt_irrefl, decide_false, cond_false, List.take_length]
    rfl
end Go.Proofs.YtljdbikodogeiaaDoor

/-
  Ways of a profile (plain law of layer 19).
  Messages, threads, lines, files and words of items (plain law of layers 16, 10 and 21).
  Words of messages (plain law of layer 21).
  Parts of words, and the items of a message (plain law of layers 10 and 21).
  The items of an event (plain law of layer 21).
  Forth, the limits, comparing (plain law of layer 21).
  The examples of the documentation (plain law of layer 21).
-/
import Derived.Test.YtljdbikodogeiaaGreatDoorAA
import Derived.Test.YtljdbikodogeiaaGreatDoorGC
import Derived.Lib.ItoaLen
import Derived.KernelRfl
namespace Go.Proofs.YtljdbikodogeiaaGreatDoor
open Go.RowKit
theorem seqF_l {A B : Type} {k : A → Option B} {a : A} : seqF (some (Sum.inl a)) k = k a := rfl
theorem seqF_r {A B : Type} {k : A → Option B} {b : B} : seqF (some (Sum.inr b)) k = some b := rfl
theorem bind_s {A B : Type} {k : A → Option B} {a : A} : (some a).bind k = k a := rfl
def w0 : api_Way := ⟨0, 0⟩
def c0 : ways_choice := ⟨false, w0⟩
/-- the way of the first choice that is -/
def firstS : List ways_choice → api_Way
  | [] => ⟨5, 2⟩
  | c :: r => bif c.is then c.way else firstS r
theorem firstS_drop : ∀ (l : List ways_choice) (i : Nat), i < l.length → (l.getD i c0).is = false → firstS (l.drop i) = firstS (l.drop (i + 1))
  | c :: r, 0, _, h => by
    have h : c.is = false := h
    show (bif c.is then c.way else firstS r) = firstS r
    rw [h]
    rfl
  | c :: r, i + 1, hi, h => firstS_drop r i (by simpa using hi) (by simpa using h)
theorem firstS_at : ∀ (l : List ways_choice) (i : Nat), i < l.length → (l.getD i c0).is = true → firstS (l.drop i) = (l.getD i c0).way
  | c :: r, 0, _, h => by
    have h : c.is = true := h
    show (bif c.is then c.way else firstS r) = c.way
    rw [h]
    rfl
  | c :: r, i + 1, hi, h => firstS_at r i (by simpa using hi) (by simpa using h)
theorem first_eq (l : List ways_choice) (hl : l.length ≤ 1000) : ways_first l = some (firstS l) := by
  have key := loopF_inv (body := ways_first_L1 l) l.length (fun i s => s = (i : Int) ∧ firstS (l.drop i) = firstS l) (fun r => (r = some (.inl ()) ∧ firstS l = ⟨5, 2⟩) ∨ r = some (.inr (firstS l))) (fun i s hi hs => ?_) (fun s hs => ?_) (s0 := (0 : Int)) ⟨rfl, rfl⟩
  · unfold ways_first
    rcases key with ⟨h, e⟩ | h
    · rw [h, seqF_l, e]
    · rw [h, seqF_r]
  · obtain ⟨rfl, hf⟩ := hs
    have hlt : decide ((i : Int) < (l.length : Int)) = true := decide_eq_true (by omega)
    have hw : IntKind.i64.wrap ((i : Int) + 1) = ((i + 1 : Nat) : Int) := by rw [wrap64 (by omega) (by omega)]; omega
    unfold ways_first_L1
    simp only [hlt, cond_true, getI_in c0 hi, bind_s, hw]
    cases hc : (l.getD i c0).is
    · left
      exact ⟨_, rfl, rfl, by rw [← firstS_drop l i hi hc]; exact hf⟩
    · right
      exact ⟨_, rfl, Or.inr (by rw [← hf, firstS_at l i hi hc])⟩
  · obtain ⟨rfl, hf⟩ := hs
    refine ⟨.inl (), ?_, Or.inl ⟨rfl, ?_⟩⟩
    · unfold ways_first_L1
      simp only [Int.lt_irrefl, decide_false, cond_false]
    · rw [← hf, List.drop_length]
      rfl
/-- what is compiled -/
def editsB (p : api_Profile) : Bool := bif p.Edit == 2 then p.Within == 0 else false
def longS (p : api_Profile) : api_Way := bif decide (1 < p.Parts) then firstS [⟨decide (4400 ≤ IntKind.i64.wrap (p.Size * p.Parts)), ⟨1, 1⟩⟩, ⟨decide (1 < p.Parts), ⟨4, 1⟩⟩, ⟨true, ⟨4, 0⟩⟩] else firstS [⟨false, ⟨1, 1⟩⟩, ⟨decide (1 < p.Parts), ⟨4, 1⟩⟩, ⟨true, ⟨4, 0⟩⟩]
def reactS' (p : api_Profile) : api_Way := bif p.React then firstS [⟨!decide (1 < p.Parts), ⟨0, 0⟩⟩, ⟨p.React, ⟨0, 1⟩⟩, ⟨true, ⟨3, 2⟩⟩] else firstS [⟨false, ⟨0, 0⟩⟩, ⟨p.React, ⟨0, 1⟩⟩, ⟨true, ⟨3, 2⟩⟩]
def compS (p : api_Profile) : List api_Way := [⟨0, 0⟩, longS p, firstS [⟨editsB p, ⟨0, 0⟩⟩, ⟨true, ⟨3, 2⟩⟩], firstS [⟨p.Delete != 0, ⟨0, 0⟩⟩, ⟨editsB p, ⟨2, 0⟩⟩, ⟨true, ⟨3, 2⟩⟩], reactS' p,
  firstS [⟨p.Thread == 2, ⟨0, 0⟩⟩, ⟨p.Thread == 1, ⟨2, 1⟩⟩, ⟨true, ⟨2, 2⟩⟩], firstS [⟨p.Quote, ⟨0, 0⟩⟩, ⟨true, ⟨2, 2⟩⟩], firstS [⟨p.Mention, ⟨0, 0⟩⟩, ⟨true, ⟨2, 2⟩⟩], firstS [⟨p.Files == 4, ⟨0, 0⟩⟩, ⟨decide (0 < p.Files), ⟨4, 1⟩⟩, ⟨true, ⟨2, 2⟩⟩]]
theorem compile_eq (p : api_Profile) (h : ProfOk p) : ways_Compile p = some (bif chk p != 0 then ([], chk p) else (compS p, 0)) := by
  unfold ways_Compile
  rw [profile_Check_eq p h, bind_s]
  cases chk p != 0
  · simp only [cond_false]
    have f2 : ∀ a b, ways_first [a, b] = some (firstS [a, b]) := fun a b => first_eq _ (by simp)
    have f3 : ∀ a b c, ways_first [a, b, c] = some (firstS [a, b, c]) := fun a b c => first_eq _ (by simp)
    have e1 : (bif (p.Edit == (2 : Int)) then (some (.inl (p.Within == (0 : Int))) : Option (Bool ⊕ (List api_Way × Int))) else some (.inl false)) = some (.inl (editsB p)) := by
      unfold editsB
      cases p.Edit == 2 <;> rfl
    rw [e1, seqF_l]
    simp only [f2, f3, bind_s]
    unfold compS longS reactS'
    cases decide (1 < p.Parts)
    · cases p.React
      · rfl
      · rfl
    · cases p.React
      · rfl
      · rfl
  · rfl
end Go.Proofs.YtljdbikodogeiaaGreatDoor
namespace Go.Proofs.YtljdbikodogeiaaGreatDoor
open Go.RowKit
def e0 : api_Event := ⟨0, 0, [], 0, 0, 0, 0, 0, 0, ByteArray.mk #[], [], 0⟩
theorem ev_at {ev : List api_Event} {id : Int} (h1 : 0 ≤ id) (h2 : id < (ev.length : Int)) : getI ev id = some (ev.getD id.toNat e0) := by
  rw [getI_of h1, List.getElem?_eq_getElem (by omega), List.getD_eq_getElem?_getD, List.getElem?_eq_getElem (by omega)]
  rfl
/-- a message, less than a number -/
def msgB (ev : List api_Event) (id than : Int) : Bool := decide (0 ≤ id) && (decide (id < than) && (decide (id < (ev.length : Int)) && (ev.getD id.toNat e0).Kind == 0))
theorem message_eq (n : forth_network) (id than : Int) : forth_network_message n id than = some (msgB n.events id than) := by
  unfold forth_network_message msgB
  by_cases h1 : 0 ≤ id
  · by_cases h3 : id < (n.events.length : Int)
    · rw [ev_at h1 h3, decide_eq_true h1, decide_eq_true h3]
      cases decide (id < than) <;> rfl
    · rw [decide_eq_true h1, decide_eq_false h3]
      cases decide (id < than) <;> rfl
  · rw [decide_eq_false h1]
    rfl
def vmsgB (ev : List api_Event) (id : Int) : Bool := decide (0 ≤ id) && (decide (id < (ev.length : Int)) && (ev.getD id.toNat e0).Kind == 0)
theorem vmessage_eq (ev : List api_Event) (id : Int) : view_message ev id = some (vmsgB ev id) := by
  unfold view_message vmsgB
  by_cases h1 : 0 ≤ id
  · by_cases h3 : id < (ev.length : Int)
    · rw [ev_at h1 h3, decide_eq_true h1, decide_eq_true h3]
      rfl
    · rw [decide_eq_true h1, decide_eq_false h3]
      rfl
  · rw [decide_eq_false h1]
    rfl
theorem vmsg_range {ev : List api_Event} {id : Int} (h : vmsgB ev id = true) : 0 ≤ id ∧ id < (ev.length : Int) := by
  unfold vmsgB at h
  simp only [Bool.and_eq_true, decide_eq_true_eq] at h
  exact ⟨h.1, h.2.1⟩
/-- what a message answers -/
def parS (ev : List api_Event) (id : Int) : Int := bif decide ((ev.getD id.toNat e0).Target < id) && vmsgB ev (ev.getD id.toNat e0).Target then (ev.getD id.toNat e0).Target else -1
theorem parent_eq (ev : List api_Event) (id : Int) (h1 : 0 ≤ id) (h2 : id < (ev.length : Int)) : view_parent ev id = some (parS ev id) := by
  unfold view_parent parS
  rw [ev_at h1 h2, bind_s, vmessage_eq]
  cases decide ((ev.getD id.toNat e0).Target < id)
  · rfl
  · cases vmsgB ev (ev.getD id.toNat e0).Target <;> rfl
theorem par_cases (ev : List api_Event) (id : Int) : parS ev id = -1 ∨ (0 ≤ parS ev id ∧ parS ev id < id ∧ parS ev id < (ev.length : Int)) := by
  unfold parS
  cases h : decide ((ev.getD id.toNat e0).Target < id) && vmsgB ev (ev.getD id.toNat e0).Target
  · exact Or.inl rfl
  · rw [Bool.and_eq_true, decide_eq_true_eq] at h
    have := vmsg_range h.2
    exact Or.inr ⟨this.1, h.1, this.2⟩
/-- the first message of a thread -/
def rootF (ev : List api_Event) : Nat → Int → Int
  | 0, id => id
  | k + 1, id => bif decide (0 ≤ parS ev id) then rootF ev k (parS ev id) else id
theorem root_loop (ev : List api_Event) : ∀ (k : Nat) (id : Int), 0 ≤ id → id < (ev.length : Int) → id.toNat < k → loopF (view_Root_L1 ev) (id, parS ev id) = some (.inl (rootF ev k id))
  | 0, _, _, _, h => absurd h (Nat.not_lt_zero _)
  | k + 1, id, h1, h2, h => by
    rw [rootF]
    rcases par_cases ev id with hp | ⟨p1, p2, p3⟩
    · rw [hp]
      rw [loopF_stop (b := .inl id)]
      · rfl
      · rfl
    · rw [decide_eq_true p1, cond_true, loopF_next (s' := (parS ev id, parS ev (parS ev id)))]
      · exact root_loop ev k (parS ev id) p1 p3 (by omega)
      · unfold view_Root_L1
        rw [decide_eq_true p1, cond_true, parent_eq ev _ p1 p3]
        rfl
def rootS (ev : List api_Event) (id : Int) : Int := bif vmsgB ev id then rootF ev (id.toNat + 1) id else -1
theorem root_eq (ev : List api_Event) (id : Int) : view_Root ev id = some (rootS ev id) := by
  unfold view_Root rootS
  rw [vmessage_eq, bind_s]
  cases h : vmsgB ev id
  · rfl
  · obtain ⟨h1, h2⟩ := vmsg_range h
    simp only [Bool.not_true, cond_false, cond_true]
    rw [parent_eq ev id h1 h2, bind_s, root_loop ev (id.toNat + 1) id h1 h2 (Nat.lt_succ_self _)]
    rfl
def placeS (n : forth_network) (id : Int) : Int := bif n.p.Thread == 2 then id else bif n.p.Thread == 1 then rootS n.events id else -1
theorem place_eq (n : forth_network) (id : Int) : forth_network_place n id = some (placeS n id) := by
  unfold forth_network_place placeS
  rw [root_eq]
  cases n.p.Thread == 2
  · cases n.p.Thread == 1 <;> rfl
  · rfl
def sameB (n : forth_network) (c : Nat) : Bool := (n.ways.getD c w0).How == 0
theorem same_eq (n : forth_network) (c : Nat) (h : c < n.ways.length) : forth_network_same n (c : Int) = some (sameB n c) := by
  unfold forth_network_same sameB
  rw [getI_in w0 h]
  rfl
/- lines -/
def lineA (s : ByteArray) : ByteArray := ⟨(Lib.cut s.data.toList (ByteArray.mk #[10]).data.toList).1.toArray⟩
def lineS (s : ByteArray) : ByteArray := (lineA s).extract (0 : Int).toNat (if (20 : Int) < ((lineA s).size : Int) then (20 : Int) else ((lineA s).size : Int)).toNat
theorem lineS_size (s : ByteArray) : (lineS s).size ≤ 20 := by
  unfold lineS
  rw [ByteArray.size_extract]
  split <;> omega
theorem wline_eq (s : ByteArray) (h : s.size ≤ 1000000) : words_Line s 20 = some (lineS s) := by
  unfold words_Line strings_Cut
  rw [decide_eq_true (show s.size < 4294967281 by omega), chkO_true, bind_s]
  have e : (if (20 : Int) < 0 then (0 : Int) else 20) = 20 := rfl
  simp only [e]
  have c : cutO (0 : Int) (if (20 : Int) < ((lineA s).size : Int) then (20 : Int) else ((lineA s).size : Int)) ((lineA s).size : Int) = true := by
    unfold cutO
    simp only [Bool.and_eq_true, decide_eq_true_eq]
    split <;> omega
  have c' := c
  unfold lineA at c'
  rw [c']
  rfl
theorem line_eq (n : forth_network) (id : Int) (h1 : 0 ≤ id) (h2 : id < (n.events.length : Int)) (h : (n.events.getD id.toNat e0).Text.size ≤ 1000000) : forth_network_line n id = some (lineS (n.events.getD id.toNat e0).Text) := by
  unfold forth_network_line
  rw [ev_at h1 h2, bind_s, wline_eq _ h]
  rfl
/- files -/
def hasI (l : List Int) (x : Int) : Bool := l.any fun y => x == y
theorem hasI_iff {l : List Int} {x : Int} : hasI l x = true ↔ x ∈ l := by
  unfold hasI
  rw [List.any_eq_true]
  constructor
  · rintro ⟨y, hy, e⟩
    rw [beq_iff_eq] at e
    rw [e]
    exact hy
  · intro h
    exact ⟨x, h, beq_self_eq_true x⟩
theorem containsI_eq (l : List Int) (hl : l.length ≤ 1000000) (x : Int) : slices_Contains_int_int l x = some (hasI l x) := by
  have h := loopF_inv (body := slices_Index_int_int_L1 l x) l.length (fun i s => s = (i : Int) ∧ hasI (l.take i) x = false) (fun r => (r = some (.inl ()) ∧ hasI l x = false) ∨ ∃ k : Int, r = some (.inr k) ∧ 0 ≤ k ∧ hasI l x = true) (fun i s hi hs => ?_) (fun s hs => ?_) (s0 := (0 : Int)) ⟨rfl, rfl⟩
  · unfold slices_Contains_int_int slices_Index_int_int
    rcases h with ⟨h, e⟩ | ⟨k, h, hk, e⟩
    · rw [h, e]
      rfl
    · rw [h, e, seqF_r, bind_s, decide_eq_true hk]
  · obtain ⟨rfl, hm⟩ := hs
    have hlt : decide ((i : Int) < (l.length : Int)) = true := decide_eq_true (by omega)
    have hw : IntKind.i64.wrap ((i : Int) + 1) = ((i + 1 : Nat) : Int) := by rw [wrap64 (by omega) (by omega)]; omega
    unfold slices_Index_int_int_L1
    simp only [hlt, cond_true, getI_in (0 : Int) hi, bind_s, hw]
    cases he : x == l.getD i 0
    · left
      refine ⟨_, rfl, rfl, ?_⟩
      unfold hasI at hm ⊢
      rw [take_succ_getD l 0 hi, List.any_append, hm]
      simp only [List.any_cons, List.any_nil, he]
      rfl
    · right
      refine ⟨_, rfl, Or.inr ⟨_, rfl, by omega, ?_⟩⟩
      rw [hasI_iff]
      have he : x = l.getD i 0 := by simpa using he
      rw [he, List.getD_eq_getElem?_getD, List.getElem?_eq_getElem hi]
      exact List.getElem_mem hi
  · obtain ⟨rfl, hm⟩ := hs
    rw [List.take_length] at hm
    refine ⟨.inl (), ?_, Or.inl ⟨rfl, hm⟩⟩
    unfold slices_Index_int_int_L1
    simp only [Int.lt_irrefl, decide_false, cond_false]
def shownF (most : Int) (bad : List Int) (acc : List Int) (f : Int) : List Int := bif decide ((acc.length : Int) < most) && !(hasI bad f) then acc ++ [f] else acc
def shownS (most : Int) (bad files : List Int) : List Int := files.foldl (shownF most bad) []
theorem shown_len (most : Int) (bad : List Int) : ∀ (files acc : List Int), (files.foldl (shownF most bad) acc).length ≤ acc.length + files.length
  | [], acc => Nat.le_refl _
  | f :: files, acc => by
    have := shown_len most bad files (shownF most bad acc f)
    have h2 : (shownF most bad acc f).length ≤ acc.length + 1 := by
      unfold shownF
      cases decide ((acc.length : Int) < most) && !(hasI bad f) <;> simp
    simp only [List.foldl_cons, List.length_cons]
    omega
theorem shown_most (most : Int) (h0 : 0 ≤ most) (bad : List Int) : ∀ (files acc : List Int), (acc.length : Int) ≤ most → (∀ x ∈ acc, x ∉ bad) → ((files.foldl (shownF most bad) acc).length : Int) ≤ most ∧ ∀ x ∈ files.foldl (shownF most bad) acc, x ∉ bad
  | [], acc, h, k => ⟨h, k⟩
  | f :: files, acc, h, k => by
    rw [List.foldl_cons]
    refine shown_most most h0 bad files _ ?_ ?_
    · unfold shownF
      cases hc : decide ((acc.length : Int) < most) && !(hasI bad f)
      · exact h
      · rw [Bool.and_eq_true, decide_eq_true_eq] at hc
        simp only [cond_true, List.length_append, List.length_singleton]
        omega
    · unfold shownF
      cases hc : decide ((acc.length : Int) < most) && !(hasI bad f)
      · exact k
      · intro x hx
        rw [Bool.and_eq_true, Bool.not_eq_true'] at hc
        simp only [cond_true, List.mem_append, List.mem_singleton] at hx
        rcases hx with hx | rfl
        · exact k x hx
        · intro hb
          rw [hasI_iff.2 hb] at hc
          cases hc.2
theorem shown_eq (n : forth_network) (files : List Int) (hf : files.length ≤ 1000) (hb : n.bad.length ≤ 1000) : forth_network_shown n files = some (shownS n.p.Files n.bad files) := by
  have key := loopF_inv (body := forth_network_shown_L1 files n) files.length (fun i s => s = ((i : Int), (files.take i).foldl (shownF n.p.Files n.bad) [])) (fun r => r = some (.inl (shownS n.p.Files n.bad files))) (fun i s hi hs => ?_) (fun s hs => ?_) (s0 := ((0 : Int), ([] : List Int))) rfl
  · unfold forth_network_shown
    rw [key]
    rfl
  · subst hs
    left
    have hlt : decide ((i : Int) < (files.length : Int)) = true := decide_eq_true (by omega)
    have hw : IntKind.i64.wrap ((i : Int) + 1) = ((i + 1 : Nat) : Int) := by rw [wrap64 (by omega) (by omega)]; omega
    have hlen := shown_len n.p.Files n.bad (files.take i) []
    rw [List.length_take, List.length_nil] at hlen
    refine ⟨_, ?_, rfl⟩
    unfold forth_network_shown_L1
    simp only [hlt, cond_true, getI_in (0 : Int) hi, bind_s, hw]
    rw [take_succ_getD files 0 hi, List.foldl_append, List.foldl_cons, List.foldl_nil]
    generalize (files.take i).foldl (shownF n.p.Files n.bad) [] = acc at hlen ⊢
    have c : decide (acc.length + [files.getD i 0].length ≤ 1000000) = true := decide_eq_true (by simp only [List.length_singleton]; omega)
    rw [containsI_eq n.bad (by omega), bind_s, c]
    unfold shownF
    cases decide ((acc.length : Int) < n.p.Files)
    · rfl
    · cases hasI n.bad (files.getD i 0) <;> rfl
  · subst hs
    refine ⟨_, ?_, rfl⟩
    unfold forth_network_shown_L1
    simp only [Int.lt_irrefl, decide_false, cond_false, List.take_length]
    rfl
end Go.Proofs.YtljdbikodogeiaaGreatDoor
namespace Go.Proofs.YtljdbikodogeiaaGreatDoor
open Go.RowKit
def i64 (f : Int) : Prop := -9223372036854775808 ≤ f ∧ f ≤ 9223372036854775807
def itoaS (f : Int) : ByteArray := ⟨(Lib.itoa f).toArray⟩
theorem itoa_eq {f : Int} (h : i64 f) : strconv_Itoa f = some (itoaS f) := by
  unfold strconv_Itoa
  rw [decide_eq_true h.1, decide_eq_true h.2]
  rfl
theorem itoa_size {f : Int} (h : i64 f) : (itoaS f).size ≤ 21 := by
  have := Lib.itoa_length_le f h.1 h.2
  show (Lib.itoa f).toArray.size ≤ 21
  simpa using this
def noS : ByteArray := ByteArray.mk #[]
def fileS (f : Int) : ByteArray := (ByteArray.mk #[10, 91, 102, 105, 108, 101, 32] ++ itoaS f) ++ ByteArray.mk #[93]
theorem sz_app (a b : ByteArray) : (a ++ b).size = a.size + b.size := ByteArray.size_append
theorem fileS_size {f : Int} (h : i64 f) : (fileS f).size ≤ 29 := by
  have := itoa_size h
  unfold fileS
  rw [sz_app, sz_app]
  show 7 + (itoaS f).size + 1 ≤ 29
  omega
def listF (but : List Int) (s : ByteArray) (f : Int) : ByteArray := bif hasI but f then s else s ++ fileS f
def listedS (files but : List Int) : ByteArray := files.foldl (listF but) noS
theorem listed_size (but : List Int) : ∀ (files : List Int) (s : ByteArray), (∀ f ∈ files, i64 f) → (files.foldl (listF but) s).size ≤ s.size + 29 * files.length
  | [], s, _ => by simp
  | f :: files, s, h => by
    have h1 := listed_size but files (listF but s f) fun x hx => h x (by simp [hx])
    have h2 : (listF but s f).size ≤ s.size + 29 := by
      unfold listF
      cases hasI but f
      · have := fileS_size (h f (by simp))
        rw [cond_false, sz_app]
        omega
      · rw [cond_true]
        omega
    simp only [List.foldl_cons, List.length_cons]
    omega
theorem listed_eq (files but : List Int) (hf : files.length ≤ 1000) (hb : but.length ≤ 1000) (hi : ∀ f ∈ files, i64 f) : forth_listed files but = some (listedS files but) := by
  have key := loopF_inv (body := forth_listed_L1 files but) files.length (fun i s => s = ((files.take i).foldl (listF but) noS, (i : Int))) (fun r => r = some (.inl (listedS files but))) (fun i s hi' hs => ?_) (fun s hs => ?_) (s0 := (noS, (0 : Int))) rfl
  · unfold forth_listed
    have key : loopF (forth_listed_L1 files but) (ByteArray.mk #[], (0 : Int)) = some (.inl (listedS files but)) := key
    rw [key]
    rfl
  · subst hs
    left
    have hlt : decide ((i : Int) < (files.length : Int)) = true := decide_eq_true (by omega)
    have hw : IntKind.i64.wrap ((i : Int) + 1) = ((i + 1 : Nat) : Int) := by rw [wrap64 (by omega) (by omega)]; omega
    have hm : files.getD i 0 ∈ files := by
      rw [List.getD_eq_getElem?_getD, List.getElem?_eq_getElem hi']
      exact List.getElem_mem hi'
    have hsz := listed_size but (files.take i) noS fun f hf => hi f (List.mem_of_mem_take hf)
    have h0 : noS.size = 0 := rfl
    rw [List.length_take, h0] at hsz
    refine ⟨_, ?_, rfl⟩
    unfold forth_listed_L1
    simp only [hlt, cond_true, getI_in (0 : Int) hi', bind_s, hw]
    rw [take_succ_getD files 0 hi', List.foldl_append, List.foldl_cons, List.foldl_nil]
    generalize (files.take i).foldl (listF but) noS = s at hsz ⊢
    have hfi := hi _ hm
    generalize files.getD i 0 = f at hfi ⊢
    have s1 := itoa_size hfi
    have s2 := fileS_size hfi
    have c1 : decide ((ByteArray.mk #[10, 91, 102, 105, 108, 101, 32]).size + (itoaS f).size ≤ 1000000000) = true := decide_eq_true (by show 7 + (itoaS f).size ≤ 1000000000; omega)
    have c2 : decide (((ByteArray.mk #[10, 91, 102, 105, 108, 101, 32]) ++ itoaS f).size + (ByteArray.mk #[93]).size ≤ 1000000000) = true := decide_eq_true (by rw [sz_app]; show 7 + (itoaS f).size + 1 ≤ 1000000000; omega)
    have c3 : decide (s.size + (((ByteArray.mk #[10, 91, 102, 105, 108, 101, 32]) ++ itoaS f) ++ (ByteArray.mk #[93])).size ≤ 1000000000) = true := decide_eq_true (by show s.size + (fileS f).size ≤ 1000000000; omega)
    rw [containsI_eq but (by omega), bind_s]
    unfold listF
    cases hasI but f
    · simp only [Bool.not_false, cond_true, cond_false]
      rw [itoa_eq hfi, bind_s, c1, chkO_true, c2, chkO_true, c3, chkO_true]
      rfl
    · rfl
  · subst hs
    refine ⟨_, ?_, rfl⟩
    unfold forth_listed_L1
    simp only [Int.lt_irrefl, decide_false, cond_false, List.take_length]
    rfl
/-- a network whose events are few and small, with the ways of its profile -/
structure NetOk (n : forth_network) : Prop where
  ways : n.ways.length = 9
  bad : n.bad.length ≤ 12
  ev : n.events.length ≤ 14
  txt : ∀ x ∈ n.events, x.Text.size ≤ 300
  files : ∀ x ∈ n.events, x.Files.length ≤ 10
  ints : ∀ x ∈ n.events, i64 x.Who ∧ i64 x.N ∧ ∀ f ∈ x.Files, i64 f
  size : 40 ≤ n.p.Size ∧ n.p.Size ≤ 4000
  parts : 1 ≤ n.p.Parts ∧ n.p.Parts ≤ 20
  most : 0 ≤ n.p.Files
theorem ev_mem {ev : List api_Event} {id : Int} (h1 : 0 ≤ id) (h2 : id < (ev.length : Int)) : ev.getD id.toNat e0 ∈ ev := by
  rw [List.getD_eq_getElem?_getD, List.getElem?_eq_getElem (by omega)]
  exact List.getElem_mem _
theorem msg_range {ev : List api_Event} {id than : Int} (h : msgB ev id than = true) : 0 ≤ id ∧ id < than ∧ id < (ev.length : Int) ∧ (ev.getD id.toNat e0).Kind = 0 := by
  unfold msgB at h
  simp only [Bool.and_eq_true, decide_eq_true_eq, beq_iff_eq] at h
  exact ⟨h.1, h.2.1, h.2.2.1, h.2.2.2⟩
theorem netE (n : forth_network) : forth_network.mk (api_Profile.mk n.p.Name n.p.Edit n.p.Within n.p.Delete n.p.React n.p.Thread n.p.Quote n.p.Mention n.p.Size n.p.Parts n.p.Files n.p.Bytes n.p.Types n.p.Join n.p.History n.p.Remove n.p.Level n.p.Batch n.p.Rate n.p.Down n.p.Window n.p.Keep) n.ways n.events n.bad = n := rfl
def lineOf (n : forth_network) (id : Int) : ByteArray := lineS (n.events.getD id.toNat e0).Text
def reS (n : forth_network) (x : api_Event) (id : Int) : ByteArray := bif msgB n.events x.Target id && !(sameB n 5) then noS ++ ((ByteArray.mk #[114, 101, 58, 32] ++ lineOf n x.Target) ++ ByteArray.mk #[10]) else noS
def quS (n : forth_network) (x : api_Event) (id : Int) (s : ByteArray) : ByteArray := bif msgB n.events x.Quote id && !(sameB n 6) then s ++ ((ByteArray.mk #[62, 32] ++ lineOf n x.Quote) ++ ByteArray.mk #[10]) else s
def whoS (n : forth_network) (x : api_Event) (s : ByteArray) : ByteArray := bif (x.Who != -1) && !(sameB n 7) then s ++ ((ByteArray.mk #[64] ++ itoaS x.Who) ++ ByteArray.mk #[32]) else s
def headS (n : forth_network) (id : Int) : ByteArray := whoS n (n.events.getD id.toNat e0) (quS n (n.events.getD id.toNat e0) id (reS n (n.events.getD id.toNat e0) id))
def wordsS (n : forth_network) (id : Int) (text : ByteArray) (files : List Int) : ByteArray := (headS n id ++ text) ++ listedS files (shownS n.p.Files n.bad files)
theorem reS_size (n : forth_network) (x : api_Event) (id : Int) : (reS n x id).size ≤ 25 := by
  have := lineS_size (n.events.getD x.Target.toNat e0).Text
  unfold reS
  cases msgB n.events x.Target id && !(sameB n 5)
  · show 0 ≤ 25
    omega
  · rw [cond_true, sz_app, sz_app, sz_app]
    show 0 + (4 + (lineS (n.events.getD x.Target.toNat e0).Text).size + 1) ≤ 25
    omega
theorem quS_size (n : forth_network) (x : api_Event) (id : Int) (s : ByteArray) : (quS n x id s).size ≤ s.size + 23 := by
  have := lineS_size (n.events.getD x.Quote.toNat e0).Text
  unfold quS
  cases msgB n.events x.Quote id && !(sameB n 6)
  · rw [cond_false]
    omega
  · rw [cond_true, sz_app, sz_app, sz_app]
    show s.size + (2 + (lineS (n.events.getD x.Quote.toNat e0).Text).size + 1) ≤ s.size + 23
    omega
theorem whoS_size (n : forth_network) (x : api_Event) (hx : i64 x.Who) (s : ByteArray) : (whoS n x s).size ≤ s.size + 23 := by
  have := itoa_size hx
  unfold whoS
  cases (x.Who != -1) && !(sameB n 7)
  · rw [cond_false]
    omega
  · rw [cond_true, sz_app, sz_app, sz_app]
    show s.size + (1 + (itoaS x.Who).size + 1) ≤ s.size + 23
    omega
theorem headS_size {n : forth_network} (h : NetOk n) {id : Int} (h1 : 0 ≤ id) (h2 : id < (n.events.length : Int)) : (headS n id).size ≤ 71 := by
  have a := reS_size n (n.events.getD id.toNat e0) id
  have b := quS_size n (n.events.getD id.toNat e0) id (reS n (n.events.getD id.toNat e0) id)
  have c := whoS_size n (n.events.getD id.toNat e0) (h.ints _ (ev_mem h1 h2)).1 (quS n (n.events.getD id.toNat e0) id (reS n (n.events.getD id.toNat e0) id))
  unfold headS
  omega
theorem wordsS_size {n : forth_network} (h : NetOk n) {id : Int} (h1 : 0 ≤ id) (h2 : id < (n.events.length : Int)) {text : ByteArray} (ht : text.size ≤ 300) {files : List Int} (hf : files.length ≤ 10) (hi : ∀ f ∈ files, i64 f) : (wordsS n id text files).size ≤ 700 := by
  have a := headS_size h h1 h2
  have b := listed_size (shownS n.p.Files n.bad files) files noS hi
  have h0 : noS.size = 0 := rfl
  unfold wordsS listedS
  rw [sz_app, sz_app]
  omega
theorem line_of {n : forth_network} (h : NetOk n) {id : Int} (h1 : 0 ≤ id) (h2 : id < (n.events.length : Int)) : forth_network_line n id = some (lineOf n id) :=
  line_eq n id h1 h2 (by have := h.txt _ (ev_mem h1 h2); omega)
theorem words_eq {n : forth_network} (h : NetOk n) {id : Int} (h1 : 0 ≤ id) (h2 : id < (n.events.length : Int)) {text : ByteArray} (ht : text.size ≤ 300) {files : List Int} (hf : files.length ≤ 10) (hi : ∀ f ∈ files, i64 f) : forth_network_words n id text files = some (wordsS n id text files) := by
  have hx := h.ints _ (ev_mem h1 h2)
  have hq5 := same_eq n 5 (by have := h.ways; omega)
  have hq6 := same_eq n 6 (by have := h.ways; omega)
  have hq7 := same_eq n 7 (by have := h.ways; omega)
  have hsl := shown_len n.p.Files n.bad files []
  have hls := listed_size (shownS n.p.Files n.bad files) files noS hi
  have h0 : noS.size = 0 := rfl
  have hshow := shown_eq n files (by omega) (by have := h.bad; omega)
  have hlist := listed_eq files (shownS n.p.Files n.bad files) (by omega) (by unfold shownS; simp only [List.length_nil] at hsl; omega) hi
  unfold wordsS headS
  unfold forth_network_words
  simp only [netE]
  rw [ev_at h1 h2, bind_s]
  generalize hxe : n.events.getD id.toNat e0 = x at hx
  have r1 : ((forth_network_message n x.Target id).bind fun y12 => (bif y12 then (forth_network_same n (5 : Int)).bind fun y13 => (bif (!y13) then (forth_network_line n x.Target).bind fun y14 => (chkO (decide ((ByteArray.mk #[114, 101, 58, 32]).size + y14.size ≤ 1000000000))).bind fun _ => (chkO (decide (((ByteArray.mk #[114, 101, 58, 32]) ++ y14).size + (ByteArray.mk #[10]).size ≤ 1000000000))).bind fun _ => (chkO (decide ((ByteArray.mk #[]).size + (((ByteArray.mk #[114, 101, 58, 32]) ++ y14) ++ (ByteArray.mk #[10])).size ≤ 1000000000))).bind fun _ => some (.inl ((ByteArray.mk #[]) ++ (((ByteArray.mk #[114, 101, 58, 32]) ++ y14) ++ (ByteArray.mk #[10])))) else some (.inl (ByteArray.mk #[]))) else some (.inl (ByteArray.mk #[]))) : Option (ByteArray ⊕ ByteArray)) = some (.inl (reS n x id)) := by
    have hsz := reS_size n x id
    rw [message_eq, bind_s]
    unfold reS at hsz ⊢
    cases hm : msgB n.events x.Target id
    · rfl
    · obtain ⟨m1, m2, m3, _⟩ := msg_range hm
      simp only [cond_true]
      have hq5 : forth_network_same n (5 : Int) = some (sameB n 5) := hq5
      rw [hq5, bind_s]
      cases hs : sameB n 5
      · rw [hm, hs] at hsz
        simp only [Bool.not_false, cond_true, Bool.and_self] at hsz ⊢
        rw [line_of h m1 m3, bind_s]
        have hl := lineS_size (n.events.getD x.Target.toNat e0).Text
        rw [decide_eq_true (show (ByteArray.mk #[114, 101, 58, 32]).size + (lineOf n x.Target).size ≤ 1000000000 by show 4 + (lineS (n.events.getD x.Target.toNat e0).Text).size ≤ _; omega), chkO_true,
          decide_eq_true (show ((ByteArray.mk #[114, 101, 58, 32]) ++ lineOf n x.Target).size + (ByteArray.mk #[10]).size ≤ 1000000000 by rw [sz_app]; show 4 + (lineS (n.events.getD x.Target.toNat e0).Text).size + 1 ≤ _; omega), chkO_true,
          decide_eq_true (show (ByteArray.mk #[]).size + (((ByteArray.mk #[114, 101, 58, 32]) ++ lineOf n x.Target) ++ (ByteArray.mk #[10])).size ≤ 1000000000 by rw [sz_app, sz_app]; show 0 + (4 + (lineS (n.events.getD x.Target.toNat e0).Text).size + 1) ≤ _; omega), chkO_true]
        rfl
      · rfl
  rw [r1, seqF_l]
  have z1 := reS_size n x id
  generalize reS n x id = s1 at z1 ⊢
  have r2 : ((forth_network_message n x.Quote id).bind fun y28 => (bif y28 then (forth_network_same n (6 : Int)).bind fun y29 => (bif (!y29) then (forth_network_line n x.Quote).bind fun y30 => (chkO (decide ((ByteArray.mk #[62, 32]).size + y30.size ≤ 1000000000))).bind fun _ => (chkO (decide (((ByteArray.mk #[62, 32]) ++ y30).size + (ByteArray.mk #[10]).size ≤ 1000000000))).bind fun _ => (chkO (decide (s1.size + (((ByteArray.mk #[62, 32]) ++ y30) ++ (ByteArray.mk #[10])).size ≤ 1000000000))).bind fun _ => some (.inl (s1 ++ (((ByteArray.mk #[62, 32]) ++ y30) ++ (ByteArray.mk #[10])))) else some (.inl s1)) else some (.inl s1)) : Option (ByteArray ⊕ ByteArray)) = some (.inl (quS n x id s1)) := by
    rw [message_eq, bind_s]
    unfold quS
    cases hm : msgB n.events x.Quote id
    · rfl
    · obtain ⟨m1, m2, m3, _⟩ := msg_range hm
      simp only [cond_true]
      have hq6 : forth_network_same n (6 : Int) = some (sameB n 6) := hq6
      rw [hq6, bind_s]
      cases hs : sameB n 6
      · simp only [Bool.not_false, cond_true, Bool.and_self]
        rw [line_of h m1 m3, bind_s]
        have hl := lineS_size (n.events.getD x.Quote.toNat e0).Text
        rw [decide_eq_true (show (ByteArray.mk #[62, 32]).size + (lineOf n x.Quote).size ≤ 1000000000 by show 2 + (lineS (n.events.getD x.Quote.toNat e0).Text).size ≤ _; omega), chkO_true,
          decide_eq_true (show ((ByteArray.mk #[62, 32]) ++ lineOf n x.Quote).size + (ByteArray.mk #[10]).size ≤ 1000000000 by rw [sz_app]; show 2 + (lineS (n.events.getD x.Quote.toNat e0).Text).size + 1 ≤ _; omega), chkO_true,
          decide_eq_true (show s1.size + (((ByteArray.mk #[62, 32]) ++ lineOf n x.Quote) ++ (ByteArray.mk #[10])).size ≤ 1000000000 by rw [sz_app, sz_app]; show s1.size + (2 + (lineS (n.events.getD x.Quote.toNat e0).Text).size + 1) ≤ _; omega), chkO_true]
      · rfl
  rw [r2, seqF_l]
  have z2 := quS_size n x id s1
  generalize quS n x id s1 = s2 at z2 ⊢
  have z3 := whoS_size n x hx.1 s2
  have zi := itoa_size hx.1
  have fin : ∀ s : ByteArray, s.size ≤ 100 → ((chkO (decide (s.size + text.size ≤ 1000000000))).bind fun _ => (forth_network_shown n files).bind fun y51 => (forth_listed files y51).bind fun y52 => (chkO (decide ((s ++ text).size + y52.size ≤ 1000000000))).bind fun _ => some ((s ++ text) ++ y52)) = some ((s ++ text) ++ listedS files (shownS n.p.Files n.bad files)) := by
    intro s hs
    rw [decide_eq_true (show s.size + text.size ≤ 1000000000 by omega), chkO_true, hshow, bind_s, hlist, bind_s, decide_eq_true (show (s ++ text).size + (listedS files (shownS n.p.Files n.bad files)).size ≤ 1000000000 by rw [sz_app]; unfold listedS; omega), chkO_true]
  unfold whoS
  cases hw : x.Who != -1
  · simp only [cond_false, Bool.false_and]
    exact fin s2 (by omega)
  · simp only [cond_true, Bool.true_and]
    have hq7 : forth_network_same n (7 : Int) = some (sameB n 7) := hq7
    rw [hq7, bind_s]
    cases hs : sameB n 7
    · simp only [Bool.not_false, cond_true]
      rw [itoa_eq hx.1, bind_s,
        decide_eq_true (show (ByteArray.mk #[64]).size + (itoaS x.Who).size ≤ 1000000000 by show 1 + (itoaS x.Who).size ≤ _; omega), chkO_true,
        decide_eq_true (show ((ByteArray.mk #[64]) ++ itoaS x.Who).size + (ByteArray.mk #[32]).size ≤ 1000000000 by rw [sz_app]; show 1 + (itoaS x.Who).size + 1 ≤ _; omega), chkO_true,
        decide_eq_true (show s2.size + (((ByteArray.mk #[64]) ++ itoaS x.Who) ++ (ByteArray.mk #[32])).size ≤ 1000000000 by rw [sz_app, sz_app]; show s2.size + (1 + (itoaS x.Who).size + 1) ≤ _; omega), chkO_true]
      exact fin _ (by rw [sz_app, sz_app, sz_app]; show s2.size + (1 + (itoaS x.Who).size + 1) ≤ 100; omega)
    · simp only [Bool.not_true, cond_false]
      exact fin s2 (by omega)
end Go.Proofs.YtljdbikodogeiaaGreatDoor
namespace Go.Proofs.YtljdbikodogeiaaGreatDoor
open Go.RowKit
/-- pieces of a text, as long as it is longer than one piece -/
def chopF (sz : Nat) : Nat → ByteArray → List ByteArray × ByteArray
  | 0, s => ([], s)
  | k + 1, s => bif decide (sz < s.size) then (s.extract 0 sz :: (chopF sz k (s.extract sz s.size)).1, (chopF sz k (s.extract sz s.size)).2) else ([], s)
def lastS (sz : Nat) (s : ByteArray) : ByteArray := bif decide (sz < s.size) then s.extract 0 (sz - 1) ++ ByteArray.mk #[43] else s
def partsS (s : ByteArray) (sz most : Nat) : List ByteArray := (chopF sz (most - 1) s).1 ++ [lastS sz (chopF sz (most - 1) s).2]
theorem chop_len (sz : Nat) : ∀ (k : Nat) (s : ByteArray), (chopF sz k s).1.length ≤ k
  | 0, _ => Nat.le_refl _
  | k + 1, s => by
    rw [chopF]
    cases decide (sz < s.size)
    · simp
    · have := chop_len sz k (s.extract sz s.size)
      simp only [cond_true, List.length_cons]
      omega
theorem chop_size (sz : Nat) : ∀ (k : Nat) (s : ByteArray), (∀ x ∈ (chopF sz k s).1, x.size ≤ sz) ∧ (chopF sz k s).2.size ≤ s.size
  | 0, s => ⟨fun x hx => by simp [chopF] at hx, Nat.le_refl _⟩
  | k + 1, s => by
    rw [chopF]
    cases decide (sz < s.size)
    · exact ⟨fun x hx => by simp at hx, Nat.le_refl _⟩
    · obtain ⟨h1, h2⟩ := chop_size sz k (s.extract sz s.size)
      have h3 : (s.extract sz s.size).size ≤ s.size := by rw [ByteArray.size_extract]; omega
      refine ⟨fun x hx => ?_, Nat.le_trans h2 h3⟩
      simp only [cond_true, List.mem_cons] at hx
      rcases hx with rfl | hx
      · rw [ByteArray.size_extract]
        omega
      · exact h1 x hx
theorem parts_len (s : ByteArray) (sz most : Nat) (hm : 1 ≤ most) : 1 ≤ (partsS s sz most).length ∧ (partsS s sz most).length ≤ most := by
  have := chop_len sz (most - 1) s
  unfold partsS
  rw [List.length_append, List.length_singleton]
  omega
theorem parts_size (s : ByteArray) (sz most : Nat) (hz : 1 ≤ sz) : ∀ x ∈ partsS s sz most, x.size ≤ sz := by
  intro x hx
  unfold partsS at hx
  rcases List.mem_append.1 hx with hx | hx
  · exact (chop_size sz _ _).1 x hx
  · rw [List.mem_singleton.1 hx]
    unfold lastS
    by_cases h : sz < (chopF sz (most - 1) s).2.size
    · rw [decide_eq_true h, cond_true, sz_app, ByteArray.size_extract]
      show min (sz - 1) _ - 0 + 1 ≤ sz
      omega
    · rw [decide_eq_false h, cond_false]
      omega
theorem parts_loop (sz most : Nat) (hz : 2 ≤ sz) (hz2 : sz ≤ 10000) (hm : most ≤ 100) : ∀ (k : Nat) (s : ByteArray) (acc : List ByteArray), s.size ≤ 1000000 → acc.length + k + 1 = most → loopF (words_Parts_L1 (sz : Int) (most : Int)) (s, acc) = some (.inl ((chopF sz k s).2, acc ++ (chopF sz k s).1))
  | k, s, acc, hs, ha => by
    have hw : IntKind.i64.wrap ((most : Int) - 1) = (most : Int) - 1 := wrap64 (by omega) (by omega)
    by_cases hlt : sz < s.size
    · have c1 : decide ((sz : Int) < (s.size : Int)) = true := decide_eq_true (by omega)
      cases k with
      | zero =>
        have c2 : decide (((acc.length : Nat) : Int) < (most : Int) - 1) = false := decide_eq_false (by omega)
        rw [loopF_stop (b := .inl (s, acc))]
        · simp [chopF]
        · unfold words_Parts_L1
          simp only [c1, cond_true, hw, c2, cond_false]
      | succ k =>
        have c2 : decide (((acc.length : Nat) : Int) < (most : Int) - 1) = true := decide_eq_true (by omega)
        have c3 : cutO (0 : Int) (sz : Int) (s.size : Int) = true := by
          unfold cutO
          simp only [Bool.and_eq_true, decide_eq_true_eq]
          omega
        have c4 : cutO (sz : Int) (s.size : Int) (s.size : Int) = true := by
          unfold cutO
          simp only [Bool.and_eq_true, decide_eq_true_eq]
          omega
        have c5 : decide (acc.length + [s.extract (0 : Int).toNat (sz : Int).toNat].length ≤ 1000000) = true := decide_eq_true (by simp only [List.length_singleton]; omega)
        rw [loopF_next (s' := (s.extract sz s.size, acc ++ [s.extract 0 sz]))]
        · rw [parts_loop sz most hz hz2 hm k (s.extract sz s.size) (acc ++ [s.extract 0 sz]) (by rw [ByteArray.size_extract]; omega) (by rw [List.length_append, List.length_singleton]; omega)]
          rw [chopF, decide_eq_true hlt]
          simp
        · unfold words_Parts_L1
          simp only [c1, cond_true, hw, c2, c3, c4, c5, chkO_true]
          rfl
    · have c1 : decide ((sz : Int) < (s.size : Int)) = false := decide_eq_false (by omega)
      have e : chopF sz k s = ([], s) := by
        cases k with
        | zero => rfl
        | succ k => rw [chopF, decide_eq_false hlt]; rfl
      rw [e, loopF_stop (b := .inl (s, acc))]
      · simp
      · unfold words_Parts_L1
        simp only [c1, cond_false]
theorem parts_eq (s : ByteArray) (hs : s.size ≤ 1000000) {size most : Int} (hz : 40 ≤ size ∧ size ≤ 4000) (hm : 1 ≤ most ∧ most ≤ 20) : words_Parts s size most = some (partsS s size.toNat most.toNat) := by
  obtain ⟨sz, rfl⟩ : ∃ k : Nat, size = (k : Int) := ⟨size.toNat, by omega⟩
  obtain ⟨mo, rfl⟩ : ∃ k : Nat, most = (k : Int) := ⟨most.toNat, by omega⟩
  have hsz := chop_size sz (mo - 1) s
  have hln := chop_len sz (mo - 1) s
  unfold words_Parts partsS
  rw [decide_eq_false (show ¬ (sz : Int) < 2 by omega), decide_eq_false (show ¬ (mo : Int) < 1 by omega), cond_false, cond_false, parts_loop sz mo (by omega) (by omega) (by omega) (mo - 1) s [] hs (by simp only [List.length_nil]; omega), seqF_l, List.nil_append]
  simp only [Int.toNat_natCast]
  generalize (chopF sz (mo - 1) s).2 = t at hsz ⊢
  generalize (chopF sz (mo - 1) s).1 = l at hsz hln ⊢
  have hw : IntKind.i64.wrap ((sz : Int) - 1) = ((sz - 1 : Nat) : Int) := by rw [wrap64 (by omega) (by omega)]; omega
  rw [hw, Int.toNat_natCast]
  unfold lastS
  by_cases h : sz < t.size
  · have c3 : cutO (0 : Int) ((sz - 1 : Nat) : Int) (t.size : Int) = true := by
      unfold cutO
      simp only [Bool.and_eq_true, decide_eq_true_eq]
      omega
    have hx : (t.extract (0 : Int).toNat (sz - 1)).size ≤ sz := by
      rw [ByteArray.size_extract]
      show min (sz - 1) t.size - 0 ≤ sz
      omega
    have c4 : decide ((t.extract (0 : Int).toNat (sz - 1)).size + (ByteArray.mk #[43]).size ≤ 1000000000) = true := decide_eq_true (by show _ + 1 ≤ _; omega)
    have c5 : decide (l.length + [(t.extract (0 : Int).toNat (sz - 1)) ++ (ByteArray.mk #[43])].length ≤ 1000000) = true := decide_eq_true (by simp only [List.length_singleton]; omega)
    rw [decide_eq_true (show (sz : Int) < (t.size : Int) by omega), decide_eq_true h, cond_true, cond_true, c3, chkO_true, c4, chkO_true, c5, chkO_true]
    rfl
  · have c5 : decide (l.length + [t].length ≤ 1000000) = true := decide_eq_true (by simp only [List.length_singleton]; omega)
    rw [decide_eq_false (show ¬ (sz : Int) < (t.size : Int) by omega), decide_eq_false h, cond_false, cond_false, c5, chkO_true]
/- items -/
def itemAt (id kind len : Int) (i : Nat) (t : ByteArray) : api_Item := ⟨id, (i : Int), len, kind, -1, 0, -1, -1, 0, t, []⟩
def itemsS (id kind : Int) (texts : List ByteArray) : List api_Item := (List.range texts.length).map fun i => itemAt id kind (texts.length : Int) i (texts.getD i noS)
theorem items_len (id kind : Int) (texts : List ByteArray) : (itemsS id kind texts).length = texts.length := by simp [itemsS]
theorem items_eq (id kind : Int) (texts : List ByteArray) (ht : texts.length ≤ 1000) : forth_items id kind texts = some (itemsS id kind texts) := by
  have key := loopF_inv (body := forth_items_L1 texts id kind) texts.length (fun i s => s = ((i : Int), (List.range i).map fun i => itemAt id kind (texts.length : Int) i (texts.getD i noS))) (fun r => r = some (.inl (itemsS id kind texts))) (fun i s hi hs => ?_) (fun s hs => ?_) (s0 := ((0 : Int), ([] : List api_Item))) rfl
  · unfold forth_items
    rw [key]
    rfl
  · subst hs
    left
    have hlt : decide ((i : Int) < (texts.length : Int)) = true := decide_eq_true (by omega)
    have hw : IntKind.i64.wrap ((i : Int) + 1) = ((i + 1 : Nat) : Int) := by rw [wrap64 (by omega) (by omega)]; omega
    refine ⟨_, ?_, rfl⟩
    unfold forth_items_L1
    simp only [hlt, cond_true, getI_in noS hi, bind_s, hw]
    rw [decide_eq_true (by simp only [List.length_map, List.length_range, List.length_singleton]; omega), chkO_true, List.range_succ, List.map_append]
    rfl
  · subst hs
    refine ⟨_, ?_, rfl⟩
    unfold forth_items_L1
    simp only [Int.lt_irrefl, decide_false, cond_false]
    rfl
/-- the first item, otherwise -/
def upd0 (f : api_Item → api_Item) : List api_Item → List api_Item
  | [] => []
  | x :: r => f x :: r
theorem upd0_len (f : api_Item → api_Item) (l : List api_Item) : (upd0 f l).length = l.length := by cases l <;> rfl
def i0 : api_Item := ⟨0, 0, 0, 0, 0, 0, 0, 0, 0, noS, []⟩
/-- a store into the first item -/
theorem upd_step {B : Type} (l : List api_Item) (hl : 1 ≤ l.length) (f : api_Item → api_Item) (k : List api_Item → Option B) :
    ((chkO (decide (0 ≤ (0 : Int)) && decide ((0 : Int) < ((l.length : Nat) : Int)))).bind fun _ => (getI l (0 : Int)).bind fun x => k (List.set l (0 : Int).toNat (f x))) = k (upd0 f l) := by
  cases l with
  | nil => simp at hl
  | cons x r =>
    rw [show (decide (0 ≤ (0 : Int)) && decide ((0 : Int) < (((x :: r).length : Nat) : Int))) = true by simp, chkO_true]
    rfl
theorem get_upd (l : List api_Item) (hl : 1 ≤ l.length) : getI l (0 : Int) = some (l.getD 0 i0) := by
  cases l with
  | nil => simp at hl
  | cons x r => rfl
def setOn (on : Int) (x : api_Item) : api_Item := { x with On := on }
def setQuote (q : Int) (x : api_Item) : api_Item := { x with Quote := q }
def setWho (w : Int) (x : api_Item) : api_Item := { x with Who := w }
def setFiles (f : List Int) (x : api_Item) : api_Item := { x with Files := f }
def postS (n : forth_network) (id : Int) (s : ByteArray) (on : Int) : List api_Item := upd0 (setOn on) (itemsS id 0 (partsS s n.p.Size.toNat n.p.Parts.toNat))
theorem post_len {n : forth_network} (h : NetOk n) (id : Int) (s : ByteArray) (on : Int) : 1 ≤ (postS n id s on).length ∧ (postS n id s on).length ≤ n.p.Parts.toNat := by
  have := parts_len s n.p.Size.toNat n.p.Parts.toNat (by have := h.parts; omega)
  unfold postS
  rw [upd0_len, items_len]
  exact this
theorem post_eq {n : forth_network} (h : NetOk n) (id : Int) (s : ByteArray) (hs : s.size ≤ 1000000) (on : Int) : forth_network_post n id s on = some (postS n id s on) := by
  have hp := parts_len s n.p.Size.toNat n.p.Parts.toNat (by have := h.parts; omega)
  have hpp := h.parts
  unfold forth_network_post postS
  rw [parts_eq s hs h.size h.parts, bind_s, items_eq id 0 _ (by omega), bind_s]
  exact upd_step (itemsS id 0 (partsS s n.p.Size.toNat n.p.Parts.toNat)) (by rw [items_len]; omega) (setOn on) some
/-- the items of a message -/
def firstS' (n : forth_network) (id : Int) : List api_Item :=
  let x := n.events.getD id.toNat e0
  let l := postS n id (wordsS n id x.Text x.Files) (bif msgB n.events x.Target id then placeS n x.Target else -1)
  let l2 := bif msgB n.events x.Quote id && sameB n 6 then upd0 (setQuote x.Quote) l else l
  let l3 := bif sameB n 7 then upd0 (setWho x.Who) l2 else l2
  upd0 (setFiles (shownS n.p.Files n.bad x.Files)) l3
theorem first_len {n : forth_network} (h : NetOk n) (id : Int) : 1 ≤ (firstS' n id).length ∧ (firstS' n id).length ≤ n.p.Parts.toNat := by
  have := post_len h id (wordsS n id (n.events.getD id.toNat e0).Text (n.events.getD id.toNat e0).Files) (bif msgB n.events (n.events.getD id.toNat e0).Target id then placeS n (n.events.getD id.toNat e0).Target else -1)
  unfold firstS'
  simp only [upd0_len]
  cases sameB n 7 <;> cases msgB n.events (n.events.getD id.toNat e0).Quote id && sameB n 6 <;> simp only [cond_true, cond_false, upd0_len] <;> exact this
theorem first_of {n : forth_network} (h : NetOk n) {id : Int} (h1 : 0 ≤ id) (h2 : id < (n.events.length : Int)) : forth_network_first n id = some (firstS' n id) := by
  have hm := ev_mem h1 h2
  have hxf := h.files _ hm
  have hxt := h.txt _ hm
  have hx := h.ints _ hm
  have hq6 : forth_network_same n (6 : Int) = some (sameB n 6) := same_eq n 6 (by have := h.ways; omega)
  have hq7 : forth_network_same n (7 : Int) = some (sameB n 7) := same_eq n 7 (by have := h.ways; omega)
  have hwz := wordsS_size h h1 h2 hxt hxf hx.2.2
  have hshow := shown_eq n (n.events.getD id.toNat e0).Files (by omega) (by have := h.bad; omega)
  unfold forth_network_first firstS'
  simp only [netE]
  rw [ev_at h1 h2, bind_s]
  have r1 : ((forth_network_message n (n.events.getD id.toNat e0).Target id).bind fun y4 => (bif y4 then (forth_network_place n (n.events.getD id.toNat e0).Target).bind fun y5 => some (.inl y5) else some (.inl (-1 : Int))) : Option (Int ⊕ List api_Item)) = some (.inl (bif msgB n.events (n.events.getD id.toNat e0).Target id then placeS n (n.events.getD id.toNat e0).Target else -1)) := by
    rw [message_eq, bind_s, place_eq]
    cases msgB n.events (n.events.getD id.toNat e0).Target id <;> rfl
  rw [r1, seqF_l, words_eq h h1 h2 hxt hxf hx.2.2, bind_s]
  have hpl := post_len h id (wordsS n id (n.events.getD id.toNat e0).Text (n.events.getD id.toNat e0).Files) (bif msgB n.events (n.events.getD id.toNat e0).Target id then placeS n (n.events.getD id.toNat e0).Target else -1)
  rw [post_eq h id _ (by omega), bind_s]
  generalize postS n id (wordsS n id (n.events.getD id.toNat e0).Text (n.events.getD id.toNat e0).Files) (bif msgB n.events (n.events.getD id.toNat e0).Target id then placeS n (n.events.getD id.toNat e0).Target else -1) = l at hpl ⊢
  generalize hxe : n.events.getD id.toNat e0 = x at hshow
  have r2 : ((forth_network_message n x.Quote id).bind fun y16 => (bif y16 then (forth_network_same n (6 : Int)).bind fun y17 => (bif y17 then (chkO (decide (0 ≤ (0 : Int)) && decide ((0 : Int) < ((l.length : Nat) : Int)))).bind fun _ => (getI l (0 : Int)).bind fun x19 => some (.inl (List.set l (0 : Int).toNat (api_Item.mk x19.Event x19.Part x19.Of x19.Kind x19.On x19.OnPart x.Quote x19.Who x19.N x19.Text x19.Files))) else some (.inl l)) else some (.inl l)) : Option (List api_Item ⊕ List api_Item)) = some (.inl (bif msgB n.events x.Quote id && sameB n 6 then upd0 (setQuote x.Quote) l else l)) := by
    rw [message_eq, bind_s, hq6]
    cases msgB n.events x.Quote id
    · rfl
    · simp only [cond_true, bind_s]
      cases sameB n 6
      · rfl
      · simp only [cond_true, Bool.and_self]
        exact upd_step l hpl.1 (setQuote x.Quote) fun z => some (Sum.inl z : List api_Item ⊕ List api_Item)
  rw [r2, seqF_l, hq7, bind_s]
  have hl2 : 1 ≤ (bif msgB n.events x.Quote id && sameB n 6 then upd0 (setQuote x.Quote) l else l).length := by
    cases msgB n.events x.Quote id && sameB n 6
    · exact hpl.1
    · rw [cond_true, upd0_len]
      exact hpl.1
  generalize (bif msgB n.events x.Quote id && sameB n 6 then upd0 (setQuote x.Quote) l else l) = l2 at hl2 ⊢
  cases sameB n 7
  · simp only [cond_false]
    rw [hshow, bind_s]
    exact upd_step l2 hl2 (setFiles (shownS n.p.Files n.bad x.Files)) some
  · simp only [cond_true]
    rw [hshow]
    simp only [bind_s]
    cases l2 with
    | nil => simp at hl2
    | cons y r =>
      rw [show (decide (0 ≤ (0 : Int)) && decide ((0 : Int) < (((y :: r).length : Nat) : Int))) = true by simp, chkO_true]
      rfl
end Go.Proofs.YtljdbikodogeiaaGreatDoor
namespace Go.Proofs.YtljdbikodogeiaaGreatDoor
open Go.RowKit
def actB (ev : List api_Event) (id : Int) : Bool := msgB ev (ev.getD id.toNat e0).Target id && (!((ev.getD (ev.getD id.toNat e0).Target.toNat e0).Group != (ev.getD id.toNat e0).Group) && ((ev.getD id.toNat e0).Kind != 1 || (ev.getD id.toNat e0).Author == (ev.getD (ev.getD id.toNat e0).Target.toNat e0).Author))
theorem act_eq (n : forth_network) {id : Int} (h1 : 0 ≤ id) (h2 : id < (n.events.length : Int)) : forth_network_act n id = some (actB n.events id) := by
  unfold forth_network_act actB
  simp only [netE]
  rw [ev_at h1 h2, bind_s, message_eq, bind_s]
  cases hm : msgB n.events (n.events.getD id.toNat e0).Target id
  · rfl
  · obtain ⟨m1, m2, m3, _⟩ := msg_range hm
    simp only [Bool.not_true, cond_false, Bool.true_and]
    rw [ev_at m1 m3, bind_s]
    cases (n.events.getD (n.events.getD id.toNat e0).Target.toNat e0).Group != (n.events.getD id.toNat e0).Group
    · cases (n.events.getD id.toNat e0).Kind != 1 <;> rfl
    · rfl
def allT (many : Nat) (texts : List ByteArray) : List ByteArray := List.take (List.replicate many noS).length texts ++ List.drop texts.length (List.replicate many noS)
theorem allT_len (many : Nat) (texts : List ByteArray) : (allT many texts).length = many := by
  unfold allT
  rw [List.length_append, List.length_take, List.length_drop, List.length_replicate]
  omega
def setAct (on : Int) (i : Nat) (x : api_Item) : api_Item := { x with On := on, OnPart := (i : Int) }
def actAll (on : Int) (l : List api_Item) : List api_Item := (List.range l.length).map fun i => setAct on i (l.getD i i0)
theorem actAll_len (on : Int) (l : List api_Item) : (actAll on l).length = l.length := by simp [actAll]
theorem get_mid {P r : List api_Item} {a : api_Item} {i : Nat} (h : P.length = i) : getI (P ++ a :: r) (i : Int) = some a := by
  rw [getI_nat, List.getElem?_append_right (by omega), h, Nat.sub_self]
  rfl
theorem set_mid {P r : List api_Item} {a b : api_Item} {i : Nat} (h : P.length = i) : (P ++ a :: r).set i b = P ++ b :: r := by
  rw [List.set_append_right _ _ (by omega), h, Nat.sub_self]
  rfl
theorem each_loop (x : api_Event) (l : List api_Item) (hl : l.length ≤ 1000) : loopF (forth_network_each_L1 l x) ((0 : Int), l) = some (.inl (actAll x.Target l)) := by
  refine loopF_inv (body := forth_network_each_L1 l x) l.length (fun i s => s = ((i : Int), (List.range i).map (fun j => setAct x.Target j (l.getD j i0)) ++ l.drop i)) (fun r => r = some (.inl (actAll x.Target l))) (fun i s hi hs => ?_) (fun s hs => ?_) rfl
  · subst hs
    left
    have hlt : decide ((i : Int) < ((l.length : Nat) : Int)) = true := decide_eq_true (by omega)
    have hw : IntKind.i64.wrap ((i : Int) + 1) = ((i + 1 : Nat) : Int) := by rw [wrap64 (by omega) (by omega)]; omega
    have hP : ((List.range i).map fun j => setAct x.Target j (l.getD j i0)).length = i := by simp
    have hd : l.drop i = l.getD i i0 :: l.drop (i + 1) := by
      rw [List.drop_eq_getElem_cons hi, List.getD_eq_getElem?_getD, List.getElem?_eq_getElem hi]
      rfl
    have hc : (decide (0 ≤ (i : Int)) && decide ((i : Int) < ((((List.range i).map fun j => setAct x.Target j (l.getD j i0)) ++ l.getD i i0 :: l.drop (i + 1)).length : Nat))) = true := by
      rw [List.length_append, hP, List.length_cons]
      simp only [Bool.and_eq_true, decide_eq_true_eq]
      omega
    refine ⟨_, ?_, rfl⟩
    unfold forth_network_each_L1
    simp only [hlt, cond_true, hw]
    rw [hd, hc, chkO_true, get_mid hP, bind_s]
    simp only [Int.toNat_natCast]
    rw [set_mid hP, get_mid hP, bind_s, set_mid hP, List.range_succ, List.map_append, List.append_assoc]
    rfl
  · subst hs
    refine ⟨_, ?_, rfl⟩
    unfold forth_network_each_L1
    simp only [Int.lt_irrefl, decide_false, cond_false, List.drop_length, List.append_nil]
    rfl
def eachS (n : forth_network) (id kind : Int) (texts : List ByteArray) : List api_Item := actAll (n.events.getD id.toNat e0).Target (itemsS id kind (allT (firstS' n (n.events.getD id.toNat e0).Target).length texts))
theorem each_len (n : forth_network) (id kind : Int) (texts : List ByteArray) : (eachS n id kind texts).length = (firstS' n (n.events.getD id.toNat e0).Target).length := by
  unfold eachS
  rw [actAll_len, items_len, allT_len]
theorem each_eq {n : forth_network} (h : NetOk n) {id : Int} (h1 : 0 ≤ id) (h2 : id < (n.events.length : Int)) (t1 : 0 ≤ (n.events.getD id.toNat e0).Target) (t2 : (n.events.getD id.toNat e0).Target < (n.events.length : Int)) (kind : Int) (texts : List ByteArray) : forth_network_each n id kind texts = some (eachS n id kind texts) := by
  have hf := first_len h (n.events.getD id.toNat e0).Target
  have hp := h.parts
  unfold forth_network_each eachS
  simp only [netE]
  rw [ev_at h1 h2, bind_s, first_of h t1 t2, bind_s]
  have hc : (decide (0 ≤ (((firstS' n (n.events.getD id.toNat e0).Target).length : Nat) : Int)) && decide ((((firstS' n (n.events.getD id.toNat e0).Target).length : Nat) : Int) ≤ 1000000)) = true := by
    simp only [Bool.and_eq_true, decide_eq_true_eq]
    omega
  rw [hc, chkO_true, Int.toNat_natCast]
  have he := items_eq id kind (allT (firstS' n (n.events.getD id.toNat e0).Target).length texts) (by rw [allT_len]; omega)
  have he' := he
  unfold allT at he'
  have hn : noS = ByteArray.mk #[] := rfl
  rw [hn] at he'
  rw [he', bind_s]
  have := each_loop (n.events.getD id.toNat e0) (itemsS id kind (allT (firstS' n (n.events.getD id.toNat e0).Target).length texts)) (by rw [items_len, allT_len]; omega)
  unfold allT at this ⊢
  rw [hn] at this ⊢
  rw [this]
  rfl
/-- the items of an edit -/
def editText (n : forth_network) (id : Int) : ByteArray := (((ByteArray.mk #[101, 100, 105, 116, 58, 32] ++ lineOf n (n.events.getD id.toNat e0).Target) ++ ByteArray.mk #[10]) ++ (n.events.getD id.toNat e0).Text) ++ listedS (n.events.getD id.toNat e0).Files []
def editS (n : forth_network) (id : Int) : List api_Item :=
  bif sameB n 2 then upd0 (setFiles (shownS n.p.Files n.bad (n.events.getD id.toNat e0).Files)) (eachS n id 1 (partsS (wordsS n (n.events.getD id.toNat e0).Target (n.events.getD id.toNat e0).Text (n.events.getD id.toNat e0).Files) n.p.Size.toNat (firstS' n (n.events.getD id.toNat e0).Target).length))
  else postS n id (editText n id) (placeS n (n.events.getD id.toNat e0).Target)
theorem edit_eq {n : forth_network} (h : NetOk n) {id : Int} (h1 : 0 ≤ id) (h2 : id < (n.events.length : Int)) (t1 : 0 ≤ (n.events.getD id.toNat e0).Target) (t2 : (n.events.getD id.toNat e0).Target < (n.events.length : Int)) : forth_network_edit n id = some (editS n id) := by
  have hm := ev_mem h1 h2
  have hxf := h.files _ hm
  have hxt := h.txt _ hm
  have hx := h.ints _ hm
  have hpp := h.parts
  have hq2 : forth_network_same n (2 : Int) = some (sameB n 2) := same_eq n 2 (by have := h.ways; omega)
  have hfl := first_len h (n.events.getD id.toNat e0).Target
  have hwz := wordsS_size h t1 t2 hxt hxf hx.2.2
  have hshow := shown_eq n (n.events.getD id.toNat e0).Files (by omega) (by have := h.bad; omega)
  have hls := listed_size [] (n.events.getD id.toNat e0).Files noS hx.2.2
  have h0 : noS.size = 0 := rfl
  have hll := lineS_size (n.events.getD (n.events.getD id.toNat e0).Target.toNat e0).Text
  have hlo : (lineOf n (n.events.getD id.toNat e0).Target).size ≤ 20 := hll
  unfold forth_network_edit editS
  simp only [netE]
  rw [ev_at h1 h2, bind_s, hq2, bind_s]
  cases sameB n 2
  · simp only [Bool.not_false, cond_true, cond_false]
    rw [line_of h t1 t2, bind_s]
    rw [decide_eq_true (show (ByteArray.mk #[101, 100, 105, 116, 58, 32]).size + (lineOf n (n.events.getD id.toNat e0).Target).size ≤ 1000000000 by show 6 + _ ≤ _; omega), chkO_true,
      decide_eq_true (show ((ByteArray.mk #[101, 100, 105, 116, 58, 32]) ++ lineOf n (n.events.getD id.toNat e0).Target).size + (ByteArray.mk #[10]).size ≤ 1000000000 by rw [sz_app]; show 6 + _ + 1 ≤ _; omega), chkO_true,
      decide_eq_true (show (((ByteArray.mk #[101, 100, 105, 116, 58, 32]) ++ lineOf n (n.events.getD id.toNat e0).Target) ++ (ByteArray.mk #[10])).size + (n.events.getD id.toNat e0).Text.size ≤ 1000000000 by rw [sz_app, sz_app]; show 6 + _ + 1 + _ ≤ _; omega), chkO_true,
      listed_eq _ [] (by omega) (by simp) hx.2.2, bind_s,
      decide_eq_true (show ((((ByteArray.mk #[101, 100, 105, 116, 58, 32]) ++ lineOf n (n.events.getD id.toNat e0).Target) ++ (ByteArray.mk #[10])) ++ (n.events.getD id.toNat e0).Text).size + (listedS (n.events.getD id.toNat e0).Files []).size ≤ 1000000000 by unfold listedS; rw [sz_app, sz_app, sz_app]; show 6 + _ + 1 + _ + _ ≤ _; omega), chkO_true,
      place_eq, bind_s]
    have := post_eq h id (editText n id) (by unfold editText listedS; rw [sz_app, sz_app, sz_app, sz_app]; show 6 + _ + 1 + _ + _ ≤ _; omega) (placeS n (n.events.getD id.toNat e0).Target)
    unfold editText at this ⊢
    rw [this]
    rfl
  · simp only [Bool.not_true, cond_true, cond_false]
    rw [words_eq h t1 t2 hxt hxf hx.2.2, bind_s, first_of h t1 t2, bind_s, parts_eq _ (by omega) h.size ⟨by omega, by omega⟩, bind_s, each_eq h h1 h2 t1 t2, bind_s, hshow, bind_s, Int.toNat_natCast]
    exact upd_step _ (by rw [each_len]; omega) (setFiles (shownS n.p.Files n.bad (n.events.getD id.toNat e0).Files)) some
/-- the items of a deletion -/
def removeS (n : forth_network) (id : Int) : List api_Item :=
  bif sameB n 3 then eachS n id 2 []
  else bif (n.ways.getD 3 w0).How == 2 then eachS n id 1 [ByteArray.mk #[40, 100, 101, 108, 101, 116, 101, 100, 41]]
  else postS n id (ByteArray.mk #[97, 32, 109, 101, 115, 115, 97, 103, 101, 32, 119, 97, 115, 32, 100, 101, 108, 101, 116, 101, 100]) (placeS n (n.events.getD id.toNat e0).Target)
theorem remove_eq {n : forth_network} (h : NetOk n) {id : Int} (h1 : 0 ≤ id) (h2 : id < (n.events.length : Int)) (t1 : 0 ≤ (n.events.getD id.toNat e0).Target) (t2 : (n.events.getD id.toNat e0).Target < (n.events.length : Int)) : forth_network_remove n id = some (removeS n id) := by
  have hg : getI n.ways (3 : Int) = some (n.ways.getD 3 w0) := getI_in w0 (show 3 < n.ways.length by have := h.ways; omega)
  have e1 := each_eq h h1 h2 t1 t2 2 []
  have e2 := each_eq h h1 h2 t1 t2 1 [ByteArray.mk #[40, 100, 101, 108, 101, 116, 101, 100, 41]]
  have e3 := post_eq h id (ByteArray.mk #[97, 32, 109, 101, 115, 115, 97, 103, 101, 32, 119, 97, 115, 32, 100, 101, 108, 101, 116, 101, 100]) (by decide) (placeS n (n.events.getD id.toNat e0).Target)
  unfold forth_network_remove removeS sameB
  simp only [netE]
  rw [hg, bind_s, e1, e2, ev_at h1 h2]
  cases (n.ways.getD 3 w0).How == 0
  · cases (n.ways.getD 3 w0).How == 2
    · simp only [cond_false, bind_s]
      rw [place_eq, bind_s, e3]
      rfl
    · rfl
  · rfl
/-- the items of a reaction -/
def reactText (n : forth_network) (id : Int) : ByteArray := bif (n.events.getD id.toNat e0).Kind == 4 then (ByteArray.mk #[114, 101, 97, 99, 116, 105, 111, 110, 32] ++ itoaS (n.events.getD id.toNat e0).N) ++ ByteArray.mk #[32, 116, 97, 107, 101, 110, 32, 98, 97, 99, 107] else ByteArray.mk #[114, 101, 97, 99, 116, 105, 111, 110, 32] ++ itoaS (n.events.getD id.toNat e0).N
def reactKind (n : forth_network) (id : Int) : Int := bif (n.events.getD id.toNat e0).Kind == 4 then 4 else 3
def reactS (n : forth_network) (id : Int) : List api_Item :=
  bif sameB n 4 then [⟨id, 0, 1, reactKind n id, (n.events.getD id.toNat e0).Target, 0, -1, -1, (n.events.getD id.toNat e0).N, noS, []⟩]
  else postS n id (reactText n id) (placeS n (n.events.getD id.toNat e0).Target)
theorem react_eq {n : forth_network} (h : NetOk n) {id : Int} (h1 : 0 ≤ id) (h2 : id < (n.events.length : Int)) : forth_network_react n id = some (reactS n id) := by
  have hx := h.ints _ (ev_mem h1 h2)
  have hq4 : forth_network_same n (4 : Int) = some (sameB n 4) := same_eq n 4 (by have := h.ways; omega)
  have hz := itoa_size hx.2.1
  have i1 := items_eq id 3 [ByteArray.mk #[]] (by decide)
  have i2 := items_eq id 4 [ByteArray.mk #[]] (by decide)
  unfold forth_network_react reactS reactText reactKind
  simp only [netE]
  rw [ev_at h1 h2, bind_s, itoa_eq hx.2.1, bind_s,
    decide_eq_true (show (ByteArray.mk #[114, 101, 97, 99, 116, 105, 111, 110, 32]).size + (itoaS (n.events.getD id.toNat e0).N).size ≤ 1000000000 by show 9 + _ ≤ _; omega), chkO_true]
  cases (n.events.getD id.toNat e0).Kind == 4
  · simp only [cond_false]
    rw [hq4, bind_s]
    cases sameB n 4
    · simp only [Bool.not_false, cond_true, cond_false]
      rw [place_eq, bind_s, post_eq h id _ (by rw [sz_app]; show 9 + _ ≤ _; omega)]
      rfl
    · simp only [Bool.not_true, cond_true, cond_false]
      rw [i1]
      rfl
  · simp only [cond_true]
    rw [decide_eq_true (show ((ByteArray.mk #[114, 101, 97, 99, 116, 105, 111, 110, 32]) ++ itoaS (n.events.getD id.toNat e0).N).size + (ByteArray.mk #[32, 116, 97, 107, 101, 110, 32, 98, 97, 99, 107]).size ≤ 1000000000 by rw [sz_app]; show 9 + _ + 11 ≤ _; omega), chkO_true, hq4, bind_s]
    cases sameB n 4
    · simp only [Bool.not_false, cond_true, cond_false]
      rw [place_eq, bind_s, post_eq h id _ (by rw [sz_app, sz_app]; show 9 + _ + 11 ≤ _; omega)]
      rfl
    · simp only [Bool.not_true, cond_true, cond_false]
      rw [i2]
      rfl
/-- the items of an event -/
def allS (n : forth_network) (id : Int) : List api_Item :=
  bif (n.events.getD id.toNat e0).Kind == 0 then firstS' n id
  else bif !(actB n.events id) then []
  else bif (n.events.getD id.toNat e0).Kind == 1 then editS n id
  else bif (n.events.getD id.toNat e0).Kind == 2 then removeS n id
  else bif (n.events.getD id.toNat e0).Kind == 3 then reactS n id
  else bif (n.events.getD id.toNat e0).Kind == 4 then reactS n id else []
theorem act_target {ev : List api_Event} {id : Int} (h : actB ev id = true) : 0 ≤ (ev.getD id.toNat e0).Target ∧ (ev.getD id.toNat e0).Target < id ∧ (ev.getD id.toNat e0).Target < (ev.length : Int) ∧ (ev.getD (ev.getD id.toNat e0).Target.toNat e0).Kind = 0 := by
  unfold actB at h
  rw [Bool.and_eq_true] at h
  exact msg_range h.1
theorem all_eq {n : forth_network} (h : NetOk n) {id : Int} (h1 : 0 ≤ id) (h2 : id < (n.events.length : Int)) : forth_network_all n id = some (allS n id) := by
  unfold forth_network_all allS
  simp only [netE]
  rw [ev_at h1 h2, bind_s]
  cases (n.events.getD id.toNat e0).Kind == 0
  · simp only [cond_false]
    rw [act_eq n h1 h2, bind_s]
    cases ha : actB n.events id
    · rfl
    · obtain ⟨t1, _, t2, _⟩ := act_target ha
      simp only [Bool.not_true, cond_false]
      rw [edit_eq h h1 h2 t1 t2, remove_eq h h1 h2 t1 t2, react_eq h h1 h2]
      cases (n.events.getD id.toNat e0).Kind == 1
      · cases (n.events.getD id.toNat e0).Kind == 2
        · cases (n.events.getD id.toNat e0).Kind == 3
          · cases (n.events.getD id.toNat e0).Kind == 4 <;> rfl
          · rfl
        · rfl
      · rfl
  · simp only [cond_true]
    rw [first_of h h1 h2]
    rfl
end Go.Proofs.YtljdbikodogeiaaGreatDoor
namespace Go.Proofs.YtljdbikodogeiaaGreatDoor
open Go.RowKit
theorem all_true (n : Nat) : ((List.range n).all fun _ => true) = true := by
  rw [List.all_eq_true]
  exact fun _ _ => rfl
theorem equal_refl (l : List api_Way) (hl : l.length ≤ 1000000) : slices_Equal_api_Way_api_Way l l = some true := by
  have h := loopF_idx (body := slices_Equal_api_Way_api_Way_L1 l l) l.length (fun _ => true) false (fun i hi => by
    have hlt : decide ((i : Int) < (l.length : Int)) = true := decide_eq_true (by omega)
    have hw : IntKind.i64.wrap ((i : Int) + 1) = (i : Int) + 1 := wrap64 (by omega) (by omega)
    unfold slices_Equal_api_Way_api_Way_L1
    simp only [hlt, cond_true, getI_in w0 hi, bind_s, hw, beq_self_eq_true, Bool.and_self, Bool.not_true, cond_false]) (by
    unfold slices_Equal_api_Way_api_Way_L1
    simp only [Int.lt_irrefl, decide_false, cond_false])
  have hn : ((l.length : Int) != (l.length : Int)) = false := by simp
  unfold slices_Equal_api_Way_api_Way
  rw [hn, cond_false, h, all_true]
  rfl
def netOf (p : api_Profile) (ev : List api_Event) (bad : List Int) : forth_network := ⟨p, compS p, ev, bad⟩
def forthS (p : api_Profile) (ev : List api_Event) (bad : List Int) (id : Int) : List api_Item × Int :=
  bif decide (id < 0) then ([], 4) else bif decide ((ev.length : Int) ≤ id) then ([], 4) else (allS (netOf p ev bad) id, 0)
theorem forth_eq {p : api_Profile} (hp : ProfOk p) (hc : chk p = 0) {ev : List api_Event} {bad : List Int} (h : NetOk (netOf p ev bad)) (id : Int) : forth_Forth p (compS p) ev bad id = some (forthS p ev bad id) := by
  unfold forth_Forth forthS
  rw [compile_eq p hp, bind_s, hc]
  simp only [bne_self_eq_false, cond_false]
  rw [equal_refl _ (by simp [compS]), bind_s]
  simp only [Bool.not_true, cond_false]
  by_cases h1 : id < 0
  · rw [decide_eq_true h1]
    rfl
  · by_cases h2 : (ev.length : Int) ≤ id
    · rw [decide_eq_false h1, decide_eq_true h2]
      rfl
    · rw [decide_eq_false h1, decide_eq_false h2]
      have := all_eq h (id := id) (by omega) (by show id < (ev.length : Int); omega)
      unfold netOf at this ⊢
      simp only [cond_false]
      rw [this]
      rfl
/- comparing -/
theorem ints_refl (a : List Int) (h : a.length ≤ 1000000) : ref10_Ints a a = some true := by
  have h := loopF_idx (body := ref10_Ints_L1 a a) a.length (fun _ => true) false (fun i hi => by
    have hlt : decide ((i : Int) < (a.length : Int)) = true := decide_eq_true (by omega)
    have hw : IntKind.i64.wrap ((i : Int) + 1) = (i : Int) + 1 := wrap64 (by omega) (by omega)
    have hn : (a.getD i 0 != a.getD i 0) = false := by simp
    unfold ref10_Ints_L1
    simp only [hlt, cond_true, getI_in (0 : Int) hi, bind_s, hw, hn, cond_false]) (by
    unfold ref10_Ints_L1
    simp only [Int.lt_irrefl, decide_false, cond_false])
  have hn : ((a.length : Int) != (a.length : Int)) = false := by simp
  unfold ref10_Ints
  rw [hn, cond_false, h, all_true]
  rfl
theorem item_refl (a : api_Item) (h : a.Files.length ≤ 1000000) : ref21_SameItem a a = some true := by
  unfold ref21_SameItem
  rw [ints_refl _ h]
  simp only [beq_self_eq_true, cond_true, seqF_l, bind_s]
def fewE (e : api_Event) : Bool := decide ((e.Causes.length : Int) ≤ 10) && (decide ((e.Files.length : Int) ≤ 10) && decide ((e.Text.size : Int) ≤ 300))
theorem fewE_eq (e : api_Event) : ref14_Few e = some (fewE e) := by
  unfold ref14_Few fewE
  cases decide ((e.Causes.length : Int) ≤ 10)
  · rfl
  · cases decide ((e.Files.length : Int) ≤ 10) <;> rfl
def fewB (ev : List api_Event) (bad : List Int) : Bool := (ev.all fewE && decide ((ev.length : Int) ≤ 14)) && decide ((bad.length : Int) ≤ 12)
theorem few_eq (ev : List api_Event) (bad : List Int) : ref21_Few ev bad 14 = some (fewB ev bad) := by
  have fewall : ref14_FewAll ev 14 = some (ev.all fewE && decide ((ev.length : Int) ≤ 14)) := by
    unfold ref14_FewAll
    by_cases hl : ev.length ≤ 14
    · have h := loopF_idx (body := ref14_FewAll_L1 ev 14) ev.length (fun i => fewE (ev.getD i e0)) false (fun i hi => by
        have hlt : decide ((i : Int) < (ev.length : Int)) = true := decide_eq_true (by omega)
        have hle : decide ((i : Int) ≤ 14) = true := decide_eq_true (by omega)
        have hw : IntKind.i64.wrap ((i : Int) + 1) = (i : Int) + 1 := wrap64 (by omega) (by omega)
        unfold ref14_FewAll_L1
        simp only [hlt, hle, cond_true, getI_in e0 hi, bind_s, hw, fewE_eq]
        cases fewE (ev.getD i e0) <;> rfl) (by
        unfold ref14_FewAll_L1
        simp only [Int.lt_irrefl, decide_false, cond_false])
      have e : ev.all fewE = (List.range ev.length).all fun i => fewE (ev.getD i e0) := by
        apply bool_ext
        rw [List.all_eq_true, List.all_eq_true]
        constructor
        · intro h i hi
          have hi := List.mem_range.1 hi
          rw [List.getD_eq_getElem?_getD, List.getElem?_eq_getElem hi]
          exact h _ (List.getElem_mem hi)
        · intro h x hx
          obtain ⟨i, hi, rfl⟩ := List.getElem_of_mem hx
          have := h i (List.mem_range.2 hi)
          rw [List.getD_eq_getElem?_getD, List.getElem?_eq_getElem hi] at this
          exact this
      rw [h, e]
      cases (List.range ev.length).all fun i => fewE (ev.getD i e0) <;> rfl
    · have hd : decide ((ev.length : Int) ≤ 14) = false := decide_eq_false (by omega)
      have key := loopF_inv (body := ref14_FewAll_L1 ev 14) 15 (fun i s => s = (i : Int)) (fun r => r = some (.inl ()) ∨ r = some (.inr false)) (fun i s hi hs => ?_) (fun s hs => ?_) (s0 := (0 : Int)) rfl
      · rw [hd, Bool.and_false]
        rcases key with h | h
        · rw [h]
          rfl
        · rw [h]
          rfl
      · subst hs
        have hlt : decide ((i : Int) < (ev.length : Int)) = true := decide_eq_true (by omega)
        have hle : decide ((i : Int) ≤ 14) = true := decide_eq_true (by omega)
        have hw : IntKind.i64.wrap ((i : Int) + 1) = ((i + 1 : Nat) : Int) := by rw [wrap64 (by omega) (by omega)]; omega
        unfold ref14_FewAll_L1
        have hil : i < ev.length := by omega
        simp only [hlt, hle, cond_true, getI_in e0 hil, bind_s, hw, fewE_eq]
        cases fewE (ev.getD i e0)
        · right
          exact ⟨_, rfl, Or.inr rfl⟩
        · left
          exact ⟨_, rfl, rfl⟩
      · subst hs
        refine ⟨.inl (), ?_, Or.inl rfl⟩
        have hle : decide (((15 : Nat) : Int) ≤ 14) = false := rfl
        unfold ref14_FewAll_L1
        rw [hle]
        cases decide (((15 : Nat) : Int) < (ev.length : Int)) <;> rfl
  unfold ref21_Few fewB
  rw [fewall, bind_s]
  cases ev.all fewE && decide ((ev.length : Int) ≤ 14) <;> rfl
theorem prof_ranges {p : api_Profile} (h : chk p = 0) : (40 ≤ p.Size ∧ p.Size ≤ 4000) ∧ (1 ≤ p.Parts ∧ p.Parts ≤ 20) ∧ 0 ≤ p.Files := by
  unfold chk at h
  cases h1 : profB p
  · rw [h1] at h; cases h
  cases h2 : rngP p
  · rw [h1, h2] at h; cases h
  have h3 : (numsOf p).all (rangeB 0 1073741824) = true := by
    unfold profB at h1
    simp only [Bool.and_eq_true] at h1
    exact h1.1.1.1.1.1
  have g : ∀ x ∈ numsOf p, 0 ≤ x ∧ x ≤ 1073741824 := fun x hx => by
    have := List.all_eq_true.1 h3 x hx
    simpa [rangeB] using this
  have a1 := g p.Files (by simp [numsOf])
  unfold rngP rangeB at h2
  simp only [Bool.and_eq_true, decide_eq_true_eq] at h2
  exact ⟨h2.1.1.1.1.1.1.1, h2.1.1.1.1.1.1.2, a1.1⟩
theorem net_ok {p : api_Profile} (hc : chk p = 0) {ev : List api_Event} {bad : List Int} (hf : fewB ev bad = true) (hi : ∀ x ∈ ev, i64 x.Who ∧ i64 x.N ∧ ∀ f ∈ x.Files, i64 f) : NetOk (netOf p ev bad) := by
  unfold fewB at hf
  simp only [Bool.and_eq_true, decide_eq_true_eq, List.all_eq_true] at hf
  obtain ⟨⟨h1, h2⟩, h3⟩ := hf
  have h1 : ∀ x ∈ ev, x.Files.length ≤ 10 ∧ x.Text.size ≤ 300 := fun x hx => by
    have := h1 x hx
    unfold fewE at this
    simp only [Bool.and_eq_true, decide_eq_true_eq] at this
    omega
  obtain ⟨a1, a2, a3⟩ := prof_ranges hc
  exact ⟨rfl, by show bad.length ≤ 12; omega, by show ev.length ≤ 14; omega, fun x hx => (h1 x hx).2, fun x hx => (h1 x hx).1, hi, a1, a2, a3⟩
end Go.Proofs.YtljdbikodogeiaaGreatDoor
namespace Go.Proofs.YtljdbikodogeiaaGreatDoor
open Go.RowKit
def plainP : api_Profile := (api_Profile.mk (ByteArray.mk #[110]) (0 : Int) (0 : Int) (2 : Int) false (0 : Int) false false (40 : Int) (3 : Int) (0 : Int) (0 : Int) ([] : List ByteArray) (0 : Int) (0 : Int) (0 : Int) (0 : Int) false (1 : Int) (0 : Int) (1 : Int) (0 : Int))
def actE (kind target n : Int) (text : ByteArray) : api_Event := (api_Event.mk (1 : Int) (0 : Int) ([] : List Int) kind (0 : Int) target (-1 : Int) (-1 : Int) n text ([] : List Int) (0 : Int))
def storyE : List api_Event := [actE 0 (-1) 0 (ByteArray.mk #[104, 101, 108, 108, 111]), actE 0 0 0 (ByteArray.mk #[121, 101, 115]), actE 1 0 0 (ByteArray.mk #[104, 117, 108, 108, 111]), actE 3 0 7 (ByteArray.mk #[]), actE 2 0 0 (ByteArray.mk #[])]
theorem plain_eq : law21_plain = some plainP := rfl
theorem story_eq : law21_story = some storyE := rfl
theorem plain_ok : ProfOk plainP := ⟨by decide, by decide, fun t ht => by simp [plainP] at ht⟩
theorem plain_chk : chk plainP = 0 := by kernel_rfl
theorem story_few : fewB storyE [] = true := by kernel_rfl
theorem story_net : NetOk (netOf plainP storyE []) := net_ok plain_chk story_few fun x hx => by
  have : x ∈ [actE 0 (-1) 0 (ByteArray.mk #[104, 101, 108, 108, 111]), actE 0 0 0 (ByteArray.mk #[121, 101, 115]), actE 1 0 0 (ByteArray.mk #[104, 117, 108, 108, 111]), actE 3 0 7 (ByteArray.mk #[]), actE 2 0 0 (ByteArray.mk #[])] := hx
  simp only [List.mem_cons, List.not_mem_nil, or_false] at this
  rcases this with rfl | rfl | rfl | rfl | rfl <;> exact ⟨by unfold i64 actE; decide, by unfold i64 actE; decide, fun f hf => by simp [actE] at hf⟩
theorem itoa7 : itoaS 7 = ByteArray.mk #[55] := by
  unfold itoaS Lib.itoa
  rw [if_neg (by decide), Lib.decDigits]
  rfl
def oneI (id kind on : Int) (text : ByteArray) : api_Item := ⟨id, 0, 1, kind, on, 0, -1, -1, 0, text, []⟩
theorem all0 : forthS plainP storyE [] 0 = ([oneI 0 0 (-1) (ByteArray.mk #[104, 101, 108, 108, 111])], 0) := by kernel_rfl
theorem all1 : forthS plainP storyE [] 1 = ([oneI 1 0 (-1) (ByteArray.mk #[114, 101, 58, 32, 104, 101, 108, 108, 111, 10, 121, 101, 115])], 0) := by kernel_rfl
theorem all2 : forthS plainP storyE [] 2 = ([oneI 2 0 (-1) (ByteArray.mk #[101, 100, 105, 116, 58, 32, 104, 101, 108, 108, 111, 10, 104, 117, 108, 108, 111])], 0) := by kernel_rfl
theorem all4 : forthS plainP storyE [] 4 = ([oneI 4 2 0 (ByteArray.mk #[])], 0) := by kernel_rfl
theorem all3 : forthS plainP storyE [] 3 = ([oneI 3 0 (-1) (ByteArray.mk #[114, 101, 97, 99, 116, 105, 111, 110, 32, 55])], 0) := by
  have e : reactText (netOf plainP storyE []) 3 = ByteArray.mk #[114, 101, 97, 99, 116, 105, 111, 110, 32, 55] := by
    have e1 : reactText (netOf plainP storyE []) 3 = ByteArray.mk #[114, 101, 97, 99, 116, 105, 111, 110, 32] ++ itoaS 7 := rfl
    rw [e1, itoa7]
    rfl
  have e2 : forthS plainP storyE [] 3 = (postS (netOf plainP storyE []) 3 (reactText (netOf plainP storyE []) 3) (placeS (netOf plainP storyE []) 0), 0) := rfl
  have e3 : (postS (netOf plainP storyE []) 3 (ByteArray.mk #[114, 101, 97, 99, 116, 105, 111, 110, 32, 55]) (placeS (netOf plainP storyE []) 0), (0 : Int)) = ([oneI 3 0 (-1) (ByteArray.mk #[114, 101, 97, 99, 116, 105, 111, 110, 32, 55])], 0) := by kernel_rfl
  rw [e2, e, e3]
theorem says_eq {id kind on : Int} {text : ByteArray} (h : forthS plainP storyE [] id = ([oneI id kind on text], 0)) : law21_says id kind on text = some true := by
  unfold law21_says
  rw [plain_eq, bind_s, compile_eq _ plain_ok, bind_s, plain_chk, bind_s, story_eq, bind_s]
  simp only [bne_self_eq_false, cond_false]
  rw [forth_eq plain_ok plain_chk story_net, bind_s, h]
  have hr := item_refl (oneI id kind on text) (by simp [oneI])
  have e1 : ((0 : Int) != 0) = false := rfl
  have e2 : (((([oneI id kind on text] : List api_Item).length : Nat) : Int) != 1) = false := rfl
  have e3 : (decide (0 ≤ (0 : Int)) && decide ((0 : Int) < ((([oneI id kind on text] : List api_Item).length : Nat) : Int))) = true := rfl
  have e4 : getI [oneI id kind on text] 0 = some (oneI id kind on text) := rfl
  simp only [e1, e2, e3, e4, cond_false, chkO_true, bind_s]
  unfold oneI at hr ⊢
  rw [hr]
  rfl
theorem small_true : law21_small = some true := by
  unfold law21_small
  rw [plain_eq, bind_s, story_eq, bind_s]
  have hf : forth_Forth plainP [] storyE [] 0 = some ([], 1) := by
    unfold forth_Forth
    rw [compile_eq _ plain_ok, bind_s, plain_chk]
    rfl
  rw [hf, bind_s, says_eq all0, bind_s, cond_true, says_eq all1, bind_s, cond_true, says_eq all2, bind_s, cond_true, says_eq all3, bind_s, cond_true, says_eq all4, bind_s, cond_true]
  rfl
end Go.Proofs.YtljdbikodogeiaaGreatDoor

/-
  Words of messages (plain law of layer 21).
-/
import Derived.Test.YtljdbikodogeiaaDoorB2
namespace Go.Proofs.YtljdbikodogeiaaDoor
open Go.RowKit
def i64 (f : Int) : Prop := -9223372036854775808 ≤ f ∧ f ≤ 9223372036854775807
def itoaS (f : Int) : ByteArray := ⟨(Lib.itoa f).toArray⟩
theorem itoa_eq {f : Int} (h : i64 f) : strconv_Itoa f = some (itoaS f) := by
  unfold strconv_Itoa
  rw [decide_eq_true h.1, decide_eq_true h.2]
  rfl
theorem itoa_size {f : Int} (h : i64 f) : (itoaS f).size ≤ 21 := by
  have := Lib.itoa_length_le f h.1 h.2
  show (Lib.itoa f).toArray.size ≤ 21
  simpa using this
def noS : ByteArray := ByteArray.mk #[]
def fileS (f : Int) : ByteArray := (ByteArray.mk #[10, 91, 102, 105, 108, 101, 32] ++ itoaS f) ++ ByteArray.mk #[93]
theorem sz_app (a b : ByteArray) : (a ++ b).size = a.size + b.size := ByteArray.size_append
theorem fileS_size {f : Int} (h : i64 f) : (fileS f).size ≤ 29 := by
  have := itoa_size h
  unfold fileS
  rw [sz_app, sz_app]
  show 7 + (itoaS f).size + 1 ≤ 29
  omega
def listF (but : List Int) (s : ByteArray) (f : Int) : ByteArray := bif hasI but f then s else s ++ fileS f
def listedS (files but : List Int) : ByteArray := files.foldl (listF but) noS
theorem listed_size (but : List Int) : ∀ (files : List Int) (s : ByteArray), (∀ f ∈ files, i64 f) → (files.foldl (listF but) s).size ≤ s.size + 29 * files.length
  | [], s, _ => by simp
  | f :: files, s, h => by
    have h1 := listed_size but files (listF but s f) fun x hx => h x (by simp [hx])
    have h2 : (listF but s f).size ≤ s.size + 29 := by
      unfold listF
      cases hasI but f
      · have := fileS_size (h f (by simp))
        rw [cond_false, sz_app]
        omega
      · rw [cond_true]
        omega
    simp only [List.foldl_cons, List.length_cons]
    omega
theorem listed_eq (files but : List Int) (hf : files.length ≤ 1000) (hb : but.length ≤ 1000) (hi : ∀ f ∈ files, i64 f) : forth_listed files but = some (listedS files but) := by
  have key := loopF_inv (body := forth_listed_L1 files but) files.length (fun i s => s = ((files.take i).foldl (listF but) noS, (i : Int))) (fun r => r = some (.inl (listedS files but))) (fun i s hi' hs => ?_) (fun s hs => ?_) (s0 := (noS, (0 : Int))) rfl
  · unfold forth_listed
    have key : loopF (forth_listed_L1 files but) (ByteArray.mk #[], (0 : Int)) = some (.inl (listedS files but)) := key
    rw [key]
    rfl
  · subst hs
    left
    have hlt : decide ((i : Int) < (files.length : Int)) = true := decide_eq_true (by omega)
    have hw : IntKind.i64.wrap ((i : Int) + 1) = ((i + 1 : Nat) : Int) := by rw [wrap64 (by omega) (by omega)]; omega
    have hm : files.getD i 0 ∈ files := by
      rw [List.getD_eq_getElem?_getD, List.getElem?_eq_getElem hi']
      exact List.getElem_mem hi'
    have hsz := listed_size but (files.take i) noS fun f hf => hi f (List.mem_of_mem_take hf)
    have h0 : noS.size = 0 := rfl
    rw [List.length_take, h0] at hsz
    refine ⟨_, ?_, rfl⟩
    unfold forth_listed_L1
    simp only [hlt, cond_true, getI_in (0 : Int) hi', bind_s, hw]
    rw [take_succ_getD files 0 hi', List.foldl_append, List.foldl_cons, List.foldl_nil]
    generalize (files.take i).foldl (listF but) noS = s at hsz ⊢
    have hfi := hi _ hm
    generalize files.getD i 0 = f at hfi ⊢
    have s1 := itoa_size hfi
    have s2 := fileS_size hfi
    have c1 : decide ((ByteArray.mk #[10, 91, 102, 105, 108, 101, 32]).size + (itoaS f).size ≤ 1000000000) = true := decide_eq_true (by show 7 + (itoaS f).size ≤ 1000000000; omega)
    have c2 : decide (((ByteArray.mk #[10, 91, 102, 105, 108, 101, 32]) ++ itoaS f).size + (ByteArray.mk #[93]).size ≤ 1000000000) = true := decide_eq_true (by rw [sz_app]; show 7 + (itoaS f).size + 1 ≤ 1000000000; omega)
    have c3 : decide (s.size + (((ByteArray.mk #[10, 91, 102, 105, 108, 101, 32]) ++ itoaS f) ++ (ByteArray.mk #[93])).size ≤ 1000000000) = true := decide_eq_true (by show s.size + (fileS f).size ≤ 1000000000; omega)
    rw [containsI_eq but (by omega), bind_s]
    unfold listF
    cases hasI but f
    · simp only [Bool.not_false, cond_true, cond_false]
      rw [itoa_eq hfi, bind_s, c1, chkO_true, c2, chkO_true, c3, chkO_true]
      rfl
    · rfl
  · subst hs
    refine ⟨_, ?_, rfl⟩
    unfold forth_listed_L1
    simp only [Int.lt_irrefl, decide_false, cond_false, List.take_length]
    rfl
/-- a network whose events are few and small, with the ways of its profile -/
structure NetOk (n : forth_network) : Prop where
  ways : n.ways.length = 9
  bad : n.bad.length ≤ 12
  ev : n.events.length ≤ 14
  txt : ∀ x ∈ n.events, x.Text.size ≤ 300
  files : ∀ x ∈ n.events, x.Files.length ≤ 10
  ints : ∀ x ∈ n.events, i64 x.Who ∧ i64 x.N ∧ ∀ f ∈ x.Files, i64 f
  size : 40 ≤ n.p.Size ∧ n.p.Size ≤ 4000
  parts : 1 ≤ n.p.Parts ∧ n.p.Parts ≤ 20
  most : 0 ≤ n.p.Files
theorem ev_mem {ev : List api_Event} {id : Int} (h1 : 0 ≤ id) (h2 : id < (ev.length : Int)) : ev.getD id.toNat e0 ∈ ev := by
  rw [List.getD_eq_getElem?_getD, List.getElem?_eq_getElem (by omega)]
  exact List.getElem_mem _
theorem msg_range {ev : List api_Event} {id than : Int} (h : msgB ev id than = true) : 0 ≤ id ∧ id < than ∧ id < (ev.length : Int) ∧ (ev.getD id.toNat e0).Kind = 0 := by
  unfold msgB at h
  simp only [Bool.and_eq_true, decide_eq_true_eq, beq_iff_eq] at h
  exact ⟨h.1, h.2.1, h.2.2.1, h.2.2.2⟩
theorem netE (n : forth_network) : forth_network.mk (api_Profile.mk n.p.Name n.p.Edit n.p.Within n.p.Delete n.p.React n.p.Thread n.p.Quote n.p.Mention n.p.Size n.p.Parts n.p.Files n.p.Bytes n.p.Types n.p.Join n.p.History n.p.Remove n.p.Level n.p.Batch n.p.Rate n.p.Down n.p.Window n.p.Keep) n.ways n.events n.bad = n := rfl
def lineOf (n : forth_network) (id : Int) : ByteArray := lineS (n.events.getD id.toNat e0).Text
def reS (n : forth_network) (x : api_Event) (id : Int) : ByteArray := bif msgB n.events x.Target id && !(sameB n 5) then noS ++ ((ByteArray.mk #[114, 101, 58, 32] ++ lineOf n x.Target) ++ ByteArray.mk #[10]) else noS
def quS (n : forth_network) (x : api_Event) (id : Int) (s : ByteArray) : ByteArray := bif msgB n.events x.Quote id && !(sameB n 6) then s ++ ((ByteArray.mk #[62, 32] ++ lineOf n x.Quote) ++ ByteArray.mk #[10]) else s
def whoS (n : forth_network) (x : api_Event) (s : ByteArray) : ByteArray := bif (x.Who != -1) && !(sameB n 7) then s ++ ((ByteArray.mk #[64] ++ itoaS x.Who) ++ ByteArray.mk #[32]) else s
def headS (n : forth_network) (id : Int) : ByteArray := whoS n (n.events.getD id.toNat e0) (quS n (n.events.getD id.toNat e0) id (reS n (n.events.getD id.toNat e0) id))
def wordsS (n : forth_network) (id : Int) (text : ByteArray) (files : List Int) : ByteArray := (headS n id ++ text) ++ listedS files (shownS n.p.Files n.bad files)
theorem reS_size (n : forth_network) (x : api_Event) (id : Int) : (reS n x id).size ≤ 25 := by
  have := lineS_size (n.events.getD x.Target.toNat e0).Text
  unfold reS
  cases msgB n.events x.Target id && !(sameB n 5)
  · show 0 ≤ 25
    omega
  · rw [cond_true, sz_app, sz_app, sz_app]
    show 0 + (4 + (lineS (n.events.getD x.Target.toNat e0).Text).size + 1) ≤ 25
    omega
theorem quS_size (n : forth_network) (x : api_Event) (id : Int) (s : ByteArray) : (quS n x id s).size ≤ s.size + 23 := by
  have := lineS_size (n.events.getD x.Quote.toNat e0).Text
  unfold quS
  cases msgB n.events x.Quote id && !(sameB n 6)
  · rw [cond_false]
    omega
  · rw [cond_true, sz_app, sz_app, sz_app]
    show s.size + (2 + (lineS (n.events.getD x.Quote.toNat e0).Text).size + 1) ≤ s.size + 23
    omega
theorem whoS_size (n : forth_network) (x : api_Event) (hx : i64 x.Who) (s : ByteArray) : (whoS n x s).size ≤ s.size + 23 := by
  have := itoa_size hx
  unfold whoS
  cases (x.Who != -1) && !(sameB n 7)
  · rw [cond_false]
    omega
  · rw [cond_true, sz_app, sz_app, sz_app]
    show s.size + (1 + (itoaS x.Who).size + 1) ≤ s.size + 23
    omega
theorem headS_size {n : forth_network} (h : NetOk n) {id : Int} (h1 : 0 ≤ id) (h2 : id < (n.events.length : Int)) : (headS n id).size ≤ 71 := by
  have a := reS_size n (n.events.getD id.toNat e0) id
  have b := quS_size n (n.events.getD id.toNat e0) id (reS n (n.events.getD id.toNat e0) id)
  have c := whoS_size n (n.events.getD id.toNat e0) (h.ints _ (ev_mem h1 h2)).1 (quS n (n.events.getD id.toNat e0) id (reS n (n.events.getD id.toNat e0) id))
  unfold headS
  omega
theorem wordsS_size {n : forth_network} (h : NetOk n) {id : Int} (h1 : 0 ≤ id) (h2 : id < (n.events.length : Int)) {text : ByteArray} (ht : text.size ≤ 300) {files : List Int} (hf : files.length ≤ 10) (hi : ∀ f ∈ files, i64 f) : (wordsS n id text files).size ≤ 700 := by
  have a := headS_size h h1 h2
  have b := listed_size (shownS n.p.Files n.bad files) files noS hi
  have h0 : noS.size = 0 := rfl
  unfold wordsS listedS
  rw [sz_app, sz_app]
  omega
theorem line_of {n : forth_network} (h : NetOk n) {id : Int} (h1 : 0 ≤ id) (h2 : id < (n.events.length : Int)) : forth_network_line n id = some (lineOf n id) :=
  line_eq n id h1 h2 (by have := h.txt _ (ev_mem h1 h2); omega)
theorem words_eq {n : forth_network} (h : NetOk n) {id : Int} (h1 : 0 ≤ id) (h2 : id < (n.events.length : Int)) {text : ByteArray} (ht : text.size ≤ 300) {files : List Int} (hf : files.length ≤ 10) (hi : ∀ f ∈ files, i64 f) : forth_network_words n id text files = some (wordsS n id text files) := by
  have hx := h.ints _ (ev_mem h1 h2)
  have hq5 := same_eq n 5 (by have := h.ways; omega)
  have hq6 := same_eq n 6 (by have := h.ways; omega)
  have hq7 := same_eq n 7 (by have := h.ways; omega)
  have hsl := shown_len n.p.Files n.bad files []
  have hls := listed_size (shownS n.p.Files n.bad files) files noS hi
  have h0 : noS.size = 0 := rfl
  have hshow := shown_eq n files (by omega) (by have := h.bad; omega)
  have hlist := listed_eq files (shownS n.p.Files n.bad files) (by omega) (by unfold shownS; simp only [List.length_nil] at hsl; omega) hi
  unfold wordsS headS
  unfold forth_network_words
  simp only [netE]
  rw [ev_at h1 h2, bind_s]
  generalize hxe : n.events.getD id.toNat e0 = x at hx
  have r1 : ((forth_network_message n x.Target id).bind fun y12 => (bif y12 then (forth_network_same n (5 : Int)).bind fun y13 => (bif (!y13) then (forth_network_line n x.Target).bind fun y14 => (chkO (decide ((ByteArray.mk #[114, 101, 58, 32]).size + y14.size ≤ 1000000000))).bind fun _ => (chkO (decide (((ByteArray.mk #[114, 101, 58, 32]) ++ y14).size + (ByteArray.mk #[10]).size ≤ 1000000000))).bind fun _ => (chkO (decide ((ByteArray.mk #[]).size + (((ByteArray.mk #[114, 101, 58, 32]) ++ y14) ++ (ByteArray.mk #[10])).size ≤ 1000000000))).bind fun _ => some (.inl ((ByteArray.mk #[]) ++ (((ByteArray.mk #[114, 101, 58, 32]) ++ y14) ++ (ByteArray.mk #[10])))) else some (.inl (ByteArray.mk #[]))) else some (.inl (ByteArray.mk #[]))) : Option (ByteArray ⊕ ByteArray)) = some (.inl (reS n x id)) := by
    have hsz := reS_size n x id
    rw [message_eq, bind_s]
    unfold reS at hsz ⊢
    cases hm : msgB n.events x.Target id
    · rfl
    · obtain ⟨m1, m2, m3, _⟩ := msg_range hm
      simp only [cond_true]
      have hq5 : forth_network_same n (5 : Int) = some (sameB n 5) := hq5
      rw [hq5, bind_s]
      cases hs : sameB n 5
      · rw [hm, hs] at hsz
        simp only [Bool.not_false, cond_true, Bool.and_self] at hsz ⊢
        rw [line_of h m1 m3, bind_s]
        have hl := lineS_size (n.events.getD x.Target.toNat e0).Text
        rw [decide_eq_true (show (ByteArray.mk #[114, 101, 58, 32]).size + (lineOf n x.Target).size ≤ 1000000000 by show 4 + (lineS (n.events.getD x.Target.toNat e0).Text).size ≤ _; omega), chkO_true,
          decide_eq_true (show ((ByteArray.mk #[114, 101, 58, 32]) ++ lineOf n x.Target).size + (ByteArray.mk #[10]).size ≤ 1000000000 by rw [sz_app]; show 4 + (lineS (n.events.getD x.Target.toNat e0).Text).size + 1 ≤ _; omega), chkO_true,
          decide_eq_true (show (ByteArray.mk #[]).size + (((ByteArray.mk #[114, 101, 58, 32]) ++ lineOf n x.Target) ++ (ByteArray.mk #[10])).size ≤ 1000000000 by rw [sz_app, sz_app]; show 0 + (4 + (lineS (n.events.getD x.Target.toNat e0).Text).size + 1) ≤ _; omega), chkO_true]
        rfl
      · rfl
  rw [r1, seqF_l]
  have z1 := reS_size n x id
  generalize reS n x id = s1 at z1 ⊢
  have r2 : ((forth_network_message n x.Quote id).bind fun y28 => (bif y28 then (forth_network_same n (6 : Int)).bind fun y29 => (bif (!y29) then (forth_network_line n x.Quote).bind fun y30 => (chkO (decide ((ByteArray.mk #[62, 32]).size + y30.size ≤ 1000000000))).bind fun _ => (chkO (decide (((ByteArray.mk #[62, 32]) ++ y30).size + (ByteArray.mk #[10]).size ≤ 1000000000))).bind fun _ => (chkO (decide (s1.size + (((ByteArray.mk #[62, 32]) ++ y30) ++ (ByteArray.mk #[10])).size ≤ 1000000000))).bind fun _ => some (.inl (s1 ++ (((ByteArray.mk #[62, 32]) ++ y30) ++ (ByteArray.mk #[10])))) else some (.inl s1)) else some (.inl s1)) : Option (ByteArray ⊕ ByteArray)) = some (.inl (quS n x id s1)) := by
    rw [message_eq, bind_s]
    unfold quS
    cases hm : msgB n.events x.Quote id
    · rfl
    · obtain ⟨m1, m2, m3, _⟩ := msg_range hm
      simp only [cond_true]
      have hq6 : forth_network_same n (6 : Int) = some (sameB n 6) := hq6
      rw [hq6, bind_s]
      cases hs : sameB n 6
      · simp only [Bool.not_false, cond_true, Bool.and_self]
        rw [line_of h m1 m3, bind_s]
        have hl := lineS_size (n.events.getD x.Quote.toNat e0).Text
        rw [decide_eq_true (show (ByteArray.mk #[62, 32]).size + (lineOf n x.Quote).size ≤ 1000000000 by show 2 + (lineS (n.events.getD x.Quote.toNat e0).Text).size ≤ _; omega), chkO_true,
          decide_eq_true (show ((ByteArray.mk #[62, 32]) ++ lineOf n x.Quote).size + (ByteArray.mk #[10]).size ≤ 1000000000 by rw [sz_app]; show 2 + (lineS (n.events.getD x.Quote.toNat e0).Text).size + 1 ≤ _; omega), chkO_true,
          decide_eq_true (show s1.size + (((ByteArray.mk #[62, 32]) ++ lineOf n x.Quote) ++ (ByteArray.mk #[10])).size ≤ 1000000000 by rw [sz_app, sz_app]; show s1.size + (2 + (lineS (n.events.getD x.Quote.toNat e0).Text).size + 1) ≤ _; omega), chkO_true]
      · rfl
  rw [r2, seqF_l]
  have z2 := quS_size n x id s1
  generalize quS n x id s1 = s2 at z2 ⊢
  have z3 := whoS_size n x hx.1 s2
  have zi := itoa_size hx.1
  have fin : ∀ s : ByteArray, s.size ≤ 100 → ((chkO (decide (s.size + text.size ≤ 1000000000))).bind fun _ => (forth_network_shown n files).bind fun y51 => (forth_listed files y51).bind fun y52 => (chkO (decide ((s ++ text).size + y52.size ≤ 1000000000))).bind fun _ => some ((s ++ text) ++ y52)) = some ((s ++ text) ++ listedS files (shownS n.p.Files n.bad files)) := by
    intro s hs
    rw [decide_eq_true (show s.size + text.size ≤ 1000000000 by omega), chkO_true, hshow, bind_s, hlist, bind_s, decide_eq_true (show (s ++ text).size + (listedS files (shownS n.p.Files n.bad files)).size ≤ 1000000000 by rw [sz_app]; unfold listedS; omega), chkO_true]
  unfold whoS
  cases hw : x.Who != -1
  · simp only [cond_false, Bool.false_and]
    exact fin s2 (by omega)
  · simp only [cond_true, Bool.true_and]
    have hq7 : forth_network_same n (7 : Int) = some (sameB n 7) := hq7
    rw [hq7, bind_s]
    cases hs : sameB n 7
    · simp only [Bool.not_false, cond_true]
      rw [itoa_eq hx.1, bind_s,
        decide_eq_true (show (ByteArray.mk #[64]).size + (itoaS x.Who).size ≤ 1000000000 by show 1 + (itoaS x.Who).size ≤ _; omega), chkO_true,
        decide_eq_true (show ((ByteArray.mk #[64]) ++ itoaS x.Who).size + (ByteArray.mk #[32]).size ≤ 1000000000 by rw [sz_app]; show 1 + (itoaS x.Who).size + 1 ≤ _; omega), chkO_true,
        decide_eq_true (show s2.size + (((ByteArray.mk #[64]) ++ itoaS x.Who) ++ (ByteArray.mk #[32])).size ≤ 1000000000 by rw [sz_app, sz_app]; show s2.size + (1 + (itoaS x.Who).size + 1) ≤ _; omega), chkO_true]
      exact fin _ (by rw [sz_app, sz_app, sz_app]; show s2.size + (1 + (itoaS x.Who).size + 1) ≤ 100; omega)
    · simp only [Bool.not_true, cond_false]
      exact fin s2 (by omega)
end Go.Proofs.YtljdbikodogeiaaDoor

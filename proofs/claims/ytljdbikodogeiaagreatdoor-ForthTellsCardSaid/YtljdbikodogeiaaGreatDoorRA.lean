/-
  The reference: ways, comparing them, messages, threads, lines (plain law of layers 10, 16, 19).
  The reference: numerals, files, words of messages (plain law of layers 10 and 21).
  The reference: parts of words, items, the items of a message (plain law of layers 10 and 21).
  The reference: Forth is what the plain functions say (plain law of layer 21).
-/
import Derived.Test.YtljdbikodogeiaaGreatDoorBA
namespace Go.Proofs.YtljdbikodogeiaaGreatDoor
open Go.RowKit
/- comparing ways -/
def wayQ (l w : List api_Way) (i : Nat) : Bool := ((l.getD i w0).How == (w.getD i w0).How) && (((l.getD i w0).Finds == (w.getD i w0).Finds) && true)
def eqW (l w : List api_Way) : Bool := !((l.length : Int) != (w.length : Int)) && (List.range l.length).all (wayQ l w)
theorem eqW_true {l w : List api_Way} (h : eqW l w = true) : l = w := by
  unfold eqW at h
  simp only [Bool.and_eq_true, Bool.not_eq_true', bne_eq_false_iff_eq, List.all_eq_true, List.mem_range] at h
  obtain ⟨h1, h2⟩ := h
  have h1 : l.length = w.length := by omega
  refine List.ext_getElem h1 fun i a b => ?_
  have h3 := h2 i a
  unfold wayQ at h3
  simp only [Bool.and_eq_true, beq_iff_eq] at h3
  rw [List.getD_eq_getElem?_getD, List.getD_eq_getElem?_getD, List.getElem?_eq_getElem a, List.getElem?_eq_getElem b] at h3
  obtain ⟨h4, h5, _⟩ := h3
  show l[i] = w[i]
  have e : ∀ x y : api_Way, x.How = y.How → x.Finds = y.Finds → x = y := fun x y e1 e2 => by
    cases x
    cases y
    cases e1
    cases e2
    rfl
  exact e _ _ h4 h5
theorem eqW_refl (l : List api_Way) : eqW l l = true := by
  unfold eqW wayQ
  simp only [bne_self_eq_false, Bool.not_false, beq_self_eq_true, Bool.and_self, all_true]
theorem equal_eq (l w : List api_Way) (hl : l.length ≤ 1000000) : slices_Equal_api_Way_api_Way l w = some (eqW l w) := by
  unfold slices_Equal_api_Way_api_Way eqW
  cases hn : ((l.length : Int) != (w.length : Int))
  · have hn' : l.length = w.length := by
      have : (l.length : Int) = (w.length : Int) := by simpa using hn
      omega
    have h := loopF_idx (body := slices_Equal_api_Way_api_Way_L1 l w) l.length (wayQ l w) false (fun i hi => by
      have hlt : decide ((i : Int) < (l.length : Int)) = true := decide_eq_true (by omega)
      have hw : IntKind.i64.wrap ((i : Int) + 1) = (i : Int) + 1 := wrap64 (by omega) (by omega)
      unfold slices_Equal_api_Way_api_Way_L1
      simp only [hlt, cond_true, getI_in w0 hi, getI_in w0 (show i < w.length by omega), bind_s, hw]
      show (bif (!wayQ l w i) then _ else _) = _
      cases wayQ l w i <;> rfl) (by
      unfold slices_Equal_api_Way_api_Way_L1
      simp only [Int.lt_irrefl, decide_false, cond_false])
    rw [cond_false, h]
    cases (List.range l.length).all (wayQ l w) <;> rfl
  · rfl
/- the ways of a profile -/
theorem files_range {p : api_Profile} (h : chk p = 0) : p.Files ≤ 4 := by
  unfold chk at h
  cases h1 : profB p
  · rw [h1] at h; cases h
  cases h2 : rngP p
  · rw [h1, h2] at h; cases h
  unfold rngP rangeB at h2
  simp only [Bool.and_eq_true, decide_eq_true_eq] at h2
  omega
theorem ref19_edit_eq (p : api_Profile) : ref19_edit p = some (firstS [⟨editsB p, ⟨0, 0⟩⟩, ⟨true, ⟨3, 2⟩⟩]) := by
  unfold ref19_edit editsB
  cases p.Edit == 2
  · rfl
  · cases p.Within == 0 <;> rfl
theorem ref19_long_eq (p : api_Profile) : ref19_long p = some (longS p) := by
  unfold ref19_long longS
  have e : decide ((2 : Int) ≤ p.Parts) = decide (1 < p.Parts) := by congr 1
  rw [e]
  cases decide (1 < p.Parts)
  · rfl
  · cases decide (4400 ≤ IntKind.i64.wrap (p.Size * p.Parts)) <;> rfl
theorem ref19_gone_eq (p : api_Profile) : ref19_gone p = some (firstS [⟨p.Delete != 0, ⟨0, 0⟩⟩, ⟨editsB p, ⟨2, 0⟩⟩, ⟨true, ⟨3, 2⟩⟩]) := by
  unfold ref19_gone
  rw [ref19_edit_eq, bind_s]
  cases p.Delete != 0
  · cases editsB p <;> rfl
  · rfl
theorem ref19_react_eq (p : api_Profile) (h : 1 ≤ p.Parts) : ref19_react p = some (reactS' p) := by
  unfold ref19_react reactS'
  have e : (p.Parts == (1 : Int)) = !decide (1 < p.Parts) := by
    rw [Bool.eq_iff_iff]
    simp only [beq_iff_eq, Bool.not_eq_true', decide_eq_false_iff_not]
    omega
  rw [e]
  cases p.React
  · rfl
  · cases decide (1 < p.Parts) <;> rfl
theorem ref19_reply_eq (p : api_Profile) : ref19_reply p = some (firstS [⟨p.Thread == 2, ⟨0, 0⟩⟩, ⟨p.Thread == 1, ⟨2, 1⟩⟩, ⟨true, ⟨2, 2⟩⟩]) := by
  unfold ref19_reply
  cases p.Thread == 2
  · cases p.Thread == 1 <;> rfl
  · rfl
theorem ref19_own_eq (b : Bool) : ref19_own b = some (firstS [⟨b, ⟨0, 0⟩⟩, ⟨true, ⟨2, 2⟩⟩]) := by cases b <;> rfl
theorem ref19_file_eq (p : api_Profile) (h : p.Files ≤ 4) : ref19_file p = some (firstS [⟨p.Files == 4, ⟨0, 0⟩⟩, ⟨decide (0 < p.Files), ⟨4, 1⟩⟩, ⟨true, ⟨2, 2⟩⟩]) := by
  unfold ref19_file
  have e : decide ((4 : Int) ≤ p.Files) = (p.Files == 4) := by
    rw [Bool.eq_iff_iff]
    simp only [beq_iff_eq, decide_eq_true_eq]
    omega
  have e2 : decide ((1 : Int) ≤ p.Files) = decide (0 < p.Files) := by congr 1
  rw [e, e2]
  cases p.Files == 4
  · cases decide (0 < p.Files) <;> rfl
  · rfl
theorem ref19_Compile_eq (p : api_Profile) (h : ProfOk p) : ref19_Compile p = some (bif chk p != 0 then ([], chk p) else (compS p, 0)) := by
  unfold ref19_Compile
  rw [ref13_Check_eq p h, bind_s]
  cases hc : chk p != 0
  · have hc' : chk p = 0 := by simpa using hc
    obtain ⟨_, a2, _⟩ := prof_ranges hc'
    simp only [cond_false]
    rw [ref19_long_eq, ref19_edit_eq, ref19_gone_eq, ref19_react_eq p a2.1, ref19_reply_eq, ref19_own_eq, ref19_own_eq, ref19_file_eq p (files_range hc')]
    rfl
  · rfl
theorem ref21_Same_eq (p : api_Profile) (h : ProfOk p) (w : List api_Way) : ref21_Same p w = some (bif chk p != 0 then false else eqW (compS p) w) := by
  unfold ref21_Same
  rw [ref19_Compile_eq p h, bind_s]
  cases hc : chk p != 0
  · simp only [cond_false, bne_self_eq_false]
    unfold eqW
    cases hn : (((compS p).length : Int) != (w.length : Int))
    · have hn' : (compS p).length = w.length := by
        have : ((compS p).length : Int) = (w.length : Int) := by simpa using hn
        omega
      have hl : (compS p).length = 9 := by simp [compS]
      have h := loopF_idx (body := ref21_Same_L1 (compS p, 0) w) (compS p).length (wayQ (compS p) w) false (fun i hi => by
        have hlt : decide ((i : Int) < ((compS p).length : Int)) = true := decide_eq_true (by omega)
        have h0 : decide (0 ≤ (i : Int)) = true := decide_eq_true (by omega)
        have hw : IntKind.i64.wrap ((i : Int) + 1) = (i : Int) + 1 := wrap64 (by omega) (by omega)
        unfold ref21_Same_L1
        simp only [hlt, h0, Bool.and_self, chkO_true, cond_true, getI_in w0 hi, getI_in w0 (show i < w.length by omega), bind_s, hw]
        show (bif (!wayQ (compS p) w i) then _ else _) = _
        cases wayQ (compS p) w i <;> rfl) (by
        unfold ref21_Same_L1
        simp only [Int.lt_irrefl, decide_false, cond_false])
      rw [cond_false, h]
      cases (List.range (compS p).length).all (wayQ (compS p) w) <;> rfl
    · rfl
  · simp only [cond_true, hc]
/- messages, threads -/
theorem ref21_Message_eq (ev : List api_Event) (hl : ev.length ≤ 1000) (id than : Int) : ref21_Message ev id than = some (msgB ev id than) := by
  unfold ref21_Message msgB
  by_cases h1 : 0 ≤ id
  · by_cases h3 : id < (ev.length : Int)
    · have hw : IntKind.i64.wrap ((ev.length : Int) - 1) = (ev.length : Int) - 1 := wrap64 (by omega) (by omega)
      have e : (if (if ((ev.length : Int) - 1) < id then ((ev.length : Int) - 1) else id) < (0 : Int) then (0 : Int) else (if ((ev.length : Int) - 1) < id then ((ev.length : Int) - 1) else id)) = id := by
        rw [if_neg (show ¬ ((ev.length : Int) - 1 < id) by omega), if_neg (by omega)]
      rw [hw, e, ev_at h1 h3, decide_eq_true h1, decide_eq_true h3]
      cases decide (id < than) <;> rfl
    · rw [decide_eq_true h1, decide_eq_false h3]
      cases decide (id < than) <;> rfl
  · rw [decide_eq_false h1]
    rfl
theorem ref16_post_eq (ev : List api_Event) (id : Int) : ref16_post ev id = some (vmsgB ev id) := by
  unfold ref16_post vmsgB
  by_cases h1 : 0 ≤ id
  · by_cases h3 : id < (ev.length : Int)
    · rw [ev_at h1 h3, decide_eq_true h1, decide_eq_true h3, decide_eq_false (show ¬ id < 0 by omega), decide_eq_false (show ¬ (ev.length : Int) ≤ id by omega)]
      rfl
    · rw [decide_eq_true h1, decide_eq_false h3, decide_eq_false (show ¬ id < 0 by omega), decide_eq_true (show (ev.length : Int) ≤ id by omega)]
      rfl
  · rw [decide_eq_false h1, decide_eq_true (show id < 0 by omega)]
    rfl
theorem ref16_Parent_eq (ev : List api_Event) (id : Int) (h1 : 0 ≤ id) (h2 : id < (ev.length : Int)) : ref16_Parent ev id = some (parS ev id) := by
  unfold ref16_Parent parS
  rw [ev_at h1 h2, bind_s, ref16_post_eq]
  cases decide ((ev.getD id.toNat e0).Target < id)
  · rfl
  · cases vmsgB ev (ev.getD id.toNat e0).Target <;> rfl
theorem ref16_loop (ev : List api_Event) : ∀ (k : Nat) (id : Int), 0 ≤ id → id < (ev.length : Int) → id.toNat < k → loopF (ref16_Root_L1 ev) (id, parS ev id) = some (.inl (rootF ev k id))
  | 0, _, _, _, h => absurd h (Nat.not_lt_zero _)
  | k + 1, id, h1, h2, h => by
    rw [rootF]
    rcases par_cases ev id with hp | ⟨p1, p2, p3⟩
    · rw [hp]
      rw [loopF_stop (b := .inl id)]
      · rfl
      · rfl
    · rw [decide_eq_true p1, cond_true, loopF_next (s' := (parS ev id, parS ev (parS ev id)))]
      · exact ref16_loop ev k (parS ev id) p1 p3 (by omega)
      · unfold ref16_Root_L1
        rw [decide_eq_true p1, cond_true, ref16_Parent_eq ev _ p1 p3]
        rfl
theorem ref16_Root_eq (ev : List api_Event) (id : Int) : ref16_Root ev id = some (rootS ev id) := by
  unfold ref16_Root rootS
  rw [ref16_post_eq, bind_s]
  cases h : vmsgB ev id
  · rfl
  · obtain ⟨h1, h2⟩ := vmsg_range h
    simp only [Bool.not_true, cond_false, cond_true]
    rw [ref16_Parent_eq ev id h1 h2, bind_s, ref16_loop ev (id.toNat + 1) id h1 h2 (Nat.lt_succ_self _)]
    rfl
theorem ref21_place_eq (n : forth_network) (id : Int) : ref21_place n.p n.events id = some (placeS n id) := by
  unfold ref21_place placeS
  rw [ref16_Root_eq]
  cases n.p.Thread == 2
  · cases n.p.Thread == 1 <;> rfl
  · rfl
/- lines -/
theorem cut_nl : ∀ s : List UInt8, (Lib.index s [10] = -1 ∧ s.takeWhile (fun c => c != 10) = s) ∨ ∃ i : Nat, Lib.index s [10] = (i : Int) ∧ s.take i = s.takeWhile (fun c => c != 10)
  | [] => Or.inl ⟨rfl, rfl⟩
  | b :: l => by
    by_cases hb : b = 10
    · subst hb
      exact Or.inr ⟨0, rfl, rfl⟩
    · have hne : (b != 10) = true := by simpa using hb
      have hp : ([10] : List UInt8).isPrefixOf (b :: l) = false := by
        have : ((10 : UInt8) == b) = false := by
          rw [beq_eq_false_iff_ne]
          exact fun h => hb h.symm
        simp [List.isPrefixOf, this]
      unfold Lib.index
      rw [hp]
      rcases cut_nl l with ⟨h1, h2⟩ | ⟨i, h1, h2⟩
      · left
        rw [h1]
        refine ⟨rfl, ?_⟩
        rw [List.takeWhile_cons, hne, if_pos rfl, h2]
      · right
        rw [h1]
        refine ⟨i + 1, ?_, ?_⟩
        · have : ((i : Int) == -1) = false := by rw [beq_eq_false_iff_ne]; omega
          simp [this]
        · rw [List.take_succ_cons, List.takeWhile_cons, hne, if_pos rfl, h2]
theorem cut_tw (s : List UInt8) : (Lib.cut s [10]).1 = s.takeWhile (fun c => c != 10) := by
  unfold Lib.cut
  rcases cut_nl s with ⟨h1, h2⟩ | ⟨i, h1, h2⟩
  · rw [h1, if_neg (by omega), h2]
  · rw [h1, if_pos (by omega)]
    exact h2
def twl (s : ByteArray) : List UInt8 := s.data.toList.takeWhile (fun c => c != 10)
theorem line_list (s : ByteArray) : (lineS s).data.toList = (twl s).take 20 := by
  unfold lineS lineA twl
  have e : (ByteArray.mk #[10]).data.toList = [10] := rfl
  rw [e, cut_tw]
  generalize s.data.toList.takeWhile (fun c => c != 10) = l
  have hs : (ByteArray.mk l.toArray).size = l.length := by simp [ByteArray.size]
  rw [ByteArray.data_extract, hs]
  simp only [Array.toList_extract, List.extract_eq_take_drop]
  split
  · rfl
  · simp only [Int.toNat_zero, List.drop_zero, Int.toNat_natCast, Nat.sub_zero]
    rw [List.take_of_length_le (Nat.le_refl _), List.take_of_length_le (by omega)]
theorem ba_ext {a b : ByteArray} (h : a.data.toList = b.data.toList) : a = b := by
  cases a
  cases b
  congr 1
  exact Array.ext' h
theorem ref10_Line_eq (s : ByteArray) (hs : s.size ≤ 1000000) : ref10_Line s 20 = some (lineS s) := by
  have hlen : s.size = s.data.toList.length := rfl
  have htl : (twl s).length ≤ s.data.toList.length := by
    unfold twl
    exact (List.takeWhile_sublist _).length_le
  have key := loopF_inv (body := ref10_Line_L1 s 20) (min 20 (twl s).length) (fun i r => r = (i : Int)) (fun r => r = some (.inl ((min 20 (twl s).length : Nat) : Int))) (fun i r hi hr => ?_) (fun r hr => ?_) (s0 := (0 : Int)) rfl
  · unfold ref10_Line
    have hc : cutO (0 : Int) ((min 20 (twl s).length : Nat) : Int) (s.size : Int) = true := by
      unfold cutO
      simp only [Bool.and_eq_true, decide_eq_true_eq]
      omega
    rw [key, seqF_l, hc, chkO_true]
    congr 1
    apply ba_ext
    rw [line_list, ByteArray.data_extract]
    simp only [Array.toList_extract, List.extract_eq_take_drop, Int.toNat_zero, List.drop_zero, Int.toNat_natCast, Nat.sub_zero]
    have hp : (twl s) = s.data.toList.take (twl s).length := by
      have := (tw_take (fun c => c != 10) s.data.toList).1
      exact this.symm
    rw [hp, List.take_take, ← hp]
  · subst hr
    have h1 : i < (twl s).length := by omega
    obtain ⟨h2, h3⟩ := tw_lt (fun c => c != 10) 0 s.data.toList i h1
    have hlt : decide ((i : Int) < (s.size : Int)) = true := decide_eq_true (by omega)
    have hlt2 : decide ((i : Int) < (20 : Int)) = true := decide_eq_true (by omega)
    have h0 : decide (0 ≤ (i : Int)) = true := decide_eq_true (by omega)
    have hw : IntKind.i64.wrap ((i : Int) + 1) = ((i + 1 : Nat) : Int) := by rw [wrap64 (by omega) (by omega)]; omega
    have hb : (((s.data.toList.getD i 0).toNat : Int) != 10) = true := by
      rw [bne_iff_ne]
      intro h
      have h4 : s.data.toList.getD i 0 = 10 := UInt8.toNat_inj.1 (by show (s.data.toList.getD i 0).toNat = 10; omega)
      rw [h4] at h3
      cases h3
    left
    refine ⟨((i + 1 : Nat) : Int), ?_, rfl⟩
    unfold ref10_Line_L1
    simp only [hlt, hlt2, h0, cond_true, Bool.and_self, chkO_true, Int.toNat_natCast, hb, hw]
  · subst hr
    refine ⟨.inl ((min 20 (twl s).length : Nat) : Int), ?_, rfl⟩
    unfold ref10_Line_L1
    by_cases c1 : (min 20 (twl s).length) < s.size
    · have hlt : decide (((min 20 (twl s).length : Nat) : Int) < (s.size : Int)) = true := decide_eq_true (by omega)
      by_cases c2 : (min 20 (twl s).length) < 20
      · have hlt2 : decide (((min 20 (twl s).length : Nat) : Int) < (20 : Int)) = true := decide_eq_true (by omega)
        have h0 : decide (0 ≤ ((min 20 (twl s).length : Nat) : Int)) = true := decide_eq_true (by omega)
        have hm : min 20 (twl s).length = (twl s).length := by omega
        have h3 := tw_end (fun c => c != 10) 0 s.data.toList (by show (twl s).length < _; omega)
        have h4 : s.data.toList.getD (twl s).length 0 = 10 := by
          have h3 : (s.data.toList.getD (twl s).length 0 != 10) = false := h3
          rw [bne_eq_false_iff_eq] at h3
          exact h3
        have hb : (((s.data.toList.getD (min 20 (twl s).length) 0).toNat : Int) != 10) = false := by
          rw [hm, h4]
          rfl
        simp only [hlt, hlt2, h0, cond_true, Bool.and_self, chkO_true, Int.toNat_natCast, hb, cond_false]
      · have hlt2 : decide (((min 20 (twl s).length : Nat) : Int) < (20 : Int)) = false := decide_eq_false (by omega)
        simp only [hlt, hlt2, cond_true, cond_false]
    · have hlt : decide (((min 20 (twl s).length : Nat) : Int) < (s.size : Int)) = false := decide_eq_false (by omega)
      simp only [hlt, cond_false]
theorem ref21_line_eq {n : forth_network} (h : NetOk n) {id : Int} (h1 : 0 ≤ id) (h2 : id < (n.events.length : Int)) : ref21_line n.events id = some (lineOf n id) := by
  have ht := h.txt _ (ev_mem h1 h2)
  unfold ref21_line
  rw [ev_at h1 h2, bind_s, ref10_Line_eq _ (by omega)]
  rfl
end Go.Proofs.YtljdbikodogeiaaGreatDoor
namespace Go.Proofs.YtljdbikodogeiaaGreatDoor
open Go.RowKit
theorem app_assoc (a b c : ByteArray) : (a ++ b) ++ c = a ++ (b ++ c) := ByteArray.append_assoc
theorem mk_app (a b : List UInt8) : ByteArray.mk a.toArray ++ ByteArray.mk b.toArray = ByteArray.mk (a ++ b).toArray := by
  apply ba_ext
  rw [ByteArray.data_append, Array.toList_append]
theorem app_nl (b : ByteArray) : ByteArray.mk #[] ++ b = b := by
  apply ba_ext
  rw [ByteArray.data_append, Array.toList_append]
  rfl
theorem ref01_Int_eq {n : Int} (h : i64 n) : ref01_Int n = some (itoaS n ++ ByteArray.mk #[59]) := by
  have hsz := itoa_size h
  unfold ref01_Int
  by_cases hn : n < 0
  · have e : itoaS n = ByteArray.mk #[45] ++ ByteArray.mk (Lib.decDigits n.natAbs).toArray := by
      unfold itoaS Lib.itoa
      rw [if_pos hn]
      exact (mk_app [45] _).symm
    rw [e, sz_app] at hsz
    have c0 : (ByteArray.mk #[45]).size = 1 := rfl
    have c1 : (ByteArray.mk #[59]).size = 1 := rfl
    unfold ref01_digits
    rw [decide_eq_true hn, cond_true, decide_eq_true h.1, decide_eq_true (show n ≤ 0 by omega), Bool.and_self, chkO_true, bind_s,
      decide_eq_true (show (ByteArray.mk #[45]).size + (ByteArray.mk (Lib.decDigits n.natAbs).toArray).size ≤ 1000000000 by omega), chkO_true,
      decide_eq_true (show (ByteArray.mk #[45] ++ ByteArray.mk (Lib.decDigits n.natAbs).toArray).size + (ByteArray.mk #[59]).size ≤ 1000000000 by rw [sz_app]; omega), chkO_true, e]
  · have hw : IntKind.i64.wrap (0 - n) = -n := by rw [wrap64 (by have := h.2; omega) (by have := h.2; omega)]; omega
    have e : itoaS n = ByteArray.mk (Lib.decDigits (-n).natAbs).toArray := by
      unfold itoaS Lib.itoa
      rw [if_neg hn, show n.toNat = (-n).natAbs by omega]
    rw [e] at hsz
    have c1 : (ByteArray.mk #[59]).size = 1 := rfl
    unfold ref01_digits
    rw [decide_eq_false hn, cond_false, hw, decide_eq_true (show -9223372036854775808 ≤ -n by have := h.2; omega), decide_eq_true (show -n ≤ 0 by omega), Bool.and_self, chkO_true, bind_s,
      decide_eq_true (show (ByteArray.mk (Lib.decDigits (-n).natAbs).toArray).size + (ByteArray.mk #[59]).size ≤ 1000000000 by omega), chkO_true, e]
theorem ref10_Decimal_eq {n : Int} (h : i64 n) : ref10_Decimal n = some (itoaS n) := by
  have hsz := itoa_size h
  have c1 : (ByteArray.mk #[59]).size = 1 := rfl
  unfold ref10_Decimal
  rw [ref01_Int_eq h, bind_s, sz_app, c1]
  have hw : IntKind.i64.wrap ((((itoaS n).size + 1 : Nat) : Int) - 1) = ((itoaS n).size : Int) := by rw [wrap64 (by omega) (by omega)]; omega
  have hc : cutO (0 : Int) ((itoaS n).size : Int) (((itoaS n).size + 1 : Nat) : Int) = true := by
    unfold cutO
    simp only [Bool.and_eq_true, decide_eq_true_eq]
    omega
  rw [hw, hc, chkO_true]
  congr 1
  apply ba_ext
  rw [ByteArray.data_extract, ByteArray.data_append]
  simp only [Array.toList_extract, Array.toList_append, List.extract_eq_take_drop, Int.toNat_zero, List.drop_zero, Int.toNat_natCast, Nat.sub_zero]
  exact List.take_left' rfl
theorem ref21_Has_eq (l : List Int) (hl : l.length ≤ 1000000) (x : Int) : ref21_Has l x = some (hasI l x) := by
  have h := loopF_inv (body := ref21_Has_L1 l x) l.length (fun i s => s = (i : Int) ∧ hasI (l.take i) x = false) (fun r => (r = some (.inl ()) ∧ hasI l x = false) ∨ (r = some (.inr true) ∧ hasI l x = true)) (fun i s hi hs => ?_) (fun s hs => ?_) (s0 := (0 : Int)) ⟨rfl, rfl⟩
  · unfold ref21_Has
    rcases h with ⟨h, e⟩ | ⟨h, e⟩
    · rw [h, e]
      rfl
    · rw [h, e]
      rfl
  · obtain ⟨rfl, hf⟩ := hs
    have hlt : decide ((i : Int) < (l.length : Int)) = true := decide_eq_true (by omega)
    have hw : IntKind.i64.wrap ((i : Int) + 1) = ((i + 1 : Nat) : Int) := by rw [wrap64 (by omega) (by omega)]; omega
    unfold ref21_Has_L1
    simp only [hlt, cond_true, getI_in (0 : Int) hi, bind_s, hw]
    have hm : l.getD i 0 ∈ l := by
      rw [List.getD_eq_getElem?_getD, List.getElem?_eq_getElem hi]
      exact List.getElem_mem hi
    cases hc : l.getD i 0 == x
    · left
      refine ⟨_, rfl, rfl, ?_⟩
      rw [take_succ_getD l 0 hi]
      unfold hasI at hf ⊢
      rw [List.any_append, hf]
      have : (x == l.getD i 0) = false := by
        rw [beq_eq_false_iff_ne] at hc ⊢
        exact fun e => hc e.symm
      rw [Bool.false_or, List.any_cons, this]
      rfl
    · right
      refine ⟨_, rfl, Or.inr ⟨rfl, ?_⟩⟩
      rw [beq_iff_eq] at hc
      exact hasI_iff.2 (hc ▸ hm)
  · obtain ⟨rfl, hf⟩ := hs
    rw [List.take_length] at hf
    refine ⟨.inl (), ?_, Or.inl ⟨rfl, hf⟩⟩
    unfold ref21_Has_L1
    simp only [Int.lt_irrefl, decide_false, cond_false]
theorem ref21_Shown_eq (p : api_Profile) (files bad : List Int) (hf : files.length ≤ 1000) (hb : bad.length ≤ 1000) : ref21_Shown p files bad = some (shownS p.Files bad files) := by
  have key := loopF_inv (body := ref21_Shown_L1 files bad p) files.length (fun i s => s = ((i : Int), (files.take i).foldl (shownF p.Files bad) [])) (fun r => r = some (.inl (shownS p.Files bad files))) (fun i s hi hs => ?_) (fun s hs => ?_) (s0 := ((0 : Int), ([] : List Int))) rfl
  · unfold ref21_Shown
    rw [key]
    rfl
  · subst hs
    left
    have hlt : decide ((i : Int) < (files.length : Int)) = true := decide_eq_true (by omega)
    have hw : IntKind.i64.wrap ((i : Int) + 1) = ((i + 1 : Nat) : Int) := by rw [wrap64 (by omega) (by omega)]; omega
    have hlen := shown_len p.Files bad (files.take i) []
    rw [List.length_take, List.length_nil] at hlen
    refine ⟨_, ?_, rfl⟩
    unfold ref21_Shown_L1
    simp only [hlt, cond_true, getI_in (0 : Int) hi, bind_s, hw]
    rw [take_succ_getD files 0 hi, List.foldl_append, List.foldl_cons, List.foldl_nil]
    generalize (files.take i).foldl (shownF p.Files bad) [] = acc at hlen ⊢
    have c : decide (acc.length + [files.getD i 0].length ≤ 1000000) = true := decide_eq_true (by simp only [List.length_singleton]; omega)
    rw [ref21_Has_eq bad (by omega), bind_s, c]
    unfold shownF
    cases decide ((acc.length : Int) < p.Files)
    · cases hasI bad (files.getD i 0) <;> rfl
    · cases hasI bad (files.getD i 0) <;> rfl
  · subst hs
    refine ⟨_, ?_, rfl⟩
    unfold ref21_Shown_L1
    simp only [Int.lt_irrefl, decide_false, cond_false, List.take_length]
    rfl
theorem ref21_Listed_eq (files but : List Int) (hf : files.length ≤ 1000) (hb : but.length ≤ 1000) (hi : ∀ f ∈ files, i64 f) : ref21_Listed files but = some (listedS files but) := by
  have key := loopF_inv (body := ref21_Listed_L1 files but) files.length (fun i s => s = ((files.take i).foldl (listF but) noS, (i : Int))) (fun r => r = some (.inl (listedS files but))) (fun i s hi' hs => ?_) (fun s hs => ?_) (s0 := (noS, (0 : Int))) rfl
  · unfold ref21_Listed
    have key : loopF (ref21_Listed_L1 files but) (ByteArray.mk #[], (0 : Int)) = some (.inl (listedS files but)) := key
    rw [key]
    rfl
  · subst hs
    left
    have hlt : decide ((i : Int) < (files.length : Int)) = true := decide_eq_true (by omega)
    have hw : IntKind.i64.wrap ((i : Int) + 1) = ((i + 1 : Nat) : Int) := by rw [wrap64 (by omega) (by omega)]; omega
    have hm : files.getD i 0 ∈ files := by
      rw [List.getD_eq_getElem?_getD, List.getElem?_eq_getElem hi']
      exact List.getElem_mem hi'
    have hsz := listed_size but (files.take i) noS fun f hf => hi f (List.mem_of_mem_take hf)
    have h0 : noS.size = 0 := rfl
    rw [List.length_take, h0] at hsz
    refine ⟨_, ?_, rfl⟩
    unfold ref21_Listed_L1
    simp only [hlt, cond_true, getI_in (0 : Int) hi', bind_s, hw]
    rw [take_succ_getD files 0 hi', List.foldl_append, List.foldl_cons, List.foldl_nil]
    generalize (files.take i).foldl (listF but) noS = s at hsz ⊢
    have hfi := hi _ hm
    generalize files.getD i 0 = f at hfi ⊢
    have s1 := itoa_size hfi
    have z7 : (ByteArray.mk #[10, 91, 102, 105, 108, 101, 32]).size = 7 := rfl
    have z1 : (ByteArray.mk #[93]).size = 1 := rfl
    have c1 : decide (s.size + (ByteArray.mk #[10, 91, 102, 105, 108, 101, 32]).size ≤ 1000000000) = true := decide_eq_true (by omega)
    have c2 : decide ((s ++ (ByteArray.mk #[10, 91, 102, 105, 108, 101, 32])).size + (itoaS f).size ≤ 1000000000) = true := decide_eq_true (by rw [sz_app]; omega)
    have c3 : decide (((s ++ (ByteArray.mk #[10, 91, 102, 105, 108, 101, 32])) ++ itoaS f).size + (ByteArray.mk #[93]).size ≤ 1000000000) = true := decide_eq_true (by rw [sz_app, sz_app]; omega)
    rw [ref21_Has_eq but (by omega), bind_s]
    unfold listF
    cases hasI but f
    · simp only [Bool.not_false, cond_true, cond_false]
      rw [c1, chkO_true, ref10_Decimal_eq hfi, bind_s, c2, chkO_true, c3, chkO_true]
      unfold fileS
      rw [app_assoc, app_assoc, app_assoc]
    · rfl
  · subst hs
    refine ⟨_, ?_, rfl⟩
    unfold ref21_Listed_L1
    simp only [Int.lt_irrefl, decide_false, cond_false, List.take_length]
    rfl
theorem how_eq (n : forth_network) (h : n.ways.length = 9) (c : Nat) (hc : c < 9) : getI n.ways (c : Int) = some (n.ways.getD c w0) := getI_in w0 (by omega)
theorem ref21_Say_eq {n : forth_network} (h : NetOk n) {id : Int} (h1 : 0 ≤ id) (h2 : id < (n.events.length : Int)) {text : ByteArray} (ht : text.size ≤ 300) {files : List Int} (hf : files.length ≤ 10) (hi : ∀ f ∈ files, i64 f) : ref21_Say n.p n.ways n.events n.bad id text files = some (wordsS n id text files) := by
  have hx := h.ints _ (ev_mem h1 h2)
  have hev := h.ev
  have g5 : getI n.ways (5 : Int) = some (n.ways.getD 5 w0) := how_eq n h.ways 5 (by decide)
  have g6 : getI n.ways (6 : Int) = some (n.ways.getD 6 w0) := how_eq n h.ways 6 (by decide)
  have g7 : getI n.ways (7 : Int) = some (n.ways.getD 7 w0) := how_eq n h.ways 7 (by decide)
  have b5 : ((n.ways.getD 5 w0).How != 0) = !sameB n 5 := rfl
  have b6 : ((n.ways.getD 6 w0).How != 0) = !sameB n 6 := rfl
  have b7 : ((n.ways.getD 7 w0).How != 0) = !sameB n 7 := rfl
  have hsl := shown_len n.p.Files n.bad files []
  have hls := listed_size (shownS n.p.Files n.bad files) files noS hi
  have h0 : noS.size = 0 := rfl
  have hshow := ref21_Shown_eq n.p files n.bad (by omega) (by have := h.bad; omega)
  have hlist := ref21_Listed_eq files (shownS n.p.Files n.bad files) (by omega) (by unfold shownS; simp only [List.length_nil] at hsl; omega) hi
  unfold wordsS headS
  unfold ref21_Say
  rw [ev_at h1 h2, bind_s]
  generalize hxe : n.events.getD id.toNat e0 = x at hx
  have r1 : ((ref21_Message n.events x.Target id).bind fun y12 => (bif y12 then (getI n.ways (5 : Int)).bind fun x13 => (bif (x13.How != (0 : Int)) then (chkO (decide ((ByteArray.mk #[]).size + (ByteArray.mk #[114, 101, 58, 32]).size ≤ 1000000000))).bind fun _ => (ref21_line n.events x.Target).bind fun y15 => (chkO (decide (((ByteArray.mk #[]) ++ (ByteArray.mk #[114, 101, 58, 32])).size + y15.size ≤ 1000000000))).bind fun _ => (chkO (decide ((((ByteArray.mk #[]) ++ (ByteArray.mk #[114, 101, 58, 32])) ++ y15).size + (ByteArray.mk #[10]).size ≤ 1000000000))).bind fun _ => some (.inl ((((ByteArray.mk #[]) ++ (ByteArray.mk #[114, 101, 58, 32])) ++ y15) ++ (ByteArray.mk #[10]))) else some (.inl (ByteArray.mk #[]))) else some (.inl (ByteArray.mk #[]))) : Option (ByteArray ⊕ ByteArray)) = some (.inl (reS n x id)) := by
    rw [ref21_Message_eq _ (by omega), bind_s]
    unfold reS
    cases hm : msgB n.events x.Target id
    · rfl
    · obtain ⟨m1, m2, m3, _⟩ := msg_range hm
      simp only [cond_true, g5, bind_s, b5]
      cases hs : sameB n 5
      · simp only [Bool.not_false, cond_true, Bool.and_self]
        have hl := lineS_size (n.events.getD x.Target.toNat e0).Text
        have z0 : (ByteArray.mk #[]).size = 0 := rfl
        have z4 : (ByteArray.mk #[114, 101, 58, 32]).size = 4 := rfl
        have z1 : (ByteArray.mk #[10]).size = 1 := rfl
        have zl : (lineOf n x.Target).size ≤ 20 := hl
        rw [decide_eq_true (show (ByteArray.mk #[]).size + (ByteArray.mk #[114, 101, 58, 32]).size ≤ 1000000000 by omega), chkO_true, ref21_line_eq h m1 m3, bind_s,
          decide_eq_true (show ((ByteArray.mk #[]) ++ (ByteArray.mk #[114, 101, 58, 32])).size + (lineOf n x.Target).size ≤ 1000000000 by rw [sz_app]; omega), chkO_true,
          decide_eq_true (show (((ByteArray.mk #[]) ++ (ByteArray.mk #[114, 101, 58, 32])) ++ lineOf n x.Target).size + (ByteArray.mk #[10]).size ≤ 1000000000 by rw [sz_app, sz_app]; omega), chkO_true]
        unfold noS
        rw [app_nl, app_nl]
      · rfl
  rw [r1, seqF_l]
  have z1 := reS_size n x id
  generalize reS n x id = s1 at z1 ⊢
  have r2 : ((ref21_Message n.events x.Quote id).bind fun y28 => (bif y28 then (getI n.ways (6 : Int)).bind fun x29 => (bif (x29.How != (0 : Int)) then (chkO (decide (s1.size + (ByteArray.mk #[62, 32]).size ≤ 1000000000))).bind fun _ => (ref21_line n.events x.Quote).bind fun y31 => (chkO (decide ((s1 ++ (ByteArray.mk #[62, 32])).size + y31.size ≤ 1000000000))).bind fun _ => (chkO (decide (((s1 ++ (ByteArray.mk #[62, 32])) ++ y31).size + (ByteArray.mk #[10]).size ≤ 1000000000))).bind fun _ => some (.inl (((s1 ++ (ByteArray.mk #[62, 32])) ++ y31) ++ (ByteArray.mk #[10]))) else some (.inl s1)) else some (.inl s1)) : Option (ByteArray ⊕ ByteArray)) = some (.inl (quS n x id s1)) := by
    rw [ref21_Message_eq _ (by omega), bind_s]
    unfold quS
    cases hm : msgB n.events x.Quote id
    · rfl
    · obtain ⟨m1, m2, m3, _⟩ := msg_range hm
      simp only [cond_true, g6, bind_s, b6]
      cases hs : sameB n 6
      · simp only [Bool.not_false, cond_true, Bool.and_self]
        have hl := lineS_size (n.events.getD x.Quote.toNat e0).Text
        have z4 : (ByteArray.mk #[62, 32]).size = 2 := rfl
        have z1 : (ByteArray.mk #[10]).size = 1 := rfl
        have zl : (lineOf n x.Quote).size ≤ 20 := hl
        rw [decide_eq_true (show s1.size + (ByteArray.mk #[62, 32]).size ≤ 1000000000 by omega), chkO_true, ref21_line_eq h m1 m3, bind_s,
          decide_eq_true (show (s1 ++ (ByteArray.mk #[62, 32])).size + (lineOf n x.Quote).size ≤ 1000000000 by rw [sz_app]; omega), chkO_true,
          decide_eq_true (show ((s1 ++ (ByteArray.mk #[62, 32])) ++ lineOf n x.Quote).size + (ByteArray.mk #[10]).size ≤ 1000000000 by rw [sz_app, sz_app]; omega), chkO_true]
        rw [app_assoc, app_assoc, app_assoc]
      · rfl
  rw [r2, seqF_l]
  have z2 := quS_size n x id s1
  generalize quS n x id s1 = s2 at z2 ⊢
  have z3 := whoS_size n x hx.1 s2
  have zi := itoa_size hx.1
  have fin : ∀ s : ByteArray, s.size ≤ 100 → ((chkO (decide (s.size + text.size ≤ 1000000000))).bind fun _ => (ref21_Shown n.p files n.bad).bind fun y51 => (ref21_Listed files y51).bind fun y52 => (chkO (decide ((s ++ text).size + y52.size ≤ 1000000000))).bind fun _ => some ((s ++ text) ++ y52)) = some ((s ++ text) ++ listedS files (shownS n.p.Files n.bad files)) := by
    intro s hs
    rw [decide_eq_true (show s.size + text.size ≤ 1000000000 by omega), chkO_true, hshow, bind_s, hlist, bind_s, decide_eq_true (show (s ++ text).size + (listedS files (shownS n.p.Files n.bad files)).size ≤ 1000000000 by rw [sz_app]; unfold listedS; omega), chkO_true]
  unfold whoS
  cases hw : x.Who != -1
  · simp only [cond_false, Bool.false_and]
    exact fin s2 (by omega)
  · simp only [cond_true, Bool.true_and, g7, bind_s, b7]
    cases hs : sameB n 7
    · simp only [Bool.not_false, cond_true]
      have y1 : (ByteArray.mk #[64]).size = 1 := rfl
      have y2 : (ByteArray.mk #[32]).size = 1 := rfl
      have e : s2 ++ ((ByteArray.mk #[64] ++ itoaS x.Who) ++ ByteArray.mk #[32]) = ((s2 ++ ByteArray.mk #[64]) ++ itoaS x.Who) ++ ByteArray.mk #[32] := by rw [app_assoc, app_assoc, app_assoc]
      have ez : (((s2 ++ ByteArray.mk #[64]) ++ itoaS x.Who) ++ ByteArray.mk #[32]).size = s2.size + 1 + (itoaS x.Who).size + 1 := by rw [sz_app, sz_app, sz_app]; omega
      rw [decide_eq_true (show s2.size + (ByteArray.mk #[64]).size ≤ 1000000000 by omega), chkO_true, ref10_Decimal_eq hx.1, bind_s,
        decide_eq_true (show (s2 ++ (ByteArray.mk #[64])).size + (itoaS x.Who).size ≤ 1000000000 by rw [sz_app]; omega), chkO_true,
        decide_eq_true (show ((s2 ++ (ByteArray.mk #[64])) ++ itoaS x.Who).size + (ByteArray.mk #[32]).size ≤ 1000000000 by rw [sz_app, sz_app]; omega), chkO_true, e]
      exact fin _ (by omega)
    · simp only [Bool.not_true, cond_false]
      exact fin s2 (by omega)
end Go.Proofs.YtljdbikodogeiaaGreatDoor
namespace Go.Proofs.YtljdbikodogeiaaGreatDoor
open Go.RowKit
theorem ex_list (s : ByteArray) (i j : Nat) : (s.extract i j).data.toList = (s.data.toList.drop i).take (j - i) := by
  rw [ByteArray.data_extract, Array.toList_extract, List.extract_eq_take_drop]
theorem ex_all (s : ByteArray) : s.extract 0 s.size = s := by
  apply ba_ext
  rw [ex_list, List.drop_zero, Nat.sub_zero]
  exact List.take_length
theorem ex_ex (s : ByteArray) (a b c : Nat) (_h : a + c ≤ s.size) : (s.extract a s.size).extract b c = s.extract (a + b) (a + c) := by
  have hl : s.data.toList.length = s.size := rfl
  apply ba_ext
  have hin : List.take (s.size - a) (List.drop a s.data.toList) = List.drop a s.data.toList := List.take_of_length_le (by rw [List.length_drop, hl]; omega)
  rw [ex_list, ex_list, ex_list, hin, List.drop_drop]
  congr 1
  omega
theorem ref10_loop (s : ByteArray) (hs : s.size ≤ 1000000) (sz most : Nat) (hz : 2 ≤ sz) (hz2 : sz ≤ 10000) (hm : most ≤ 100) : ∀ (k a : Nat) (acc : List ByteArray), a ≤ s.size → acc.length + k + 1 = most →
    loopF (ref10_Parts_L1 (most : Int) s (sz : Int)) ((a : Int), acc) = some (.inr ((acc ++ (chopF sz k (s.extract a s.size)).1) ++ [lastS sz (chopF sz k (s.extract a s.size)).2]))
  | k, a, acc, ha, hl => by
    have hts : (s.extract a s.size).size = s.size - a := by rw [ByteArray.size_extract, Nat.min_self]
    have c0 : decide (((acc.length : Nat) : Int) < (most : Int)) = true := decide_eq_true (by omega)
    have w1 : IntKind.i64.wrap ((s.size : Int) - (a : Int)) = (s.size : Int) - (a : Int) := wrap64 (by omega) (by omega)
    have w2 : IntKind.i64.wrap ((most : Int) - 1) = (most : Int) - 1 := wrap64 (by omega) (by omega)
    have w3 : IntKind.i64.wrap ((a : Int) + (sz : Int)) = ((a + sz : Nat) : Int) := by rw [wrap64 (by omega) (by omega)]; omega
    have w4 : IntKind.i64.wrap (((a + sz : Nat) : Int) - 1) = ((a + (sz - 1) : Nat) : Int) := by rw [wrap64 (by omega) (by omega)]; omega
    by_cases hlt : s.size - a ≤ sz
    · have e : chopF sz k (s.extract a s.size) = ([], s.extract a s.size) := by
        cases k with
        | zero => rfl
        | succ k => rw [chopF, decide_eq_false (by rw [hts]; omega)]; rfl
      have e2 : lastS sz (s.extract a s.size) = s.extract a s.size := by
        unfold lastS
        rw [decide_eq_false (by rw [hts]; omega)]
        rfl
      have c1 : decide ((s.size : Int) - (a : Int) ≤ (sz : Int)) = true := decide_eq_true (by omega)
      have c2 : cutO (a : Int) (s.size : Int) (s.size : Int) = true := by
        unfold cutO
        simp only [Bool.and_eq_true, decide_eq_true_eq]
        omega
      have c3 : decide (acc.length + [s.extract (a : Int).toNat (s.size : Int).toNat].length ≤ 1000000) = true := decide_eq_true (by simp only [List.length_singleton]; omega)
      rw [e, e2, loopF_stop (b := .inr (acc ++ [s.extract a s.size])), List.append_nil]
      unfold ref10_Parts_L1
      simp only [c0, cond_true, w1, c1, c2, c3, chkO_true]
      rfl
    · have c1 : decide ((s.size : Int) - (a : Int) ≤ (sz : Int)) = false := decide_eq_false (by omega)
      cases k with
      | zero =>
        have c2 : (((acc.length : Nat) : Int) == (most : Int) - 1) = true := by
          rw [beq_iff_eq]
          omega
        have c3 : cutO (a : Int) ((a + (sz - 1) : Nat) : Int) (s.size : Int) = true := by
          unfold cutO
          simp only [Bool.and_eq_true, decide_eq_true_eq]
          omega
        have z1 : (ByteArray.mk #[43]).size = 1 := rfl
        have zx : (s.extract (a : Int).toNat ((a + (sz - 1) : Nat) : Int).toNat).size ≤ s.size := by rw [ByteArray.size_extract]; omega
        have c4 : decide ((s.extract (a : Int).toNat ((a + (sz - 1) : Nat) : Int).toNat).size + (ByteArray.mk #[43]).size ≤ 1000000000) = true := decide_eq_true (by omega)
        have c5 : decide (acc.length + [s.extract (a : Int).toNat ((a + (sz - 1) : Nat) : Int).toNat ++ (ByteArray.mk #[43])].length ≤ 1000000) = true := decide_eq_true (by simp only [List.length_singleton]; omega)
        have e : chopF sz 0 (s.extract a s.size) = ([], s.extract a s.size) := rfl
        have e2 : lastS sz (s.extract a s.size) = s.extract a (a + (sz - 1)) ++ ByteArray.mk #[43] := by
          unfold lastS
          rw [decide_eq_true (by rw [hts]; omega), cond_true, ex_ex s a 0 (sz - 1) (by omega)]
          rfl
        rw [e, e2, loopF_stop (b := .inr (acc ++ [s.extract a (a + (sz - 1)) ++ ByteArray.mk #[43]])), List.append_nil]
        unfold ref10_Parts_L1
        simp only [c0, cond_true, w1, c1, cond_false, w2, c2, w3, w4, c3, c4, c5, chkO_true]
        rfl
      | succ k =>
        have c2 : (((acc.length : Nat) : Int) == (most : Int) - 1) = false := by
          rw [beq_eq_false_iff_ne]
          omega
        have c3 : cutO (a : Int) ((a + sz : Nat) : Int) (s.size : Int) = true := by
          unfold cutO
          simp only [Bool.and_eq_true, decide_eq_true_eq]
          omega
        have c5 : decide (acc.length + [s.extract (a : Int).toNat ((a + sz : Nat) : Int).toNat].length ≤ 1000000) = true := decide_eq_true (by simp only [List.length_singleton]; omega)
        rw [loopF_next (s' := (((a + sz : Nat) : Int), acc ++ [s.extract a (a + sz)]))]
        · rw [ref10_loop s hs sz most hz hz2 hm k (a + sz) (acc ++ [s.extract a (a + sz)]) (by omega) (by rw [List.length_append, List.length_singleton]; omega)]
          have d1 : (s.extract a s.size).extract 0 sz = s.extract a (a + sz) := ex_ex s a 0 sz (by omega)
          have d2 : (s.extract a s.size).extract sz (s.extract a s.size).size = s.extract (a + sz) s.size := by
            rw [hts, ex_ex s a sz (s.size - a) (by omega), show a + (s.size - a) = s.size by omega]
          rw [chopF, decide_eq_true (by rw [hts]; omega), d1, d2]
          simp
        · unfold ref10_Parts_L1
          simp only [c0, cond_true, w1, c1, cond_false, w2, c2, w3, c3, c5, chkO_true]
          rfl
theorem ref10_Parts_eq (s : ByteArray) (hs : s.size ≤ 1000000) {size most : Int} (hz : 40 ≤ size ∧ size ≤ 4000) (hm : 1 ≤ most ∧ most ≤ 20) : ref10_Parts s size most = some (partsS s size.toNat most.toNat) := by
  obtain ⟨sz, rfl⟩ : ∃ k : Nat, size = (k : Int) := ⟨size.toNat, by omega⟩
  obtain ⟨mo, rfl⟩ : ∃ k : Nat, most = (k : Int) := ⟨most.toNat, by omega⟩
  have key := ref10_loop s hs sz mo (by omega) (by omega) (by omega) (mo - 1) 0 [] (by omega) (by simp only [List.length_nil]; omega)
  rw [ex_all] at key
  have key : loopF (ref10_Parts_L1 (mo : Int) s (sz : Int)) ((0 : Int), []) = _ := key
  unfold ref10_Parts partsS
  rw [decide_eq_false (show ¬ (sz : Int) < 2 by omega), decide_eq_false (show ¬ (mo : Int) < 1 by omega), cond_false, cond_false, key, seqF_r, List.nil_append]
  rfl
/- items -/
theorem upd0_snoc (f : api_Item → api_Item) (l : List api_Item) (x : api_Item) (h : 1 ≤ l.length) : upd0 f (l ++ [x]) = upd0 f l ++ [x] := by
  cases l with
  | nil => simp at h
  | cons y r => rfl
theorem ref21_items_eq (id kind : Int) (texts : List ByteArray) (on : Int) (ht : texts.length ≤ 1000) : ref21_items id kind texts on = some (upd0 (setOn on) (itemsS id kind texts)) := by
  have key := loopF_inv (body := ref21_items_L1 texts id kind on) texts.length (fun i s => s = ((i : Int), upd0 (setOn on) ((List.range i).map fun i => itemAt id kind (texts.length : Int) i (texts.getD i noS)))) (fun r => r = some (.inl (upd0 (setOn on) (itemsS id kind texts)))) (fun i s hi hs => ?_) (fun s hs => ?_) (s0 := ((0 : Int), ([] : List api_Item))) rfl
  · unfold ref21_items
    rw [key]
    rfl
  · subst hs
    left
    have hlt : decide ((i : Int) < (texts.length : Int)) = true := decide_eq_true (by omega)
    have hw : IntKind.i64.wrap ((i : Int) + 1) = ((i + 1 : Nat) : Int) := by rw [wrap64 (by omega) (by omega)]; omega
    refine ⟨_, ?_, rfl⟩
    unfold ref21_items_L1
    simp only [hlt, cond_true, getI_in noS hi, bind_s, hw]
    rw [List.range_succ, List.map_append]
    cases i with
    | zero => rfl
    | succ i =>
      have h0 : (((i + 1 : Nat) : Int) == 0) = false := by
        rw [beq_eq_false_iff_ne]
        omega
      rw [h0, cond_false, decide_eq_true (by simp only [upd0_len, List.length_map, List.length_range, List.length_singleton]; omega), chkO_true]
      simp only [List.map_cons, List.map_nil]
      rw [upd0_snoc _ _ _ (by simp)]
      rfl
  · subst hs
    refine ⟨_, ?_, rfl⟩
    unfold ref21_items_L1
    simp only [Int.lt_irrefl, decide_false, cond_false]
    rfl
theorem about_all (id kind on : Int) (many : Nat) (texts : List ByteArray) : actAll on (itemsS id kind (allT many texts)) = (List.range many).map fun i => setAct on i (itemAt id kind (many : Int) i (texts.getD i noS)) := by
  unfold actAll
  rw [items_len, allT_len]
  refine List.map_congr_left fun i hi => ?_
  rw [List.mem_range] at hi
  have h1 : (itemsS id kind (allT many texts)).getD i i0 = itemAt id kind (many : Int) i ((allT many texts).getD i noS) := by
    unfold itemsS
    rw [List.getD_eq_getElem?_getD, List.getElem?_map, List.getElem?_range (by rw [allT_len]; exact hi), allT_len]
    rfl
  have h2 : (allT many texts).getD i noS = texts.getD i noS := by
    unfold allT
    rw [List.length_replicate, List.getD_eq_getElem?_getD, List.getD_eq_getElem?_getD]
    by_cases hlt : i < texts.length
    · rw [List.getElem?_append_left (by rw [List.length_take]; omega), List.getElem?_take_of_lt hi]
    · rw [List.getElem?_append_right (by rw [List.length_take]; omega), List.getElem?_eq_none (show texts.length ≤ i by omega), List.getElem?_drop, List.getElem?_replicate]
      split <;> rfl
  rw [h1, h2]
theorem ref21_about_eq (id kind : Int) (texts : List ByteArray) (many : Nat) (on : Int) (hm : many ≤ 1000) : ref21_about id kind texts (many : Int) on = some (actAll on (itemsS id kind (allT many texts))) := by
  rw [about_all]
  have key := loopF_inv (body := ref21_about_L1 (many : Int) texts id kind on) many (fun i s => s = ((i : Int), (List.range i).map fun i => setAct on i (itemAt id kind (many : Int) i (texts.getD i noS)))) (fun r => r = some (.inl ((List.range many).map fun i => setAct on i (itemAt id kind (many : Int) i (texts.getD i noS))))) (fun i s hi hs => ?_) (fun s hs => ?_) (s0 := ((0 : Int), ([] : List api_Item))) rfl
  · unfold ref21_about
    rw [key]
    rfl
  · subst hs
    left
    have hlt : decide ((i : Int) < (many : Int)) = true := decide_eq_true (by omega)
    have hw : IntKind.i64.wrap ((i : Int) + 1) = ((i + 1 : Nat) : Int) := by rw [wrap64 (by omega) (by omega)]; omega
    refine ⟨_, ?_, rfl⟩
    unfold ref21_about_L1
    simp only [hlt, cond_true, hw]
    rw [List.range_succ, List.map_append]
    by_cases hlt2 : i < texts.length
    · rw [decide_eq_true (show (i : Int) < (texts.length : Int) by omega), cond_true, getI_in noS hlt2, bind_s, decide_eq_true (by simp only [List.length_map, List.length_range, List.length_singleton]; omega), chkO_true]
      rfl
    · have e : texts.getD i noS = noS := by
        rw [List.getD_eq_getElem?_getD, List.getElem?_eq_none (by omega)]
        rfl
      rw [decide_eq_false (show ¬ (i : Int) < (texts.length : Int) by omega), cond_false, decide_eq_true (by simp only [List.length_map, List.length_range, List.length_singleton]; omega), chkO_true]
      simp only [List.map_cons, List.map_nil]
      rw [e]
      rfl
  · subst hs
    refine ⟨_, ?_, rfl⟩
    unfold ref21_about_L1
    simp only [Int.lt_irrefl, decide_false, cond_false]
theorem ref21_post_eq {n : forth_network} (h : NetOk n) {id : Int} (h1 : 0 ≤ id) (h2 : id < (n.events.length : Int)) : ref21_post n.p n.ways n.events n.bad id = some (firstS' n id) := by
  have hm := ev_mem h1 h2
  have hxf := h.files _ hm
  have hxt := h.txt _ hm
  have hx := h.ints _ hm
  have hev := h.ev
  have hpp := h.parts
  have g6 : getI n.ways (6 : Int) = some (n.ways.getD 6 w0) := how_eq n h.ways 6 (by decide)
  have g7 : getI n.ways (7 : Int) = some (n.ways.getD 7 w0) := how_eq n h.ways 7 (by decide)
  have b6 : ((n.ways.getD 6 w0).How == 0) = sameB n 6 := rfl
  have b7 : ((n.ways.getD 7 w0).How == 0) = sameB n 7 := rfl
  have hwz := wordsS_size h h1 h2 hxt hxf hx.2.2
  have hshow := ref21_Shown_eq n.p (n.events.getD id.toNat e0).Files n.bad (by omega) (by have := h.bad; omega)
  unfold ref21_post firstS'
  dsimp only
  rw [ev_at h1 h2, bind_s]
  have r1 : ((ref21_Message n.events (n.events.getD id.toNat e0).Target id).bind fun y4 => (bif y4 then (ref21_place n.p n.events (n.events.getD id.toNat e0).Target).bind fun y5 => some (.inl y5) else some (.inl (-1 : Int))) : Option (Int ⊕ List api_Item)) = some (.inl (bif msgB n.events (n.events.getD id.toNat e0).Target id then placeS n (n.events.getD id.toNat e0).Target else -1)) := by
    rw [ref21_Message_eq _ (by omega), bind_s, ref21_place_eq]
    cases msgB n.events (n.events.getD id.toNat e0).Target id <;> rfl
  rw [r1, seqF_l, ref21_Say_eq h h1 h2 hxt hxf hx.2.2, bind_s]
  have hpl := post_len h id (wordsS n id (n.events.getD id.toNat e0).Text (n.events.getD id.toNat e0).Files) (bif msgB n.events (n.events.getD id.toNat e0).Target id then placeS n (n.events.getD id.toNat e0).Target else -1)
  have hpn := parts_len (wordsS n id (n.events.getD id.toNat e0).Text (n.events.getD id.toNat e0).Files) n.p.Size.toNat n.p.Parts.toNat (by omega)
  rw [ref10_Parts_eq _ (by omega) h.size h.parts, bind_s, ref21_items_eq id 0 _ _ (by omega), bind_s]
  unfold postS at hpl ⊢
  generalize upd0 (setOn (bif msgB n.events (n.events.getD id.toNat e0).Target id then placeS n (n.events.getD id.toNat e0).Target else -1)) (itemsS id 0 (partsS (wordsS n id (n.events.getD id.toNat e0).Text (n.events.getD id.toNat e0).Files) n.p.Size.toNat n.p.Parts.toNat)) = l at hpl ⊢
  generalize hxe : n.events.getD id.toNat e0 = x at hshow
  have r2 : ((ref21_Message n.events x.Quote id).bind fun y16 => (bif y16 then (getI n.ways (6 : Int)).bind fun y17 => (bif (y17.How == (0 : Int)) then (chkO (decide (0 ≤ (0 : Int)) && decide ((0 : Int) < ((l.length : Nat) : Int)))).bind fun _ => (getI l (0 : Int)).bind fun x19 => some (.inl (List.set l (0 : Int).toNat (api_Item.mk x19.Event x19.Part x19.Of x19.Kind x19.On x19.OnPart x.Quote x19.Who x19.N x19.Text x19.Files))) else some (.inl l)) else some (.inl l)) : Option (List api_Item ⊕ List api_Item)) = some (.inl (bif msgB n.events x.Quote id && sameB n 6 then upd0 (setQuote x.Quote) l else l)) := by
    rw [ref21_Message_eq _ (by omega), bind_s, g6]
    cases msgB n.events x.Quote id
    · rfl
    · simp only [cond_true, bind_s, b6]
      cases sameB n 6
      · rfl
      · simp only [cond_true, Bool.and_self]
        exact upd_step l hpl.1 (setQuote x.Quote) fun z => some (Sum.inl z : List api_Item ⊕ List api_Item)
  rw [r2, seqF_l, g7, bind_s, b7]
  have hl2 : 1 ≤ (bif msgB n.events x.Quote id && sameB n 6 then upd0 (setQuote x.Quote) l else l).length := by
    cases msgB n.events x.Quote id && sameB n 6
    · exact hpl.1
    · rw [cond_true, upd0_len]
      exact hpl.1
  generalize (bif msgB n.events x.Quote id && sameB n 6 then upd0 (setQuote x.Quote) l else l) = l2 at hl2 ⊢
  cases sameB n 7
  · simp only [cond_false]
    rw [hshow, bind_s]
    exact upd_step l2 hl2 (setFiles (shownS n.p.Files n.bad x.Files)) some
  · simp only [cond_true]
    rw [hshow]
    simp only [bind_s]
    cases l2 with
    | nil => simp at hl2
    | cons y r =>
      rw [show (decide (0 ≤ (0 : Int)) && decide ((0 : Int) < (((y :: r).length : Nat) : Int))) = true by simp, chkO_true]
      rfl
end Go.Proofs.YtljdbikodogeiaaGreatDoor
namespace Go.Proofs.YtljdbikodogeiaaGreatDoor
open Go.RowKit
def kB (k : Int) : Bool := bif k != 1 then bif k != 2 then bif k != 3 then bif k != 4 then false else true else true else true else true
theorem ref21_Act_eq {n : forth_network} (h : NetOk n) {id : Int} (h1 : 0 ≤ id) (h2 : id < (n.events.length : Int)) : ref21_Act n.events id = some (kB (n.events.getD id.toNat e0).Kind && actB n.events id) := by
  have hev := h.ev
  unfold ref21_Act actB
  rw [ev_at h1 h2, bind_s]
  have r1 : ((bif ((n.events.getD id.toNat e0).Kind != (1 : Int)) then (bif ((n.events.getD id.toNat e0).Kind != (2 : Int)) then (bif ((n.events.getD id.toNat e0).Kind != (3 : Int)) then (bif ((n.events.getD id.toNat e0).Kind != (4 : Int)) then some (.inr false) else some (.inl ())) else some (.inl ())) else some (.inl ())) else some (.inl ())) : Option (Unit ⊕ Bool)) = some (bif kB (n.events.getD id.toNat e0).Kind then .inl () else .inr false) := by
    unfold kB
    cases (n.events.getD id.toNat e0).Kind != (1 : Int)
    · rfl
    · cases (n.events.getD id.toNat e0).Kind != (2 : Int)
      · rfl
      · cases (n.events.getD id.toNat e0).Kind != (3 : Int)
        · rfl
        · cases (n.events.getD id.toNat e0).Kind != (4 : Int) <;> rfl
  rw [r1]
  cases kB (n.events.getD id.toNat e0).Kind
  · rfl
  · rw [cond_true, seqF_l, ref21_Message_eq _ (by omega), bind_s, Bool.true_and]
    cases hm : msgB n.events (n.events.getD id.toNat e0).Target id
    · rfl
    · obtain ⟨m1, m2, m3, _⟩ := msg_range hm
      simp only [Bool.not_true, cond_false, Bool.true_and]
      rw [ev_at m1 m3, bind_s]
      have hg : ((n.events.getD (n.events.getD id.toNat e0).Target.toNat e0).Group == (n.events.getD id.toNat e0).Group) = !((n.events.getD (n.events.getD id.toNat e0).Target.toNat e0).Group != (n.events.getD id.toNat e0).Group) := by
        unfold bne
        rw [Bool.not_not]
      have ha : ((n.events.getD (n.events.getD id.toNat e0).Target.toNat e0).Author == (n.events.getD id.toNat e0).Author) = ((n.events.getD id.toNat e0).Author == (n.events.getD (n.events.getD id.toNat e0).Target.toNat e0).Author) := by
        rw [Bool.eq_iff_iff, beq_iff_eq, beq_iff_eq]
        exact eq_comm
      rw [hg, ha]
      cases (n.events.getD (n.events.getD id.toNat e0).Target.toNat e0).Group != (n.events.getD id.toNat e0).Group
      · cases (n.events.getD id.toNat e0).Kind != 1 <;> rfl
      · rfl
theorem refF_eq {n : forth_network} (h : NetOk n) (hS : ref21_Same n.p n.ways = some true) {id : Int} (h1 : 0 ≤ id) (h2 : id < (n.events.length : Int)) : ref21_Forth n.p n.ways n.events n.bad id = some (allS n id, 0) := by
  have hm := ev_mem h1 h2
  have hxf := h.files _ hm
  have hxt := h.txt _ hm
  have hx := h.ints _ hm
  have hpp := h.parts
  have hbad := h.bad
  unfold ref21_Forth allS
  rw [hS, bind_s, Bool.not_true, cond_false, decide_eq_false (show ¬ id < 0 by omega), cond_false, decide_eq_false (show ¬ (n.events.length : Int) ≤ id by omega), cond_false, ev_at h1 h2, bind_s]
  cases hk0 : (n.events.getD id.toNat e0).Kind == 0
  · simp only [cond_false]
    rw [ref21_Act_eq h h1 h2, bind_s]
    cases ha : actB n.events id
    · rw [Bool.and_false]
      rfl
    · obtain ⟨t1, _, t2, _⟩ := act_target ha
      rw [Bool.and_true]
      cases hk : kB (n.events.getD id.toNat e0).Kind
      · simp only [Bool.not_false, Bool.not_true, cond_true, cond_false]
        unfold kB at hk
        have e : ∀ j : Int, ((n.events.getD id.toNat e0).Kind == j) = !((n.events.getD id.toNat e0).Kind != j) := fun j => by
          unfold bne
          rw [Bool.not_not]
        rw [e 1, e 2, e 3, e 4]
        cases e1 : (n.events.getD id.toNat e0).Kind != 1
        · rw [e1] at hk
          cases hk
        · cases e2 : (n.events.getD id.toNat e0).Kind != 2
          · rw [e1, e2] at hk
            cases hk
          · cases e3 : (n.events.getD id.toNat e0).Kind != 3
            · rw [e1, e2, e3] at hk
              cases hk
            · cases e4 : (n.events.getD id.toNat e0).Kind != 4
              · rw [e1, e2, e3, e4] at hk
                cases hk
              · rfl
      · simp only [Bool.not_true, cond_false]
        rw [ref21_post_eq h t1 t2, bind_s, ref21_place_eq, bind_s]
        have hfl := first_len h (n.events.getD id.toNat e0).Target
        have pof : ∀ s : ByteArray, s.size ≤ 1000000 → ((ref10_Parts s n.p.Size n.p.Parts).bind fun y => (ref21_items id (0 : Int) y (placeS n (n.events.getD id.toNat e0).Target)).bind fun z => some (z, (0 : Int))) = some (postS n id s (placeS n (n.events.getD id.toNat e0).Target), 0) := fun s hs => by
          have hpn := parts_len s n.p.Size.toNat n.p.Parts.toNat (by omega)
          rw [ref10_Parts_eq _ hs h.size h.parts, bind_s, ref21_items_eq id 0 _ _ (by omega), bind_s]
          rfl
        cases hk1 : (n.events.getD id.toNat e0).Kind == 1
        · simp only [cond_false]
          cases hk2 : (n.events.getD id.toNat e0).Kind == 2
          · simp only [cond_false]
            have g4 : getI n.ways (4 : Int) = some (n.ways.getD 4 w0) := how_eq n h.ways 4 (by decide)
            have b4 : ((n.ways.getD 4 w0).How != 0) = !sameB n 4 := rfl
            have hz := itoa_size hx.2.1
            have z9 : (ByteArray.mk #[114, 101, 97, 99, 116, 105, 111, 110, 32]).size = 9 := rfl
            have z11 : (ByteArray.mk #[32, 116, 97, 107, 101, 110, 32, 98, 97, 99, 107]).size = 11 := rfl
            rw [ref10_Decimal_eq hx.2.1, bind_s, decide_eq_true (show (ByteArray.mk #[114, 101, 97, 99, 116, 105, 111, 110, 32]).size + (itoaS (n.events.getD id.toNat e0).N).size ≤ 1000000000 by omega), chkO_true]
            have hr : (bif (n.events.getD id.toNat e0).Kind == 3 then reactS n id else bif (n.events.getD id.toNat e0).Kind == 4 then reactS n id else []) = reactS n id := by
              cases hk3 : (n.events.getD id.toNat e0).Kind == 3
              · cases hk4 : (n.events.getD id.toNat e0).Kind == 4
                · unfold kB bne at hk
                  rw [hk1, hk2, hk3, hk4] at hk
                  cases hk
                · rfl
              · rfl
            rw [hr]
            unfold reactS reactText reactKind
            cases (n.events.getD id.toNat e0).Kind == 4
            · simp only [cond_false, g4, bind_s, b4]
              cases sameB n 4
              · exact pof _ (by rw [sz_app]; omega)
              · rfl
            · simp only [cond_true]
              rw [decide_eq_true (show ((ByteArray.mk #[114, 101, 97, 99, 116, 105, 111, 110, 32]) ++ itoaS (n.events.getD id.toNat e0).N).size + (ByteArray.mk #[32, 116, 97, 107, 101, 110, 32, 98, 97, 99, 107]).size ≤ 1000000000 by rw [sz_app]; omega), chkO_true]
              simp only [g4, bind_s, b4]
              cases sameB n 4
              · exact pof _ (by rw [sz_app, sz_app]; omega)
              · rfl
          · simp only [cond_true]
            have g3 : getI n.ways (3 : Int) = some (n.ways.getD 3 w0) := how_eq n h.ways 3 (by decide)
            have b3 : ((n.ways.getD 3 w0).How == 0) = sameB n 3 := rfl
            rw [g3, bind_s, b3]
            unfold removeS eachS
            cases sameB n 3
            · simp only [cond_false]
              cases (n.ways.getD 3 w0).How == 2
              · exact pof _ (by decide)
              · simp only [cond_true]
                rw [ref21_about_eq id 1 _ _ _ (by omega), bind_s]
            · simp only [cond_true]
              rw [ref21_about_eq id 2 _ _ _ (by omega), bind_s]
        · simp only [cond_true]
          have g2 : getI n.ways (2 : Int) = some (n.ways.getD 2 w0) := how_eq n h.ways 2 (by decide)
          have b2 : ((n.ways.getD 2 w0).How != 0) = !sameB n 2 := rfl
          have hshow := ref21_Shown_eq n.p (n.events.getD id.toNat e0).Files n.bad (by omega) (by omega)
          have hls := listed_size [] (n.events.getD id.toNat e0).Files noS hx.2.2
          have h0 : noS.size = 0 := rfl
          have hll := lineS_size (n.events.getD (n.events.getD id.toNat e0).Target.toNat e0).Text
          have hlo : (lineOf n (n.events.getD id.toNat e0).Target).size ≤ 20 := hll
          have hwz := wordsS_size h t1 t2 hxt hxf hx.2.2
          have z6 : (ByteArray.mk #[101, 100, 105, 116, 58, 32]).size = 6 := rfl
          have z1 : (ByteArray.mk #[10]).size = 1 := rfl
          have hlz : (listedS (n.events.getD id.toNat e0).Files []).size ≤ 290 := by unfold listedS; omega
          rw [g2, bind_s, b2]
          unfold editS
          cases sameB n 2
          · simp only [Bool.not_false, cond_true, cond_false]
            rw [ref21_line_eq h t1 t2, bind_s,
              decide_eq_true (show (ByteArray.mk #[101, 100, 105, 116, 58, 32]).size + (lineOf n (n.events.getD id.toNat e0).Target).size ≤ 1000000000 by omega), chkO_true,
              decide_eq_true (show ((ByteArray.mk #[101, 100, 105, 116, 58, 32]) ++ lineOf n (n.events.getD id.toNat e0).Target).size + (ByteArray.mk #[10]).size ≤ 1000000000 by rw [sz_app]; omega), chkO_true,
              decide_eq_true (show (((ByteArray.mk #[101, 100, 105, 116, 58, 32]) ++ lineOf n (n.events.getD id.toNat e0).Target) ++ (ByteArray.mk #[10])).size + (n.events.getD id.toNat e0).Text.size ≤ 1000000000 by rw [sz_app, sz_app]; omega), chkO_true,
              ref21_Listed_eq _ [] (by omega) (by simp) hx.2.2, bind_s,
              decide_eq_true (show ((((ByteArray.mk #[101, 100, 105, 116, 58, 32]) ++ lineOf n (n.events.getD id.toNat e0).Target) ++ (ByteArray.mk #[10])) ++ (n.events.getD id.toNat e0).Text).size + (listedS (n.events.getD id.toNat e0).Files []).size ≤ 1000000000 by rw [sz_app, sz_app, sz_app]; omega), chkO_true]
            unfold editText
            exact pof _ (by rw [sz_app, sz_app, sz_app, sz_app]; omega)
          · simp only [Bool.not_true, cond_true, cond_false]
            rw [ref21_Say_eq h t1 t2 hxt hxf hx.2.2, bind_s, ref10_Parts_eq _ (by omega) h.size ⟨by omega, by omega⟩, bind_s, ref21_about_eq id 1 _ _ _ (by omega), bind_s, hshow, bind_s, Int.toNat_natCast]
            unfold eachS
            exact upd_step _ (by rw [actAll_len, items_len, allT_len]; omega) (setFiles (shownS n.p.Files n.bad (n.events.getD id.toNat e0).Files)) fun l => some (l, (0 : Int))
  · simp only [cond_true]
    rw [ref21_post_eq h h1 h2]
    rfl
theorem ref21_Forth_eq {p : api_Profile} (hp : ProfOk p) (hc : chk p = 0) {ev : List api_Event} {bad : List Int} (h : NetOk (netOf p ev bad)) (id : Int) : ref21_Forth p (compS p) ev bad id = some (forthS p ev bad id) := by
  have hS : ref21_Same p (compS p) = some true := by
    rw [ref21_Same_eq p hp, hc, eqW_refl]
    rfl
  by_cases h1 : id < 0
  · unfold ref21_Forth forthS
    rw [hS, bind_s, Bool.not_true, cond_false, decide_eq_true h1]
    rfl
  · by_cases h2 : (ev.length : Int) ≤ id
    · unfold ref21_Forth forthS
      rw [hS, bind_s, Bool.not_true, cond_false, decide_eq_false h1, decide_eq_true h2]
      rfl
    · unfold forthS
      rw [decide_eq_false h1, decide_eq_false h2]
      exact refF_eq h hS (id := id) (by omega) (by show id < (ev.length : Int); omega)
/-- with other ways there is an error -/
theorem forth_none {p : api_Profile} (hp : ProfOk p) (w : List api_Way) (hw : (chk p != 0) = true ∨ eqW (compS p) w = false) (ev : List api_Event) (bad : List Int) (id : Int) : forth_Forth p w ev bad id = some ([], 1) ∧ ref21_Forth p w ev bad id = some ([], 1) := by
  constructor
  · unfold forth_Forth
    rw [compile_eq p hp, bind_s]
    cases hc : chk p != 0
    · rcases hw with hw | hw
      · rw [hc] at hw
        cases hw
      · simp only [cond_false, bne_self_eq_false]
        rw [equal_eq _ _ (by simp [compS]), bind_s, hw]
        rfl
    · simp only [cond_true, hc]
  · unfold ref21_Forth
    rw [ref21_Same_eq p hp, bind_s]
    cases hc : chk p != 0
    · rcases hw with hw | hw
      · rw [hc] at hw
        cases hw
      · rw [cond_false, hw]
        rfl
    · rfl
end Go.Proofs.YtljdbikodogeiaaGreatDoor

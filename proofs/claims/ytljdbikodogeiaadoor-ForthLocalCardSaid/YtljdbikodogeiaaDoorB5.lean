/-
  The items of an event (plain law of layer 21).
-/
import Derived.Test.YtljdbikodogeiaaDoorB4
namespace Go.Proofs.YtljdbikodogeiaaDoor
open Go.RowKit
def actB (ev : List api_Event) (id : Int) : Bool := msgB ev (ev.getD id.toNat e0).Target id && (!((ev.getD (ev.getD id.toNat e0).Target.toNat e0).Group != (ev.getD id.toNat e0).Group) && ((ev.getD id.toNat e0).Kind != 1 || (ev.getD id.toNat e0).Author == (ev.getD (ev.getD id.toNat e0).Target.toNat e0).Author))
theorem act_eq (n : forth_network) {id : Int} (h1 : 0 ≤ id) (h2 : id < (n.events.length : Int)) : forth_network_act n id = some (actB n.events id) := by
  unfold forth_network_act actB
  simp only [netE]
  rw [ev_at h1 h2, bind_s, message_eq, bind_s]
  cases hm : msgB n.events (n.events.getD id.toNat e0).Target id
  · rfl
  · obtain ⟨m1, m2, m3, _⟩ := msg_range hm
    simp only [Bool.not_true, cond_false, Bool.true_and]
    rw [ev_at m1 m3, bind_s]
    cases (n.events.getD (n.events.getD id.toNat e0).Target.toNat e0).Group != (n.events.getD id.toNat e0).Group
    · cases (n.events.getD id.toNat e0).Kind != 1 <;> rfl
    · rfl
def allT (many : Nat) (texts : List ByteArray) : List ByteArray := List.take (List.replicate many noS).length texts ++ List.drop texts.length (List.replicate many noS)
theorem allT_len (many : Nat) (texts : List ByteArray) : (allT many texts).length = many := by
  unfold allT
  rw [List.length_append, List.length_take, List.length_drop, List.length_replicate]
  omega
def setAct (on : Int) (i : Nat) (x : api_Item) : api_Item := { x with On := on, OnPart := (i : Int) }
def actAll (on : Int) (l : List api_Item) : List api_Item := (List.range l.length).map fun i => setAct on i (l.getD i i0)
theorem actAll_len (on : Int) (l : List api_Item) : (actAll on l).length = l.length := by simp [actAll]
theorem get_mid {P r : List api_Item} {a : api_Item} {i : Nat} (h : P.length = i) : getI (P ++ a :: r) (i : Int) = some a := by
  rw [getI_nat, List.getElem?_append_right (by omega), h, Nat.sub_self]
  rfl
theorem set_mid {P r : List api_Item} {a b : api_Item} {i : Nat} (h : P.length = i) : (P ++ a :: r).set i b = P ++ b :: r := by
  rw [List.set_append_right _ _ (by omega), h, Nat.sub_self]
  rfl
theorem each_loop (x : api_Event) (l : List api_Item) (hl : l.length ≤ 1000) : loopF (forth_network_each_L1 l x) ((0 : Int), l) = some (.inl (actAll x.Target l)) := by
  refine loopF_inv (body := forth_network_each_L1 l x) l.length (fun i s => s = ((i : Int), (List.range i).map (fun j => setAct x.Target j (l.getD j i0)) ++ l.drop i)) (fun r => r = some (.inl (actAll x.Target l))) (fun i s hi hs => ?_) (fun s hs => ?_) rfl
  · subst hs
    left
    have hlt : decide ((i : Int) < ((l.length : Nat) : Int)) = true := decide_eq_true (by omega)
    have hw : IntKind.i64.wrap ((i : Int) + 1) = ((i + 1 : Nat) : Int) := by rw [wrap64 (by omega) (by omega)]; omega
    have hP : ((List.range i).map fun j => setAct x.Target j (l.getD j i0)).length = i := by simp
    have hd : l.drop i = l.getD i i0 :: l.drop (i + 1) := by
      rw [List.drop_eq_getElem_cons hi, List.getD_eq_getElem?_getD, List.getElem?_eq_getElem hi]
      rfl
    have hc : (decide (0 ≤ (i : Int)) && decide ((i : Int) < ((((List.range i).map fun j => setAct x.Target j (l.getD j i0)) ++ l.getD i i0 :: l.drop (i + 1)).length : Nat))) = true := by
      rw [List.length_append, hP, List.length_cons]
      simp only [Bool.and_eq_true, decide_eq_true_eq]
      omega
    refine ⟨_, ?_, rfl⟩
    unfold forth_network_each_L1
    simp only [hlt, cond_true, hw]
    rw [hd, hc, chkO_true, get_mid hP, bind_s]
    simp only [Int.toNat_natCast]
    rw [set_mid hP, get_mid hP, bind_s, set_mid hP, List.range_succ, List.map_append, List.append_assoc]
    rfl
  · subst hs
    refine ⟨_, ?_, rfl⟩
    unfold forth_network_each_L1
    simp only [Int.lt_irrefl, decide_false, cond_false, List.drop_length, List.append_nil]
    rfl
def eachS (n : forth_network) (id kind : Int) (texts : List ByteArray) : List api_Item := actAll (n.events.getD id.toNat e0).Target (itemsS id kind (allT (firstS' n (n.events.getD id.toNat e0).Target).length texts))
theorem each_len (n : forth_network) (id kind : Int) (texts : List ByteArray) : (eachS n id kind texts).length = (firstS' n (n.events.getD id.toNat e0).Target).length := by
  unfold eachS
  rw [actAll_len, items_len, allT_len]
theorem each_eq {n : forth_network} (h : NetOk n) {id : Int} (h1 : 0 ≤ id) (h2 : id < (n.events.length : Int)) (t1 : 0 ≤ (n.events.getD id.toNat e0).Target) (t2 : (n.events.getD id.toNat e0).Target < (n.events.length : Int)) (kind : Int) (texts : List ByteArray) : forth_network_each n id kind texts = some (eachS n id kind texts) := by
  have hf := first_len h (n.events.getD id.toNat e0).Target
  have hp := h.parts
  unfold forth_network_each eachS
  simp only [netE]
  rw [ev_at h1 h2, bind_s, first_of h t1 t2, bind_s]
  have hc : (decide (0 ≤ (((firstS' n (n.events.getD id.toNat e0).Target).length : Nat) : Int)) && decide ((((firstS' n (n.events.getD id.toNat e0).Target).length : Nat) : Int) ≤ 1000000)) = true := by
    simp only [Bool.and_eq_true, decide_eq_true_eq]
    omega
  rw [hc, chkO_true, Int.toNat_natCast]
  have he := items_eq id kind (allT (firstS' n (n.events.getD id.toNat e0).Target).length texts) (by rw [allT_len]; omega)
  have he' := he
  unfold allT at he'
  have hn : noS = ByteArray.mk #[] := rfl
  rw [hn] at he'
  rw [he', bind_s]
  have := each_loop (n.events.getD id.toNat e0) (itemsS id kind (allT (firstS' n (n.events.getD id.toNat e0).Target).length texts)) (by rw [items_len, allT_len]; omega)
  unfold allT at this ⊢
  rw [hn] at this ⊢
  rw [this]
  rfl
/-- the items of an edit -/
def editText (n : forth_network) (id : Int) : ByteArray := (((ByteArray.mk #[101, 100, 105, 116, 58, 32] ++ lineOf n (n.events.getD id.toNat e0).Target) ++ ByteArray.mk #[10]) ++ (n.events.getD id.toNat e0).Text) ++ listedS (n.events.getD id.toNat e0).Files []
def editS (n : forth_network) (id : Int) : List api_Item :=
  bif sameB n 2 then upd0 (setFiles (shownS n.p.Files n.bad (n.events.getD id.toNat e0).Files)) (eachS n id 1 (partsS (wordsS n (n.events.getD id.toNat e0).Target (n.events.getD id.toNat e0).Text (n.events.getD id.toNat e0).Files) n.p.Size.toNat (firstS' n (n.events.getD id.toNat e0).Target).length))
  else postS n id (editText n id) (placeS n (n.events.getD id.toNat e0).Target)
theorem edit_eq {n : forth_network} (h : NetOk n) {id : Int} (h1 : 0 ≤ id) (h2 : id < (n.events.length : Int)) (t1 : 0 ≤ (n.events.getD id.toNat e0).Target) (t2 : (n.events.getD id.toNat e0).Target < (n.events.length : Int)) : forth_network_edit n id = some (editS n id) := by
  have hm := ev_mem h1 h2
  have hxf := h.files _ hm
  have hxt := h.txt _ hm
  have hx := h.ints _ hm
  have hpp := h.parts
  have hq2 : forth_network_same n (2 : Int) = some (sameB n 2) := same_eq n 2 (by have := h.ways; omega)
  have hfl := first_len h (n.events.getD id.toNat e0).Target
  have hwz := wordsS_size h t1 t2 hxt hxf hx.2.2
  have hshow := shown_eq n (n.events.getD id.toNat e0).Files (by omega) (by have := h.bad; omega)
  have hls := listed_size [] (n.events.getD id.toNat e0).Files noS hx.2.2
  have h0 : noS.size = 0 := rfl
  have hll := lineS_size (n.events.getD (n.events.getD id.toNat e0).Target.toNat e0).Text
  have hlo : (lineOf n (n.events.getD id.toNat e0).Target).size ≤ 20 := hll
  unfold forth_network_edit editS
  simp only [netE]
  rw [ev_at h1 h2, bind_s, hq2, bind_s]
  cases sameB n 2
  · simp only [Bool.not_false, cond_true, cond_false]
    rw [line_of h t1 t2, bind_s]
    rw [decide_eq_true (show (ByteArray.mk #[101, 100, 105, 116, 58, 32]).size + (lineOf n (n.events.getD id.toNat e0).Target).size ≤ 1000000000 by show 6 + _ ≤ _; omega), chkO_true,
      decide_eq_true (show ((ByteArray.mk #[101, 100, 105, 116, 58, 32]) ++ lineOf n (n.events.getD id.toNat e0).Target).size + (ByteArray.mk #[10]).size ≤ 1000000000 by rw [sz_app]; show 6 + _ + 1 ≤ _; omega), chkO_true,
      decide_eq_true (show (((ByteArray.mk #[101, 100, 105, 116, 58, 32]) ++ lineOf n (n.events.getD id.toNat e0).Target) ++ (ByteArray.mk #[10])).size + (n.events.getD id.toNat e0).Text.size ≤ 1000000000 by rw [sz_app, sz_app]; show 6 + _ + 1 + _ ≤ _; omega), chkO_true,
      listed_eq _ [] (by omega) (by simp) hx.2.2, bind_s,
      decide_eq_true (show ((((ByteArray.mk #[101, 100, 105, 116, 58, 32]) ++ lineOf n (n.events.getD id.toNat e0).Target) ++ (ByteArray.mk #[10])) ++ (n.events.getD id.toNat e0).Text).size + (listedS (n.events.getD id.toNat e0).Files []).size ≤ 1000000000 by unfold listedS; rw [sz_app, sz_app, sz_app]; show 6 + _ + 1 + _ + _ ≤ _; omega), chkO_true,
      place_eq, bind_s]
    have := post_eq h id (editText n id) (by unfold editText listedS; rw [sz_app, sz_app, sz_app, sz_app]; show 6 + _ + 1 + _ + _ ≤ _; omega) (placeS n (n.events.getD id.toNat e0).Target)
    unfold editText at this ⊢
    rw [this]
    rfl
  · simp only [Bool.not_true, cond_true, cond_false]
    rw [words_eq h t1 t2 hxt hxf hx.2.2, bind_s, first_of h t1 t2, bind_s, parts_eq _ (by omega) h.size ⟨by omega, by omega⟩, bind_s, each_eq h h1 h2 t1 t2, bind_s, hshow, bind_s, Int.toNat_natCast]
    exact upd_step _ (by rw [each_len]; omega) (setFiles (shownS n.p.Files n.bad (n.events.getD id.toNat e0).Files)) some
/-- the items of a deletion -/
def removeS (n : forth_network) (id : Int) : List api_Item :=
  bif sameB n 3 then eachS n id 2 []
  else bif (n.ways.getD 3 w0).How == 2 then eachS n id 1 [ByteArray.mk #[40, 100, 101, 108, 101, 116, 101, 100, 41]]
  else postS n id (ByteArray.mk #[97, 32, 109, 101, 115, 115, 97, 103, 101, 32, 119, 97, 115, 32, 100, 101, 108, 101, 116, 101, 100]) (placeS n (n.events.getD id.toNat e0).Target)
theorem remove_eq {n : forth_network} (h : NetOk n) {id : Int} (h1 : 0 ≤ id) (h2 : id < (n.events.length : Int)) (t1 : 0 ≤ (n.events.getD id.toNat e0).Target) (t2 : (n.events.getD id.toNat e0).Target < (n.events.length : Int)) : forth_network_remove n id = some (removeS n id) := by
  have hg : getI n.ways (3 : Int) = some (n.ways.getD 3 w0) := getI_in w0 (show 3 < n.ways.length by have := h.ways; omega)
  have e1 := each_eq h h1 h2 t1 t2 2 []
  have e2 := each_eq h h1 h2 t1 t2 1 [ByteArray.mk #[40, 100, 101, 108, 101, 116, 101, 100, 41]]
  have e3 := post_eq h id (ByteArray.mk #[97, 32, 109, 101, 115, 115, 97, 103, 101, 32, 119, 97, 115, 32, 100, 101, 108, 101, 116, 101, 100]) (by decide) (placeS n (n.events.getD id.toNat e0).Target)
  unfold forth_network_remove removeS sameB
  simp only [netE]
  rw [hg, bind_s, e1, e2, ev_at h1 h2]
  cases (n.ways.getD 3 w0).How == 0
  · cases (n.ways.getD 3 w0).How == 2
    · simp only [cond_false, bind_s]
      rw [place_eq, bind_s, e3]
      rfl
    · rfl
  · rfl
/-- the items of a reaction -/
def reactText (n : forth_network) (id : Int) : ByteArray := bif (n.events.getD id.toNat e0).Kind == 4 then (ByteArray.mk #[114, 101, 97, 99, 116, 105, 111, 110, 32] ++ itoaS (n.events.getD id.toNat e0).N) ++ ByteArray.mk #[32, 116, 97, 107, 101, 110, 32, 98, 97, 99, 107] else ByteArray.mk #[114, 101, 97, 99, 116, 105, 111, 110, 32] ++ itoaS (n.events.getD id.toNat e0).N
def reactKind (n : forth_network) (id : Int) : Int := bif (n.events.getD id.toNat e0).Kind == 4 then 4 else 3
def reactS (n : forth_network) (id : Int) : List api_Item :=
  bif sameB n 4 then [⟨id, 0, 1, reactKind n id, (n.events.getD id.toNat e0).Target, 0, -1, -1, (n.events.getD id.toNat e0).N, noS, []⟩]
  else postS n id (reactText n id) (placeS n (n.events.getD id.toNat e0).Target)
theorem react_eq {n : forth_network} (h : NetOk n) {id : Int} (h1 : 0 ≤ id) (h2 : id < (n.events.length : Int)) : forth_network_react n id = some (reactS n id) := by
  have hx := h.ints _ (ev_mem h1 h2)
  have hq4 : forth_network_same n (4 : Int) = some (sameB n 4) := same_eq n 4 (by have := h.ways; omega)
  have hz := itoa_size hx.2.1
  have i1 := items_eq id 3 [ByteArray.mk #[]] (by decide)
  have i2 := items_eq id 4 [ByteArray.mk #[]] (by decide)
  unfold forth_network_react reactS reactText reactKind
  simp only [netE]
  rw [ev_at h1 h2, bind_s, itoa_eq hx.2.1, bind_s,
    decide_eq_true (show (ByteArray.mk #[114, 101, 97, 99, 116, 105, 111, 110, 32]).size + (itoaS (n.events.getD id.toNat e0).N).size ≤ 1000000000 by show 9 + _ ≤ _; omega), chkO_true]
  cases (n.events.getD id.toNat e0).Kind == 4
  · simp only [cond_false]
    rw [hq4, bind_s]
    cases sameB n 4
    · simp only [Bool.not_false, cond_true, cond_false]
      rw [place_eq, bind_s, post_eq h id _ (by rw [sz_app]; show 9 + _ ≤ _; omega)]
      rfl
    · simp only [Bool.not_true, cond_true, cond_false]
      rw [i1]
      rfl
  · simp only [cond_true]
    rw [decide_eq_true (show ((ByteArray.mk #[114, 101, 97, 99, 116, 105, 111, 110, 32]) ++ itoaS (n.events.getD id.toNat e0).N).size + (ByteArray.mk #[32, 116, 97, 107, 101, 110, 32, 98, 97, 99, 107]).size ≤ 1000000000 by rw [sz_app]; show 9 + _ + 11 ≤ _; omega), chkO_true, hq4, bind_s]
    cases sameB n 4
    · simp only [Bool.not_false, cond_true, cond_false]
      rw [place_eq, bind_s, post_eq h id _ (by rw [sz_app, sz_app]; show 9 + _ + 11 ≤ _; omega)]
      rfl
    · simp only [Bool.not_true, cond_true, cond_false]
      rw [i2]
      rfl
/-- the items of an event -/
def allS (n : forth_network) (id : Int) : List api_Item :=
  bif (n.events.getD id.toNat e0).Kind == 0 then firstS' n id
  else bif !(actB n.events id) then []
  else bif (n.events.getD id.toNat e0).Kind == 1 then editS n id
  else bif (n.events.getD id.toNat e0).Kind == 2 then removeS n id
  else bif (n.events.getD id.toNat e0).Kind == 3 then reactS n id
  else bif (n.events.getD id.toNat e0).Kind == 4 then reactS n id else []
theorem act_target {ev : List api_Event} {id : Int} (h : actB ev id = true) : 0 ≤ (ev.getD id.toNat e0).Target ∧ (ev.getD id.toNat e0).Target < id ∧ (ev.getD id.toNat e0).Target < (ev.length : Int) ∧ (ev.getD (ev.getD id.toNat e0).Target.toNat e0).Kind = 0 := by
  unfold actB at h
  rw [Bool.and_eq_true] at h
  exact msg_range h.1
theorem all_eq {n : forth_network} (h : NetOk n) {id : Int} (h1 : 0 ≤ id) (h2 : id < (n.events.length : Int)) : forth_network_all n id = some (allS n id) := by
  unfold forth_network_all allS
  simp only [netE]
  rw [ev_at h1 h2, bind_s]
  cases (n.events.getD id.toNat e0).Kind == 0
  · simp only [cond_false]
    rw [act_eq n h1 h2, bind_s]
    cases ha : actB n.events id
    · rfl
    · obtain ⟨t1, _, t2, _⟩ := act_target ha
      simp only [Bool.not_true, cond_false]
      rw [edit_eq h h1 h2 t1 t2, remove_eq h h1 h2 t1 t2, react_eq h h1 h2]
      cases (n.events.getD id.toNat e0).Kind == 1
      · cases (n.events.getD id.toNat e0).Kind == 2
        · cases (n.events.getD id.toNat e0).Kind == 3
          · cases (n.events.getD id.toNat e0).Kind == 4 <;> rfl
          · rfl
        · rfl
      · rfl
  · simp only [cond_true]
    rw [first_of h h1 h2]
    rfl
end Go.Proofs.YtljdbikodogeiaaDoor

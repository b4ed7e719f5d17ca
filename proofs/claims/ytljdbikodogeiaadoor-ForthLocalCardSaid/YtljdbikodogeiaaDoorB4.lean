/-
  Parts of words, and the items of a message (plain law of layers 10 and 21).
-/
import Derived.Test.YtljdbikodogeiaaDoorB3
namespace Go.Proofs.YtljdbikodogeiaaDoor
open Go.RowKit
/-- pieces of a text, as long as it is longer than one piece -/
def chopF (sz : Nat) : Nat → ByteArray → List ByteArray × ByteArray
  | 0, s => ([], s)
  | k + 1, s => bif decide (sz < s.size) then (s.extract 0 sz :: (chopF sz k (s.extract sz s.size)).1, (chopF sz k (s.extract sz s.size)).2) else ([], s)
def lastS (sz : Nat) (s : ByteArray) : ByteArray := bif decide (sz < s.size) then s.extract 0 (sz - 1) ++ ByteArray.mk #[43] else s
def partsS (s : ByteArray) (sz most : Nat) : List ByteArray := (chopF sz (most - 1) s).1 ++ [lastS sz (chopF sz (most - 1) s).2]
theorem chop_len (sz : Nat) : ∀ (k : Nat) (s : ByteArray), (chopF sz k s).1.length ≤ k
  | 0, _ => Nat.le_refl _
  | k + 1, s => by
    rw [chopF]
    cases decide (sz < s.size)
    · simp
    · have := chop_len sz k (s.extract sz s.size)
      simp only [cond_true, List.length_cons]
      omega
theorem chop_size (sz : Nat) : ∀ (k : Nat) (s : ByteArray), (∀ x ∈ (chopF sz k s).1, x.size ≤ sz) ∧ (chopF sz k s).2.size ≤ s.size
  | 0, s => ⟨fun x hx => by simp [chopF] at hx, Nat.le_refl _⟩
  | k + 1, s => by
    rw [chopF]
    cases decide (sz < s.size)
    · exact ⟨fun x hx => by simp at hx, Nat.le_refl _⟩
    · obtain ⟨h1, h2⟩ := chop_size sz k (s.extract sz s.size)
      have h3 : (s.extract sz s.size).size ≤ s.size := by rw [ByteArray.size_extract]; omega
      refine ⟨fun x hx => ?_, Nat.le_trans h2 h3⟩
      simp only [cond_true, List.mem_cons] at hx
      rcases hx with rfl | hx
      · rw [ByteArray.size_extract]
        omega
      · exact h1 x hx
theorem parts_len (s : ByteArray) (sz most : Nat) (hm : 1 ≤ most) : 1 ≤ (partsS s sz most).length ∧ (partsS s sz most).length ≤ most := by
  have := chop_len sz (most - 1) s
  unfold partsS
  rw [List.length_append, List.length_singleton]
  omega
theorem parts_size (s : ByteArray) (sz most : Nat) (hz : 1 ≤ sz) : ∀ x ∈ partsS s sz most, x.size ≤ sz := by
  intro x hx
  unfold partsS at hx
  rcases List.mem_append.1 hx with hx | hx
  · exact (chop_size sz _ _).1 x hx
  · rw [List.mem_singleton.1 hx]
    unfold lastS
    by_cases h : sz < (chopF sz (most - 1) s).2.size
    · rw [decide_eq_true h, cond_true, sz_app, ByteArray.size_extract]
      show min (sz - 1) _ - 0 + 1 ≤ sz
      omega
    · rw [decide_eq_false h, cond_false]
      omega
theorem parts_loop (sz most : Nat) (hz : 2 ≤ sz) (hz2 : sz ≤ 10000) (hm : most ≤ 100) : ∀ (k : Nat) (s : ByteArray) (acc : List ByteArray), s.size ≤ 1000000 → acc.length + k + 1 = most → loopF (words_Parts_L1 (sz : Int) (most : Int)) (s, acc) = some (.inl ((chopF sz k s).2, acc ++ (chopF sz k s).1))
  | k, s, acc, hs, ha => by
    have hw : IntKind.i64.wrap ((most : Int) - 1) = (most : Int) - 1 := wrap64 (by omega) (by omega)
    by_cases hlt : sz < s.size
    · have c1 : decide ((sz : Int) < (s.size : Int)) = true := decide_eq_true (by omega)
      cases k with
      | zero =>
        have c2 : decide (((acc.length : Nat) : Int) < (most : Int) - 1) = false := decide_eq_false (by omega)
        rw [loopF_stop (b := .inl (s, acc))]
        · simp [chopF]
        · unfold words_Parts_L1
          simp only [c1, cond_true, hw, c2, cond_false]
      | succ k =>
        have c2 : decide (((acc.length : Nat) : Int) < (most : Int) - 1) = true := decide_eq_true (by omega)
        have c3 : cutO (0 : Int) (sz : Int) (s.size : Int) = true := by
          unfold cutO
          simp only [Bool.and_eq_true, decide_eq_true_eq]
          omega
        have c4 : cutO (sz : Int) (s.size : Int) (s.size : Int) = true := by
          unfold cutO
          simp only [Bool.and_eq_true, decide_eq_true_eq]
          omega
        have c5 : decide (acc.length + [s.extract (0 : Int).toNat (sz : Int).toNat].length ≤ 1000000) = true := decide_eq_true (by simp only [List.length_singleton]; omega)
        rw [loopF_next (s' := (s.extract sz s.size, acc ++ [s.extract 0 sz]))]
        · rw [parts_loop sz most hz hz2 hm k (s.extract sz s.size) (acc ++ [s.extract 0 sz]) (by rw [ByteArray.size_extract]; omega) (by rw [List.length_append, List.length_singleton]; omega)]
          rw [chopF, decide_eq_true hlt]
          simp
        · unfold words_Parts_L1
          simp only [c1, cond_true, hw, c2, c3, c4, c5, chkO_true]
          rfl
    · have c1 : decide ((sz : Int) < (s.size : Int)) = false := decide_eq_false (by omega)
      have e : chopF sz k s = ([], s) := by
        cases k with
        | zero => rfl
        | succ k => rw [chopF, decide_eq_false hlt]; rfl
      rw [e, loopF_stop (b := .inl (s, acc))]
      · simp
      · unfold words_Parts_L1
        simp only [c1, cond_false]
theorem parts_eq (s : ByteArray) (hs : s.size ≤ 1000000) {size most : Int} (hz : 40 ≤ size ∧ size ≤ 4000) (hm : 1 ≤ most ∧ most ≤ 20) : words_Parts s size most = some (partsS s size.toNat most.toNat) := by
  obtain ⟨sz, rfl⟩ : ∃ k : Nat, size = (k : Int) := ⟨size.toNat, by omega⟩
  obtain ⟨mo, rfl⟩ : ∃ k : Nat, most = (k : Int) := ⟨most.toNat, by omega⟩
  have hsz := chop_size sz (mo - 1) s
  have hln := chop_len sz (mo - 1) s
  unfold words_Parts partsS
  rw [decide_eq_false (show ¬ (sz : Int) < 2 by omega), decide_eq_false (show ¬ (mo : Int) < 1 by omega), cond_false, cond_false, parts_loop sz mo (by omega) (by omega) (by omega) (mo - 1) s [] hs (by simp only [List.length_nil]; omega), seqF_l, List.nil_append]
  simp only [Int.toNat_natCast]
  generalize (chopF sz (mo - 1) s).2 = t at hsz ⊢
  generalize (chopF sz (mo - 1) s).1 = l at hsz hln ⊢
  have hw : IntKind.i64.wrap ((sz : Int) - 1) = ((sz - 1 : Nat) : Int) := by rw [wrap64 (by omega) (by omega)]; omega
  rw [hw, Int.toNat_natCast]
  unfold lastS
  by_cases h : sz < t.size
  · have c3 : cutO (0 : Int) ((sz - 1 : Nat) : Int) (t.size : Int) = true := by
      unfold cutO
      simp only [Bool.and_eq_true, decide_eq_true_eq]
      omega
    have hx : (t.extract (0 : Int).toNat (sz - 1)).size ≤ sz := by
      rw [ByteArray.size_extract]
      show min (sz - 1) t.size - 0 ≤ sz
      omega
    have c4 : decide ((t.extract (0 : Int).toNat (sz - 1)).size + (ByteArray.mk #[43]).size ≤ 1000000000) = true := decide_eq_true (by show _ + 1 ≤ _; omega)
    have c5 : decide (l.length + [(t.extract (0 : Int).toNat (sz - 1)) ++ (ByteArray.mk #[43])].length ≤ 1000000) = true := decide_eq_true (by simp only [List.length_singleton]; omega)
    rw [decide_eq_true (show (sz : Int) < (t.size : Int) by omega), decide_eq_true h, cond_true, cond_true, c3, chkO_true, c4, chkO_true, c5, chkO_true]
    rfl
  · have c5 : decide (l.length + [t].length ≤ 1000000) = true := decide_eq_true (by simp only [List.length_singleton]; omega)
    rw [decide_eq_false (show ¬ (sz : Int) < (t.size : Int) by omega), decide_eq_false h, cond_false, cond_false, c5, chkO_true]
/- items -/
def itemAt (id kind len : Int) (i : Nat) (t : ByteArray) : api_Item := ⟨id, (i : Int), len, kind, -1, 0, -1, -1, 0, t, []⟩
def itemsS (id kind : Int) (texts : List ByteArray) : List api_Item := (List.range texts.length).map fun i => itemAt id kind (texts.length : Int) i (texts.getD i noS)
theorem items_len (id kind : Int) (texts : List ByteArray) : (itemsS id kind texts).length = texts.length := by simp [itemsS]
theorem items_eq (id kind : Int) (texts : List ByteArray) (ht : texts.length ≤ 1000) : forth_items id kind texts = some (itemsS id kind texts) := by
  have key := loopF_inv (body := forth_items_L1 texts id kind) texts.length (fun i s => s = ((i : Int), (List.range i).map fun i => itemAt id kind (texts.length : Int) i (texts.getD i noS))) (fun r => r = some (.inl (itemsS id kind texts))) (fun i s hi hs => ?_) (fun s hs => ?_) (s0 := ((0 : Int), ([] : List api_Item))) rfl
  · unfold forth_items
    rw [key]
    rfl
  · subst hs
    left
    have hlt : decide ((i : Int) < (texts.length : Int)) = true := decide_eq_true (by omega)
    have hw : IntKind.i64.wrap ((i : Int) + 1) = ((i + 1 : Nat) : Int) := by rw [wrap64 (by omega) (by omega)]; omega
    refine ⟨_, ?_, rfl⟩
    unfold forth_items_L1
    simp only [hlt, cond_true, getI_in noS hi, bind_s, hw]
    rw [decide_eq_true (by simp only [List.length_map, List.length_range, List.length_singleton]; omega), chkO_true, List.range_succ, List.map_append]
    rfl
  · subst hs
    refine ⟨_, ?_, rfl⟩
    unfold forth_items_L1
    simp only [Int.lt_irrefl, decide_false, cond_false]
    rfl
/-- the first item, otherwise -/
def upd0 (f : api_Item → api_Item) : List api_Item → List api_Item
  | [] => []
  | x :: r => f x :: r
theorem upd0_len (f : api_Item → api_Item) (l : List api_Item) : (upd0 f l).length = l.length := by cases l <;> rfl
def i0 : api_Item := ⟨0, 0, 0, 0, 0, 0, 0, 0, 0, noS, []⟩
/-- a store into the first item -/
theorem upd_step {B : Type} (l : List api_Item) (hl : 1 ≤ l.length) (f : api_Item → api_Item) (k : List api_Item → Option B) :
    ((chkO (decide (0 ≤ (0 : Int)) && decide ((0 : Int) < ((l.length : Nat) : Int)))).bind fun _ => (getI l (0 : Int)).bind fun x => k (List.set l (0 : Int).toNat (f x))) = k (upd0 f l) := by
  cases l with
  | nil => simp at hl
  | cons x r =>
    rw [show (decide (0 ≤ (0 : Int)) && decide ((0 : Int) < (((x :: r).length : Nat) : Int))) = true by simp, chkO_true]
    rfl
theorem get_upd (l : List api_Item) (hl : 1 ≤ l.length) : getI l (0 : Int) = some (l.getD 0 i0) := by
  cases l with
  | nil => simp at hl
  | cons x r => rfl
def setOn (on : Int) (x : api_Item) : api_Item := { x with On := on }
def setQuote (q : Int) (x : api_Item) : api_Item := { x with Quote := q }
def setWho (w : Int) (x : api_Item) : api_Item := { x with Who := w }
def setFiles (f : List Int) (x : api_Item) : api_Item := { x with Files := f }
def postS (n : forth_network) (id : Int) (s : ByteArray) (on : Int) : List api_Item := upd0 (setOn on) (itemsS id 0 (partsS s n.p.Size.toNat n.p.Parts.toNat))
theorem post_len {n : forth_network} (h : NetOk n) (id : Int) (s : ByteArray) (on : Int) : 1 ≤ (postS n id s on).length ∧ (postS n id s on).length ≤ n.p.Parts.toNat := by
  have := parts_len s n.p.Size.toNat n.p.Parts.toNat (by have := h.parts; omega)
  unfold postS
  rw [upd0_len, items_len]
  exact this
theorem post_eq {n : forth_network} (h : NetOk n) (id : Int) (s : ByteArray) (hs : s.size ≤ 1000000) (on : Int) : forth_network_post n id s on = some (postS n id s on) := by
  have hp := parts_len s n.p.Size.toNat n.p.Parts.toNat (by have := h.parts; omega)
  have hpp := h.parts
  unfold forth_network_post postS
  rw [parts_eq s hs h.size h.parts, bind_s, items_eq id 0 _ (by omega), bind_s]
  exact upd_step (itemsS id 0 (partsS s n.p.Size.toNat n.p.Parts.toNat)) (by rw [items_len]; omega) (setOn on) some
/-- the items of a message -/
def firstS' (n : forth_network) (id : Int) : List api_Item :=
  let x := n.events.getD id.toNat e0
  let l := postS n id (wordsS n id x.Text x.Files) (bif msgB n.events x.Target id then placeS n x.Target else -1)
  let l2 := bif msgB n.events x.Quote id && sameB n 6 then upd0 (setQuote x.Quote) l else l
  let l3 := bif sameB n 7 then upd0 (setWho x.Who) l2 else l2
  upd0 (setFiles (shownS n.p.Files n.bad x.Files)) l3
theorem first_len {n : forth_network} (h : NetOk n) (id : Int) : 1 ≤ (firstS' n id).length ∧ (firstS' n id).length ≤ n.p.Parts.toNat := by
  have := post_len h id (wordsS n id (n.events.getD id.toNat e0).Text (n.events.getD id.toNat e0).Files) (bif msgB n.events (n.events.getD id.toNat e0).Target id then placeS n (n.events.getD id.toNat e0).Target else -1)
  unfold firstS'
  simp only [upd0_len]
  cases sameB n 7 <;> cases msgB n.events (n.events.getD id.toNat e0).Quote id && sameB n 6 <;> simp only [cond_true, cond_false, upd0_len] <;> exact this
theorem first_of {n : forth_network} (h : NetOk n) {id : Int} (h1 : 0 ≤ id) (h2 : id < (n.events.length : Int)) : forth_network_first n id = some (firstS' n id) := by
  have hm := ev_mem h1 h2
  have hxf := h.files _ hm
  have hxt := h.txt _ hm
  have hx := h.ints _ hm
  have hq6 : forth_network_same n (6 : Int) = some (sameB n 6) := same_eq n 6 (by have := h.ways; omega)
  have hq7 : forth_network_same n (7 : Int) = some (sameB n 7) := same_eq n 7 (by have := h.ways; omega)
  have hwz := wordsS_size h h1 h2 hxt hxf hx.2.2
  have hshow := shown_eq n (n.events.getD id.toNat e0).Files (by omega) (by have := h.bad; omega)
  unfold forth_network_first firstS'
  simp only [netE]
  rw [ev_at h1 h2, bind_s]
  have r1 : ((forth_network_message n (n.events.getD id.toNat e0).Target id).bind fun y4 => (bif y4 then (forth_network_place n (n.events.getD id.toNat e0).Target).bind fun y5 => some (.inl y5) else some (.inl (-1 : Int))) : Option (Int ⊕ List api_Item)) = some (.inl (bif msgB n.events (n.events.getD id.toNat e0).Target id then placeS n (n.events.getD id.toNat e0).Target else -1)) := by
    rw [message_eq, bind_s, place_eq]
    cases msgB n.events (n.events.getD id.toNat e0).Target id <;> rfl
  rw [r1, seqF_l, words_eq h h1 h2 hxt hxf hx.2.2, bind_s]
  have hpl := post_len h id (wordsS n id (n.events.getD id.toNat e0).Text (n.events.getD id.toNat e0).Files) (bif msgB n.events (n.events.getD id.toNat e0).Target id then placeS n (n.events.getD id.toNat e0).Target else -1)
  rw [post_eq h id _ (by omega), bind_s]
  generalize postS n id (wordsS n id (n.events.getD id.toNat e0).Text (n.events.getD id.toNat e0).Files) (bif msgB n.events (n.events.getD id.toNat e0).Target id then placeS n (n.events.getD id.toNat e0).Target else -1) = l at hpl ⊢
  generalize hxe : n.events.getD id.toNat e0 = x at hshow
  have r2 : ((forth_network_message n x.Quote id).bind fun y16 => (bif y16 then (forth_network_same n (6 : Int)).bind fun y17 => (bif y17 then (chkO (decide (0 ≤ (0 : Int)) && decide ((0 : Int) < ((l.length : Nat) : Int)))).bind fun _ => (getI l (0 : Int)).bind fun x19 => some (.inl (List.set l (0 : Int).toNat (api_Item.mk x19.Event x19.Part x19.Of x19.Kind x19.On x19.OnPart x.Quote x19.Who x19.N x19.Text x19.Files))) else some (.inl l)) else some (.inl l)) : Option (List api_Item ⊕ List api_Item)) = some (.inl (bif msgB n.events x.Quote id && sameB n 6 then upd0 (setQuote x.Quote) l else l)) := by
    rw [message_eq, bind_s, hq6]
    cases msgB n.events x.Quote id
    · rfl
    · simp only [cond_true, bind_s]
      cases sameB n 6
      · rfl
      · simp only [cond_true, Bool.and_self]
        exact upd_step l hpl.1 (setQuote x.Quote) fun z => some (Sum.inl z : List api_Item ⊕ List api_Item)
  rw [r2, seqF_l, hq7, bind_s]
  have hl2 : 1 ≤ (bif msgB n.events x.Quote id && sameB n 6 then upd0 (setQuote x.Quote) l else l).length := by
    cases msgB n.events x.Quote id && sameB n 6
    · exact hpl.1
    · rw [cond_true, upd0_len]
      exact hpl.1
  generalize (bif msgB n.events x.Quote id && sameB n 6 then upd0 (setQuote x.Quote) l else l) = l2 at hl2 ⊢
  cases sameB n 7
  · simp only [cond_false]
    rw [hshow, bind_s]
    exact upd_step l2 hl2 (setFiles (shownS n.p.Files n.bad x.Files)) some
  · simp only [cond_true]
    rw [hshow]
    simp only [bind_s]
    cases l2 with
    | nil => simp at hl2
    | cons y r =>
      rw [show (decide (0 ≤ (0 : Int)) && decide ((0 : Int) < (((y :: r).length : Nat) : Int))) = true by simp, chkO_true]
      rfl
end Go.Proofs.YtljdbikodogeiaaDoor

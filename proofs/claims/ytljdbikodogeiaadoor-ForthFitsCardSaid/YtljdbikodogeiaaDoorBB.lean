/-
  What each item of an event is (plain law of layer 21).
  Each item of an event uses what the network can do, and is in its place (plain law of layer 21).
  Each item of an event uses what the network can do, and is in its place: the items of messages and acts (plain law of layer 21).
  Each item of an event uses what the network can do, and is in its place: all events (plain law of layer 21).
  Each item of an event uses what the network can do, and is in its place: whole (plain law of layer 21).
-/
import Derived.Test.YtljdbikodogeiaaDoorB8
namespace Go.Proofs.YtljdbikodogeiaaDoor
open Go.RowKit
/-- an item uses nothing that the network cannot do -/
structure FitP (p : api_Profile) (bad : List Int) (x : api_Item) : Prop where
  text : (x.Text.size : Int) ≤ p.Size
  files : (x.Files.length : Int) ≤ p.Files
  good : ∀ f ∈ x.Files, f ∉ bad
  quote : x.Quote ≠ -1 → p.Quote = true
  who : x.Who ≠ -1 → p.Mention = true
  kind : (x.Kind = 0 ∧ (x.On = -1 ∨ p.Thread ≠ 0)) ∨ (x.Kind = 1 ∧ p.Edit = 2 ∧ 0 ≤ x.On) ∨ (x.Kind = 2 ∧ p.Delete ≠ 0 ∧ 0 ≤ x.On ∧ x.Text = noS) ∨ ((x.Kind = 3 ∨ x.Kind = 4) ∧ p.React = true ∧ 0 ≤ x.On ∧ x.Text = noS ∧ 1 ≤ x.N)
theorem has_eq (l : List Int) (hl : l.length ≤ 1000000) (x : Int) (hx : x ∉ l) : ref21_Has l x = some false := by
  have h := loopF_idx (body := ref21_Has_L1 l x) l.length (fun _ => true) true (fun i hi => by
    have hlt : decide ((i : Int) < (l.length : Int)) = true := decide_eq_true (by omega)
    have hw : IntKind.i64.wrap ((i : Int) + 1) = (i : Int) + 1 := wrap64 (by omega) (by omega)
    have hm : l.getD i 0 ∈ l := by
      rw [List.getD_eq_getElem?_getD, List.getElem?_eq_getElem hi]
      exact List.getElem_mem hi
    have hn : (l.getD i 0 == x) = false := by
      rw [beq_eq_false_iff_ne]
      intro e
      rw [e] at hm
      exact hx hm
    unfold ref21_Has_L1
    simp only [hlt, cond_true, getI_in (0 : Int) hi, bind_s, hw, hn, cond_false]) (by
    unfold ref21_Has_L1
    simp only [Int.lt_irrefl, decide_false, cond_false])
  unfold ref21_Has
  rw [h, all_true]
  rfl
theorem fits_eq {p : api_Profile} {bad : List Int} {x : api_Item} (h : FitP p bad x) (hb : bad.length ≤ 1000) (hf : x.Files.length ≤ 1000) : law21_fits p x bad = some true := by
  have hl := loopF_idx (body := law21_fits_L1 x bad) x.Files.length (fun _ => true) false (fun i hi => by
    have hlt : decide ((i : Int) < (x.Files.length : Int)) = true := decide_eq_true (by omega)
    have hw : IntKind.i64.wrap ((i : Int) + 1) = (i : Int) + 1 := wrap64 (by omega) (by omega)
    have hm : x.Files.getD i 0 ∈ x.Files := by
      rw [List.getD_eq_getElem?_getD, List.getElem?_eq_getElem hi]
      exact List.getElem_mem hi
    unfold law21_fits_L1
    simp only [hlt, cond_true, getI_in (0 : Int) hi, bind_s, hw, has_eq bad (by omega) _ (h.good _ hm), cond_false]) (by
    unfold law21_fits_L1
    simp only [Int.lt_irrefl, decide_false, cond_false])
  unfold law21_fits
  rw [hl, all_true]
  simp only [cond_true, seqF_l]
  have q1 : decide (p.Size < (x.Text.size : Int)) = false := decide_eq_false (by have := h.text; omega)
  have q2 : decide (p.Files < (x.Files.length : Int)) = false := decide_eq_false (by have := h.files; omega)
  have mid : ((bif decide (p.Size < (x.Text.size : Int)) then some (.inr false) else (bif decide (p.Files < (x.Files.length : Int)) then some (.inr false) else (bif (x.Quote != (-1 : Int)) then (bif (!p.Quote) then some (.inr false) else (bif (x.Who != (-1 : Int)) then (bif (!p.Mention) then some (.inr false) else some (.inl ())) else some (.inl ()))) else (bif (x.Who != (-1 : Int)) then (bif (!p.Mention) then some (.inr false) else some (.inl ())) else some (.inl ()))))) : Option (Unit ⊕ Bool)) = some (.inl ()) := by
    rw [q1, q2]
    simp only [cond_false]
    have w1 : (bif (x.Who != (-1 : Int)) then (bif (!p.Mention) then (some (.inr false) : Option (Unit ⊕ Bool)) else some (.inl ())) else some (.inl ())) = some (.inl ()) := by
      cases hw : x.Who != (-1 : Int)
      · rfl
      · rw [h.who (by simpa using hw)]
        rfl
    rw [w1]
    cases hq : x.Quote != (-1 : Int)
    · rfl
    · rw [h.quote (by simpa using hq)]
      rfl
  rw [mid, seqF_l]
  rcases h.kind with ⟨k, ho⟩ | ⟨k, k1, k2⟩ | ⟨k, k1, k2, k3⟩ | ⟨k, k1, k2, k3, k4⟩
  · rw [k]
    rcases ho with ho | ho
    · rw [ho]
      rfl
    · have : (p.Thread != (0 : Int)) = true := bne_iff_ne.2 ho
      rw [this]
      cases x.On == (-1 : Int) <;> rfl
  · rw [k, k1, decide_eq_true k2]
    rfl
  · rw [k, k3, decide_eq_true k2, show (p.Delete != (0 : Int)) = true from bne_iff_ne.2 k1]
    simp [noS]
  · rw [k1, k3, decide_eq_true k2, decide_eq_true k4]
    rcases k with k | k
    · rw [k]
      simp [noS]
    · rw [k]
      simp [noS]
end Go.Proofs.YtljdbikodogeiaaDoor
namespace Go.Proofs.YtljdbikodogeiaaDoor
open Go.RowKit
variable (p : api_Profile) (ev : List api_Event) (bad : List Int)
theorem same2 : sameB (netOf p ev bad) 2 = editsB p := by
  show ((firstS [⟨editsB p, ⟨0, 0⟩⟩, ⟨true, ⟨3, 2⟩⟩]).How == 0) = _
  cases editsB p <;> rfl
theorem same3 : sameB (netOf p ev bad) 3 = (p.Delete != 0) := by
  show ((firstS [⟨p.Delete != 0, ⟨0, 0⟩⟩, ⟨editsB p, ⟨2, 0⟩⟩, ⟨true, ⟨3, 2⟩⟩]).How == 0) = _
  cases p.Delete != 0 <;> cases editsB p <;> rfl
theorem how3 (h : (p.Delete != 0) = false) : (((netOf p ev bad).ways.getD 3 w0).How == 2) = editsB p := by
  show ((firstS [⟨p.Delete != 0, ⟨0, 0⟩⟩, ⟨editsB p, ⟨2, 0⟩⟩, ⟨true, ⟨3, 2⟩⟩]).How == 2) = _
  rw [h]
  cases editsB p <;> rfl
theorem same4 : sameB (netOf p ev bad) 4 = p.React := by
  show ((reactS' p).How == 0) = _
  unfold reactS'
  cases p.React
  · rfl
  · cases decide (1 < p.Parts) <;> rfl
theorem same6 : sameB (netOf p ev bad) 6 = p.Quote := by
  show ((firstS [⟨p.Quote, ⟨0, 0⟩⟩, ⟨true, ⟨2, 2⟩⟩]).How == 0) = _
  cases p.Quote <;> rfl
theorem same7 : sameB (netOf p ev bad) 7 = p.Mention := by
  show ((firstS [⟨p.Mention, ⟨0, 0⟩⟩, ⟨true, ⟨2, 2⟩⟩]).How == 0) = _
  cases p.Mention <;> rfl
theorem edits_edit (h : editsB p = true) : p.Edit = 2 := by
  unfold editsB at h
  cases he : p.Edit == 2
  · rw [he] at h; cases h
  · simpa using he
/-- an item in its place -/
structure Placed (id : Int) (len i : Nat) (x : api_Item) : Prop where
  event : x.Event = id
  part : x.Part = (i : Int)
  of : x.Of = (len : Int)
  fit : FitP p bad x
  act : x.Kind = 1 ∨ x.Kind = 2 → x.On = (ev.getD id.toNat e0).Target ∧ x.OnPart = (i : Int) ∧ 0 ≤ x.On ∧ x.On < (ev.length : Int) ∧ (ev.getD x.On.toNat e0).Kind = 0 ∧ len = (firstS' (netOf p ev bad) x.On).length
  post : x.Kind = 0 → 0 < i → x.On = -1 ∧ x.Quote = -1 ∧ x.Who = -1 ∧ x.Files = []
def PlacedL (id : Int) (l : List api_Item) : Prop := ∀ i, i < l.length → Placed p ev bad id l.length i (l.getD i i0)
theorem upd_good {id : Int} {l : List api_Item} {f : api_Item → api_Item} (h : PlacedL p ev bad id l) (hf : Placed p ev bad id l.length 0 (l.getD 0 i0) → Placed p ev bad id l.length 0 (f (l.getD 0 i0))) : PlacedL p ev bad id (upd0 f l) := by
  intro i hi
  rw [upd0_len] at hi ⊢
  cases l with
  | nil => simp at hi
  | cons x r =>
    cases i with
    | zero => exact hf (h 0 (by simp))
    | succ i => exact h (i + 1) hi
theorem items_at (id kind : Int) (texts : List ByteArray) (i : Nat) (hi : i < texts.length) : (itemsS id kind texts).getD i i0 = itemAt id kind (texts.length : Int) i (texts.getD i noS) := by
  unfold itemsS
  rw [List.getD_eq_getElem?_getD, List.getElem?_map, List.getElem?_range hi]
  rfl
theorem post_good (hn : NetOk (netOf p ev bad)) (id : Int) (s : ByteArray) (on : Int) (hon : on = -1 ∨ p.Thread ≠ 0) : PlacedL p ev bad id (postS (netOf p ev bad) id s on) := by
  have hsz := hn.size
  have hmo := hn.most
  have hz : 40 ≤ p.Size ∧ p.Size ≤ 4000 := hsz
  have base : ∀ i, i < (itemsS id 0 (partsS s p.Size.toNat p.Parts.toNat)).length → Placed p ev bad id (itemsS id 0 (partsS s p.Size.toNat p.Parts.toNat)).length i ((itemsS id 0 (partsS s p.Size.toNat p.Parts.toNat)).getD i i0) := by
    intro i hi
    rw [items_len] at hi ⊢
    rw [items_at id 0 _ i hi]
    have ht := parts_size s p.Size.toNat p.Parts.toNat (by omega) ((partsS s p.Size.toNat p.Parts.toNat).getD i noS) (by
      rw [List.getD_eq_getElem?_getD, List.getElem?_eq_getElem hi]
      exact List.getElem_mem hi)
    refine ⟨rfl, rfl, rfl, ⟨?_, hmo, fun f hf => by simp [itemAt] at hf, fun h => absurd rfl h, fun h => absurd rfl h, Or.inl ⟨rfl, Or.inl rfl⟩⟩, fun h => ?_, fun _ _ => ⟨rfl, rfl, rfl, rfl⟩⟩
    · show (((partsS s p.Size.toNat p.Parts.toNat).getD i noS).size : Int) ≤ p.Size
      omega
    · rcases h with h | h <;> exact absurd h (by simp [itemAt])
  have hl := parts_len s p.Size.toNat p.Parts.toNat (by have : 1 ≤ p.Parts ∧ p.Parts ≤ 20 := hn.parts; omega)
  refine upd_good p ev bad base fun hx => ?_
  have hx : Placed p ev bad id (itemsS id 0 (partsS s p.Size.toNat p.Parts.toNat)).length 0 ((itemsS id 0 (partsS s p.Size.toNat p.Parts.toNat)).getD 0 i0) := hx
  show Placed p ev bad id (itemsS id 0 (partsS s p.Size.toNat p.Parts.toNat)).length 0 (setOn on ((itemsS id 0 (partsS s p.Size.toNat p.Parts.toNat)).getD 0 i0))
  rw [items_at id 0 (partsS s p.Size.toNat p.Parts.toNat) 0 (by omega)] at hx ⊢
  exact ⟨hx.event, hx.part, hx.of, ⟨hx.fit.text, hx.fit.files, hx.fit.good, hx.fit.quote, hx.fit.who, Or.inl ⟨rfl, hon⟩⟩, fun h => by rcases h with h | h <;> exact absurd h (by simp [itemAt, setOn]), fun _ h => absurd h (Nat.lt_irrefl 0)⟩
end Go.Proofs.YtljdbikodogeiaaDoor
namespace Go.Proofs.YtljdbikodogeiaaDoor
open Go.RowKit
variable (p : api_Profile) (ev : List api_Event) (bad : List Int)
theorem place_on (id : Int) : placeS (netOf p ev bad) id = -1 ∨ p.Thread ≠ 0 := by
  unfold placeS
  rw [ne_p, ne_ev]
  cases h2 : p.Thread == 2
  · cases h1 : p.Thread == 1
    · exact Or.inl rfl
    · exact Or.inr (by have : p.Thread = 1 := by simpa using h1
                       omega)
  · exact Or.inr (by have : p.Thread = 2 := by simpa using h2
                     omega)
theorem placed_files {id : Int} {len : Nat} {x : api_Item} (hm : 0 ≤ p.Files) (files : List Int) (h : Placed p ev bad id len 0 x) : Placed p ev bad id len 0 (setFiles (shownS p.Files bad files) x) := by
  obtain ⟨s1, s2⟩ := shown_most p.Files hm bad files [] (by simpa using hm) (fun x hx => by simp at hx)
  exact ⟨h.event, h.part, h.of, ⟨h.fit.text, s1, s2, h.fit.quote, h.fit.who, h.fit.kind⟩, h.act, fun _ h => absurd h (Nat.lt_irrefl 0)⟩
theorem first_good (hn : NetOk (netOf p ev bad)) (id : Int) : PlacedL p ev bad id (firstS' (netOf p ev bad) id) := by
  have hm : 0 ≤ p.Files := hn.most
  unfold firstS'
  simp only [ne_ev, ne_p, ne_bad, same6, same7]
  have hon : (bif msgB ev (ev.getD id.toNat e0).Target id then placeS (netOf p ev bad) (ev.getD id.toNat e0).Target else -1) = -1 ∨ p.Thread ≠ 0 := by
    cases msgB ev (ev.getD id.toNat e0).Target id
    · exact Or.inl rfl
    · exact place_on p ev bad _
  have h1 := post_good p ev bad hn id (wordsS (netOf p ev bad) id (ev.getD id.toNat e0).Text (ev.getD id.toNat e0).Files) _ hon
  generalize postS (netOf p ev bad) id (wordsS (netOf p ev bad) id (ev.getD id.toNat e0).Text (ev.getD id.toNat e0).Files) (bif msgB ev (ev.getD id.toNat e0).Target id then placeS (netOf p ev bad) (ev.getD id.toNat e0).Target else -1) = l at h1 ⊢
  have h2 : PlacedL p ev bad id (bif msgB ev (ev.getD id.toNat e0).Quote id && p.Quote then upd0 (setQuote (ev.getD id.toNat e0).Quote) l else l) := by
    cases hq : msgB ev (ev.getD id.toNat e0).Quote id && p.Quote
    · exact h1
    · rw [Bool.and_eq_true] at hq
      exact upd_good p ev bad h1 fun h => ⟨h.event, h.part, h.of, ⟨h.fit.text, h.fit.files, h.fit.good, fun _ => hq.2, h.fit.who, h.fit.kind⟩, h.act, fun _ h => absurd h (Nat.lt_irrefl 0)⟩
  generalize (bif msgB ev (ev.getD id.toNat e0).Quote id && p.Quote then upd0 (setQuote (ev.getD id.toNat e0).Quote) l else l) = l2 at h2 ⊢
  have h3 : PlacedL p ev bad id (bif p.Mention then upd0 (setWho (ev.getD id.toNat e0).Who) l2 else l2) := by
    cases hq : p.Mention
    · exact h2
    · exact upd_good p ev bad h2 fun h => ⟨h.event, h.part, h.of, ⟨h.fit.text, h.fit.files, h.fit.good, h.fit.quote, fun _ => hq, h.fit.kind⟩, h.act, fun _ h => absurd h (Nat.lt_irrefl 0)⟩
  exact upd_good p ev bad h3 fun h => placed_files p ev bad hm _ h
end Go.Proofs.YtljdbikodogeiaaDoor
namespace Go.Proofs.YtljdbikodogeiaaDoor
open Go.RowKit
variable (p : api_Profile) (ev : List api_Event) (bad : List Int)
theorem getB_mem (l : List ByteArray) (i : Nat) (hi : i < l.length) : l.getD i noS ∈ l := by
  rw [List.getD_eq_getElem?_getD, List.getElem?_eq_getElem hi]
  exact List.getElem_mem hi
theorem allT_mem {many : Nat} {texts : List ByteArray} {t : ByteArray} (h : t ∈ allT many texts) : t ∈ texts ∨ t = noS := by
  unfold allT at h
  rcases List.mem_append.1 h with h | h
  · exact Or.inl (List.mem_of_mem_take h)
  · exact Or.inr (List.eq_of_mem_replicate (List.mem_of_mem_drop h))
theorem each_good (hn : NetOk (netOf p ev bad)) {id : Int} (ha : actB ev id = true) (kind : Int) (texts : List ByteArray) (hk : (kind = 1 ∧ p.Edit = 2 ∧ ∀ t ∈ texts, (t.size : Int) ≤ p.Size) ∨ (kind = 2 ∧ p.Delete ≠ 0 ∧ texts = [])) : PlacedL p ev bad id (eachS (netOf p ev bad) id kind texts) := by
  have hz : 40 ≤ p.Size ∧ p.Size ≤ 4000 := hn.size
  have hmo : 0 ≤ p.Files := hn.most
  obtain ⟨t1, _, t2, t3⟩ := act_target ha
  intro i hi
  have hlen := each_len (netOf p ev bad) id kind texts
  rw [hlen] at hi ⊢
  unfold eachS actAll
  rw [ne_ev] at hi ⊢
  have hil : i < (allT (firstS' (netOf p ev bad) (ev.getD id.toNat e0).Target).length texts).length := by rw [allT_len]; exact hi
  have hii : i < (itemsS id kind (allT (firstS' (netOf p ev bad) (ev.getD id.toNat e0).Target).length texts)).length := by rw [items_len]; exact hil
  have e : ((List.range (itemsS id kind (allT (firstS' (netOf p ev bad) (ev.getD id.toNat e0).Target).length texts)).length).map fun i => setAct (ev.getD id.toNat e0).Target i ((itemsS id kind (allT (firstS' (netOf p ev bad) (ev.getD id.toNat e0).Target).length texts)).getD i i0)).getD i i0 = setAct (ev.getD id.toNat e0).Target i (itemAt id kind ((allT (firstS' (netOf p ev bad) (ev.getD id.toNat e0).Target).length texts).length : Int) i ((allT (firstS' (netOf p ev bad) (ev.getD id.toNat e0).Target).length texts).getD i noS)) := by
    rw [← items_at id kind _ i hil, List.getD_eq_getElem?_getD, List.getElem?_map, List.getElem?_range hii]
    rfl
  rw [e, allT_len]
  have hmem := getB_mem (allT (firstS' (netOf p ev bad) (ev.getD id.toNat e0).Target).length texts) i hil
  generalize (allT (firstS' (netOf p ev bad) (ev.getD id.toNat e0).Target).length texts).getD i noS = t at hmem ⊢
  have hno : ((noS.size : Nat) : Int) ≤ p.Size := by show ((0 : Nat) : Int) ≤ p.Size; omega
  have hts : (t.size : Int) ≤ p.Size := by
    rcases allT_mem hmem with h | h
    · rcases hk with ⟨_, _, hk⟩ | ⟨_, _, hk⟩
      · exact hk t h
      · rw [hk] at h
        simp at h
    · rw [h]
      exact hno
  refine ⟨rfl, rfl, rfl, ⟨hts, hmo, fun f hf => by simp [itemAt, setAct] at hf, fun h => absurd rfl h, fun h => absurd rfl h, ?_⟩, fun _ => ⟨rfl, rfl, t1, t2, t3, rfl⟩, fun h => ?_⟩
  · rcases hk with ⟨hk, he, _⟩ | ⟨hk, hd, ht⟩
    · exact Or.inr (Or.inl ⟨hk, he, t1⟩)
    · refine Or.inr (Or.inr (Or.inl ⟨hk, hd, t1, ?_⟩))
      rcases allT_mem hmem with h | h
      · rw [ht] at h
        simp at h
      · exact h
  · have h : kind = 0 := h
    rcases hk with ⟨hk, _⟩ | ⟨hk, _⟩ <;> omega
end Go.Proofs.YtljdbikodogeiaaDoor
namespace Go.Proofs.YtljdbikodogeiaaDoor
open Go.RowKit
variable (p : api_Profile) (ev : List api_Event) (bad : List Int)
theorem edit_good (hn : NetOk (netOf p ev bad)) {id : Int} (ha : actB ev id = true) : PlacedL p ev bad id (editS (netOf p ev bad) id) := by
  have hz : 40 ≤ p.Size ∧ p.Size ≤ 4000 := hn.size
  unfold editS
  rw [same2]
  cases he : editsB p
  · exact post_good p ev bad hn id _ _ (place_on p ev bad _)
  · rw [cond_true]
    refine upd_good p ev bad (each_good p ev bad hn ha 1 _ (Or.inl ⟨rfl, edits_edit p he, fun t ht => ?_⟩)) fun h => placed_files p ev bad hn.most _ h
    have := parts_size _ _ _ (by rw [ne_p]; omega) t ht
    rw [ne_p] at this
    omega
theorem remove_good (hn : NetOk (netOf p ev bad)) {id : Int} (ha : actB ev id = true) : PlacedL p ev bad id (removeS (netOf p ev bad) id) := by
  have hz : 40 ≤ p.Size ∧ p.Size ≤ 4000 := hn.size
  unfold removeS
  rw [same3]
  cases hd : p.Delete != 0
  · rw [cond_false, how3 p ev bad hd]
    cases he : editsB p
    · exact post_good p ev bad hn id _ _ (place_on p ev bad _)
    · rw [cond_true]
      refine each_good p ev bad hn ha 1 _ (Or.inl ⟨rfl, edits_edit p he, fun t ht => ?_⟩)
      rw [List.mem_singleton.1 ht]
      show ((9 : Nat) : Int) ≤ p.Size
      omega
  · rw [cond_true]
    exact each_good p ev bad hn ha 2 [] (Or.inr ⟨rfl, by simpa using hd, rfl⟩)
theorem react_good (hn : NetOk (netOf p ev bad)) {id : Int} (ha : actB ev id = true) (hN : 1 ≤ (ev.getD id.toNat e0).N) : PlacedL p ev bad id (reactS (netOf p ev bad) id) := by
  have hz : 40 ≤ p.Size ∧ p.Size ≤ 4000 := hn.size
  obtain ⟨t1, _, _, _⟩ := act_target ha
  unfold reactS
  rw [same4]
  cases hr : p.React
  · exact post_good p ev bad hn id _ _ (place_on p ev bad _)
  · rw [cond_true]
    intro i hi
    have hi : i = 0 := by simp only [List.length_singleton] at hi; omega
    subst hi
    have hk : reactKind (netOf p ev bad) id = 3 ∨ reactKind (netOf p ev bad) id = 4 := by
      unfold reactKind
      cases ((netOf p ev bad).events.getD id.toNat e0).Kind == 4
      · exact Or.inl rfl
      · exact Or.inr rfl
    refine ⟨rfl, rfl, rfl, ⟨(by show ((0 : Nat) : Int) ≤ p.Size; omega), hn.most, fun f hf => (absurd hf (by simp)), fun h => absurd rfl h, fun h => absurd rfl h, Or.inr (Or.inr (Or.inr ⟨hk, hr, t1, rfl, hN⟩))⟩, fun h => ?_, fun _ h => absurd h (Nat.lt_irrefl 0)⟩
    have h : reactKind (netOf p ev bad) id = 1 ∨ reactKind (netOf p ev bad) id = 2 := h
    omega
theorem nil_good (id : Int) : PlacedL p ev bad id [] := fun _ hi => absurd hi (Nat.not_lt_zero _)
theorem all_good (hn : NetOk (netOf p ev bad)) (id : Int) (hN : (ev.getD id.toNat e0).Kind = 3 ∨ (ev.getD id.toNat e0).Kind = 4 → 1 ≤ (ev.getD id.toNat e0).N) : PlacedL p ev bad id (allS (netOf p ev bad) id) := by
  unfold allS
  rw [ne_ev]
  cases (ev.getD id.toNat e0).Kind == 0
  · cases ha : actB ev id
    · exact nil_good p ev bad id
    · cases (ev.getD id.toNat e0).Kind == 1
      · cases (ev.getD id.toNat e0).Kind == 2
        · cases h3 : (ev.getD id.toNat e0).Kind == 3
          · cases h4 : (ev.getD id.toNat e0).Kind == 4
            · exact nil_good p ev bad id
            · exact react_good p ev bad hn ha (hN (Or.inr (by simpa using h4)))
          · exact react_good p ev bad hn ha (hN (Or.inl (by simpa using h3)))
        · exact remove_good p ev bad hn ha
      · exact edit_good p ev bad hn ha
  · exact first_good p ev bad hn id
end Go.Proofs.YtljdbikodogeiaaDoor

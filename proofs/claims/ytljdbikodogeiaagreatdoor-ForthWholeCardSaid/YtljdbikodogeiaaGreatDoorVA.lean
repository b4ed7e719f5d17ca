/-
  What becomes of messages, in plain words; how it lies in memory while it is worked out; what an event does to it.
  The plain steps of View's first loop; how an event is read.
  What lies in memory in View's first loop.
  The order of reactions; maps.Keys, slices.Sorted, slices.SortFunc, slices.SortedFunc at View's types.
  The row of messages that View hands back, while it grows; the state of the second loop.
  The state of View's second loop.
  What View's second loop calls; what a round of it leaves.
-/
import Derived.Test.YtljdbikodogeiaaGreatDoorActA
import Derived.Test.YtljdbikodogeiaaGreatDoorGC
import Derived.Test.YtljdbikodogeiaaGreatDoorEvV
import Derived.Carry
import Derived.Test.YtljdbikodogeiaaGreatDoorEvW
import Derived.Test.YtljdbikodogeiaaGreatDoorEvK5
import Derived.Test.YtljdbikodogeiaaGreatDoorShelf2
import Derived.Test.YtljdbikodogeiaaGreatDoorRowLaws
import Derived.Test.YtljdbikodogeiaaGreatDoorEvK
namespace Go.Proofs.YtljdbikodogeiaaGreatDoor
open Go.RowKit Go.MapKept
/-- a message, with its reactions -/
structure VSt where
  id : Int
  au : Int
  gr : Int
  pa : Int
  qu : Int
  wh : Int
  tx : ByteArray
  fl : List Int
  ed : Int
  gone : Bool
  re : List Pr
def vAct (s : VSt) (e : api_Event) : VSt :=
  bif (e.Group != s.gr) || s.gone then s
  else bif (e.Kind == 1) && (e.Author == s.au) then { s with tx := e.Text, fl := e.Files, ed := RowKit.wrap64 (s.ed + 1) }
  else bif e.Kind == 2 then { s with tx := ⟨#[]⟩, fl := [], ed := 0, gone := true, re := [] }
  else bif e.Kind == 3 then { s with re := putP s.re (e.Author, e.N) }
  else bif e.Kind == 4 then { s with re := s.re.erase (e.Author, e.N) }
  else s
theorem vAct_id (s : VSt) (e : api_Event) : (vAct s e).id = s.id := by
  unfold vAct
  cases (e.Group != s.gr) || s.gone <;> cases (e.Kind == 1) && (e.Author == s.au) <;> cases e.Kind == 2 <;> cases e.Kind == 3 <;> cases e.Kind == 4 <;> rfl
/-- a message in memory: its box, and the map of its reactions -/
def StAt (R : List Int → Value → Prop) (W : World) (s : VSt) (b : Nat × Nat) : Prop :=
  ∃ fl, R s.fl fl ∧ W.heap[b.1]? = some (.cells (stC s.id s.au s.gr s.pa s.qu s.wh s.tx fl s.ed s.gone (bif s.gone then .map none else .map (some b.2))) 82 (0, 0)) ∧
    (s.gone = false → ∃ ents clock, W.heap[b.2]? = some (.map ents clock) ∧ Stamped ents clock ∧ KeysAre ents s.re) ∧ ∀ x ∈ s.re, inR x
/-- two blocks may have changed, no other one -/
structure Two (w w' : World) (b : Nat × Nat) : Prop where
  os : w'.os = w.os
  tape : w'.tape = w.tape
  output : w'.output = w.output
  size : w.heap.size ≤ w'.heap.size
  block : ∀ k, k < w.heap.size → k ≠ b.1 → k ≠ b.2 → w'.heap[k]? = w.heap[k]?
theorem Two.below {w w' : World} (h : Below w.heap.size w w') (b : Nat × Nat) : Two w w' b := ⟨h.os, h.tape, h.output, h.size, fun k hk _ _ => h.block k hk⟩
theorem Two.left {w w' : World} {b : Nat × Nat} {o : Obj} (h : Turned w w' b.1 o) : Two w w' b := ⟨h.os, h.tape, h.output, h.size, fun k hk h1 _ => h.block k hk h1⟩
theorem Two.right {w w' : World} {b : Nat × Nat} {o : Obj} (h : Turned w w' b.2 o) : Two w w' b := ⟨h.os, h.tape, h.output, h.size, fun k hk _ h2 => h.block k hk h2⟩
theorem StAt.lt {R : List Int → Value → Prop} {W : World} {s : VSt} {b : Nat × Nat} (h : StAt R W s b) : b.1 < W.heap.size := by
  obtain ⟨fl, _, h2, _⟩ := h
  exact lt_of_block h2
theorem StAt.kept {R : List Int → Value → Prop} {W W' : World} {s : VSt} {b : Nat × Nat} (h : StAt R W s b) (h1 : W'.heap[b.1]? = W.heap[b.1]?) (h2 : W'.heap[b.2]? = W.heap[b.2]?) : StAt R W' s b := by
  obtain ⟨fl, g1, g2, g3, g4⟩ := h
  exact ⟨fl, g1, h1.trans g2, fun hg => by
    obtain ⟨e, c, k1, k2⟩ := g3 hg
    exact ⟨e, c, h2.trans k1, k2⟩, g4⟩
theorem StAt.below {R : List Int → Value → Prop} {W W' : World} {s : VSt} {b : Nat × Nat} (h : StAt R W s b) (hb : Below W.heap.size W W') : StAt R W' s b := by
  obtain ⟨fl, g1, g2, g3, g4⟩ := h
  exact ⟨fl, g1, (hb.block _ (lt_of_block g2)).trans g2, fun hg => by
    obtain ⟨e, c, k1, k2⟩ := g3 hg
    exact ⟨e, c, (hb.block _ (lt_of_block k1)).trans k1, k2⟩, g4⟩
theorem map_ne_cells {W : World} {a b : Nat} {e : Array MapEntry} {c : Nat} {cs : Array Value} {T : TypeId} (h1 : W.heap[a]? = some (.map e c)) (h2 : W.heap[b]? = some (.cells cs T (0, 0))) : b ≠ a := fun q => by
  rw [q, h1] at h2
  cases h2
set_option maxHeartbeats 1000000 in
/-- what an event does to a message -/
theorem act_any (R : List Int → Value → Prop) (hR0 : R [] (.slice none 0 0)) (w : World) (s : VSt) (b : Nat × Nat) (e : api_Event) (ec : Value) (eA : Option Addr) (eN eC : Nat) (hs : StAt R w s b) (hef : R e.Files (.slice eA eN eC)) (hx : inR (e.Author, e.N)) :
    Calls Tryz.prog 38 #[.pointer (some ⟨b.1, 0, none⟩), .agg (evC e.Author e.Seq ec e.Kind e.Group e.Target e.Quote e.Who e.N e.Text (.slice eA eN eC) e.Step)] w fun r w' => r = .returned (.tuple #[]) ∧ StAt R w' (vAct s e) b ∧ Two w w' b := by
  obtain ⟨id, au, gr, pa, qu, wh, tx, fls, ed, gone, re⟩ := s
  obtain ⟨b1, b2⟩ := b
  have hs' := hs
  obtain ⟨fl, g1, g2, g3, g4⟩ := hs'
  dsimp only at g1 g2 g3 g4
  cases hc : (e.Group != gr) || gone
  · rw [Bool.or_eq_false_iff] at hc
    obtain ⟨hg, hgo⟩ := hc
    subst hgo
    obtain ⟨ents, clock, k1, k2, k3⟩ := g3 rfl
    have hv : ∀ s' : VSt, vAct ⟨id, au, gr, pa, qu, wh, tx, fls, ed, false, re⟩ e = s' → StAt R w s' (b1, b2) ∨ True := fun _ _ => Or.inr trivial
    clear hv
    cases h1 : e.Kind == 1
    · cases h2 : e.Kind == 2
      · cases h3 : e.Kind == 3
        · cases h4 : e.Kind == 4
          · refine (act_none w b1 id au gr pa qu wh tx fl ed false (.map (some b2)) e.Author e.Seq ec e.Kind e.Group e.Target e.Quote e.Who e.N e.Text (.slice eA eN eC) e.Step g2 hg rfl (Or.inr ⟨h1, h2, h3, h4⟩)).mono ?_
            rintro r w' ⟨rfl, hb⟩
            refine ⟨rfl, ?_, Two.below hb _⟩
            have : vAct ⟨id, au, gr, pa, qu, wh, tx, fls, ed, false, re⟩ e = ⟨id, au, gr, pa, qu, wh, tx, fls, ed, false, re⟩ := by simp [vAct, hg, h1, h2, h3, h4]
            rw [this]
            exact hs.below hb
          · refine (act_unreact w b1 id au gr pa qu wh tx fl ed false b2 e.Author e.Seq ec e.Kind e.Group e.Target e.Quote e.Who e.N e.Text (.slice eA eN eC) e.Step ents clock re g2 k1 k2 k3 g4 hx hg rfl h1 h2 h3 h4).mono ?_
            rintro r w' ⟨rfl, es', c', hT, q1, q2⟩
            refine ⟨rfl, ?_, Two.right (b := (b1, b2)) hT⟩
            have : vAct ⟨id, au, gr, pa, qu, wh, tx, fls, ed, false, re⟩ e = ⟨id, au, gr, pa, qu, wh, tx, fls, ed, false, re.erase (e.Author, e.N)⟩ := by simp [vAct, hg, h1, h2, h3, h4]
            rw [this]
            exact ⟨fl, g1, (hT.block b1 (lt_of_block g2) (map_ne_cells k1 g2)).trans g2, fun _ => ⟨es', c', hT.at_, q1, q2⟩, fun x hx' => g4 x (List.mem_of_mem_erase hx')⟩
        · refine (act_react w b1 id au gr pa qu wh tx fl ed false b2 e.Author e.Seq ec e.Kind e.Group e.Target e.Quote e.Who e.N e.Text (.slice eA eN eC) e.Step ents clock re g2 k1 k2 k3 g4 hx hg rfl h1 h2 h3).mono ?_
          rintro r w' ⟨rfl, es', c', hT, q1, q2⟩
          refine ⟨rfl, ?_, Two.right (b := (b1, b2)) hT⟩
          have : vAct ⟨id, au, gr, pa, qu, wh, tx, fls, ed, false, re⟩ e = ⟨id, au, gr, pa, qu, wh, tx, fls, ed, false, putP re (e.Author, e.N)⟩ := by simp [vAct, hg, h1, h2, h3]
          rw [this]
          exact ⟨fl, g1, (hT.block b1 (lt_of_block g2) (map_ne_cells k1 g2)).trans g2, fun _ => ⟨es', c', hT.at_, q1, q2⟩, putP_in g4 hx⟩
      · refine (act_delete w b1 id au gr pa qu wh tx fl ed false (.map (some b2)) e.Author e.Seq ec e.Kind e.Group e.Target e.Quote e.Who e.N e.Text (.slice eA eN eC) e.Step g2 hg rfl h1 h2).mono ?_
        rintro r w' ⟨rfl, hT⟩
        refine ⟨rfl, ?_, Two.left (b := (b1, b2)) hT⟩
        have : vAct ⟨id, au, gr, pa, qu, wh, tx, fls, ed, false, re⟩ e = ⟨id, au, gr, pa, qu, wh, ⟨#[]⟩, [], 0, true, []⟩ := by simp [vAct, hg, h1, h2]
        rw [this]
        refine ⟨_, hR0, hT.at_, fun h => ?_, fun x hx' => ?_⟩
        · cases h
        · cases hx'
    · have e2 : (e.Kind == 2) = false := by have := eq_of_beq h1; rw [this]; rfl
      have e3 : (e.Kind == 3) = false := by have := eq_of_beq h1; rw [this]; rfl
      have e4 : (e.Kind == 4) = false := by have := eq_of_beq h1; rw [this]; rfl
      cases ha : e.Author == au
      · refine (act_none w b1 id au gr pa qu wh tx fl ed false (.map (some b2)) e.Author e.Seq ec e.Kind e.Group e.Target e.Quote e.Who e.N e.Text (.slice eA eN eC) e.Step g2 hg rfl (Or.inl ⟨h1, e2, e3, e4, ha⟩)).mono ?_
        rintro r w' ⟨rfl, hb⟩
        refine ⟨rfl, ?_, Two.below hb _⟩
        have : vAct ⟨id, au, gr, pa, qu, wh, tx, fls, ed, false, re⟩ e = ⟨id, au, gr, pa, qu, wh, tx, fls, ed, false, re⟩ := by simp [vAct, hg, h1, ha, e2, e3, e4]
        rw [this]
        exact hs.below hb
      · refine (act_edit w b1 id au gr pa qu wh tx fl ed false (.map (some b2)) e.Author e.Seq ec e.Kind e.Group e.Target e.Quote e.Who e.N e.Text eA eN eC e.Step g2 hg rfl h1 ha).mono ?_
        rintro r w' ⟨rfl, hT⟩
        refine ⟨rfl, ?_, Two.left (b := (b1, b2)) hT⟩
        have : vAct ⟨id, au, gr, pa, qu, wh, tx, fls, ed, false, re⟩ e = ⟨id, au, gr, pa, qu, wh, e.Text, e.Files, RowKit.wrap64 (ed + 1), false, re⟩ := by simp [vAct, hg, h1, ha]
        rw [this]
        exact ⟨_, hef, hT.at_, fun _ => ⟨ents, clock, (hT.block b2 (lt_of_block k1) (Ne.symm (map_ne_cells k1 g2))).trans k1, k2, k3⟩, g4⟩
  · refine (act_skip w b1 id au gr pa qu wh tx fl ed gone (bif gone then .map none else .map (some b2)) e.Author e.Seq ec e.Kind e.Group e.Target e.Quote e.Who e.N e.Text (.slice eA eN eC) e.Step g2 (by
        rw [Bool.or_eq_true] at hc
        cases hg : e.Group != gr
        · rw [hg] at hc
          exact Or.inr ⟨rfl, by simpa using hc⟩
        · exact Or.inl rfl)).mono ?_
    rintro r w' ⟨rfl, hb⟩
    refine ⟨rfl, ?_, Two.below hb _⟩
    have : vAct ⟨id, au, gr, pa, qu, wh, tx, fls, ed, gone, re⟩ e = ⟨id, au, gr, pa, qu, wh, tx, fls, ed, gone, re⟩ := by simp only [vAct, hc, cond_true]
    rw [this]
    exact hs.below hb
/-- the messages so far, in memory -/
structure Inv1 (R : List Int → Value → Prop) (w : World) (sm : Nat) (L : List (VSt × Nat × Nat)) (W : World) : Prop where
  below : Below w.heap.size w W
  map : IMap W sm (L.map fun x => (x.1.id, .pointer (some ⟨x.2.1, 0, none⟩)))
  at_ : ∀ x ∈ L, StAt R W x.1 x.2
  apart : L.Pairwise fun x y => x.2.1 ≠ y.2.1 ∧ x.2.1 ≠ y.2.2 ∧ x.2.2 ≠ y.2.1 ∧ x.2.2 ≠ y.2.2
  ne : ∀ x ∈ L, x.2.1 ≠ sm ∧ x.2.2 ≠ sm
  new : ∀ x ∈ L, w.heap.size ≤ x.2.1 ∧ w.heap.size ≤ x.2.2 ∧ x.2.1 < W.heap.size ∧ x.2.2 < W.heap.size
  smn : w.heap.size ≤ sm
theorem pw_forall {α : Type} {r : α → α → Prop} (hs : ∀ x y, r x y → r y x) : ∀ {l : List α}, l.Pairwise r → ∀ x ∈ l, ∀ y ∈ l, x ≠ y → r x y
  | [], _, x, hx, _, _, _ => by cases hx
  | a :: l, h, x, hx, y, hy, hne => by
    obtain ⟨h1, h2⟩ := List.pairwise_cons.1 h
    rcases List.mem_cons.1 hx with e1 | hx'
    · rcases List.mem_cons.1 hy with e2 | hy'
      · exact absurd (e1.trans e2.symm) hne
      · rw [e1]; exact h1 y hy'
    · rcases List.mem_cons.1 hy with e2 | hy'
      · rw [e2]; exact hs _ _ (h1 x hx')
      · exact pw_forall hs h2 x hx' y hy' hne
section
variable {R : List Int → Value → Prop} {w W W' : World} {sm : Nat} {L : List (VSt × Nat × Nat)}
theorem Inv1.next (h : Inv1 R w sm L W) (hb : Below W.heap.size W W') : Inv1 R w sm L W' :=
  ⟨h.below.trans (hb.mono h.below.size), h.map.of_block (hb.block _ h.map.lt), fun x hx => (h.at_ x hx).below hb, h.apart, h.ne, fun x hx => by
    have := h.new x hx
    have hs := hb.size
    exact ⟨this.1, this.2.1, by omega, by omega⟩, h.smn⟩
theorem Inv1.add (h : Inv1 R w sm L W) {s : VSt} {bx mb : Nat} (hB : ∀ k, k < W.heap.size → k ≠ sm → W'.heap[k]? = W.heap[k]?) (ho : W'.os = W.os) (ht : W'.tape = W.tape) (hu : W'.output = W.output) (hsz : W.heap.size ≤ W'.heap.size)
    (hm : IMap W' sm (L.map (fun x => (x.1.id, Value.pointer (some ⟨x.2.1, 0, none⟩))) ++ [(s.id, .pointer (some ⟨bx, 0, none⟩))])) (hs : StAt R W' s (bx, mb)) (h1 : W.heap.size ≤ bx) (h2 : W.heap.size ≤ mb) (h3 : mb < W'.heap.size) : Inv1 R w sm (L ++ [(s, bx, mb)]) W' := by
  have hl := h.map.lt
  have hws := h.below.size
  have hsn := h.smn
  refine ⟨⟨ho.trans h.below.os, ht.trans h.below.tape, hu.trans h.below.output, by omega, fun k hk => ?_⟩, by rw [List.map_append]; exact hm, fun x hx => ?_, ?_, fun x hx => ?_, fun x hx => ?_, hsn⟩
  · exact (hB k (by omega) (by omega)).trans (h.below.block k hk)
  · rcases List.mem_append.1 hx with hx | hx
    · have hn := h.new x hx
      have hm := h.ne x hx
      exact (h.at_ x hx).kept (hB _ hn.2.2.1 hm.1) (hB _ hn.2.2.2 hm.2)
    · rw [List.mem_singleton.1 hx]; exact hs
  · refine List.pairwise_append.2 ⟨h.apart, List.pairwise_singleton _ _, fun x hx y hy => ?_⟩
    rw [List.mem_singleton.1 hy]
    have hn := h.new x hx
    dsimp only
    refine ⟨?_, ?_, ?_, ?_⟩ <;> omega
  · rcases List.mem_append.1 hx with hx | hx
    · exact h.ne x hx
    · rw [List.mem_singleton.1 hx]; dsimp only; constructor <;> omega
  · rcases List.mem_append.1 hx with hx | hx
    · have hn := h.new x hx
      exact ⟨hn.1, hn.2.1, by omega, by omega⟩
    · rw [List.mem_singleton.1 hx]
      have := hs.lt
      dsimp only at this ⊢
      refine ⟨?_, ?_, ?_, ?_⟩ <;> omega
/-- one message has turned -/
theorem Inv1.turn (h : Inv1 R w sm L W) (hn : (L.map fun x => x.1.id).Nodup) {x : VSt × Nat × Nat} (hx : x ∈ L) {s : VSt} (hid : s.id = x.1.id) (h2 : Two W W' x.2) (hs : StAt R W' s x.2) :
    Inv1 R w sm (L.map fun y => bif y.1.id == x.1.id then (s, y.2) else y) W' := by
  have hl := h.map.lt
  have hws := h.below.size
  have hsn := h.smn
  have hxn := h.new x hx
  have hxm := h.ne x hx
  have hsz := h2.size
  have hsame : ∀ y ∈ L, (y.1.id == x.1.id) = true → y = x := fun y hy he => by
    have he := eq_of_beq he
    obtain ⟨i, hi⟩ := List.getElem?_of_mem hy
    obtain ⟨j, hj⟩ := List.getElem?_of_mem hx
    have g1 : (L.map fun x => x.1.id)[i]? = some x.1.id := by rw [List.getElem?_map, hi]; simp [he]
    have g2 : (L.map fun x => x.1.id)[j]? = some x.1.id := by rw [List.getElem?_map, hj]; rfl
    have hij := (List.getElem?_inj (List.getElem?_eq_some_iff.1 g1).1 hn).1 (g1.trans g2.symm)
    subst hij
    rw [hi] at hj
    injection hj
  have hap := pw_forall (fun (x y : VSt × Nat × Nat) (h : x.2.1 ≠ y.2.1 ∧ x.2.1 ≠ y.2.2 ∧ x.2.2 ≠ y.2.1 ∧ x.2.2 ≠ y.2.2) => ⟨Ne.symm h.1, Ne.symm h.2.2.1, Ne.symm h.2.1, Ne.symm h.2.2.2⟩) h.apart
  have hf2 : ∀ y : VSt × Nat × Nat, (bif y.1.id == x.1.id then (s, y.2) else y).2 = y.2 := fun y => by cases y.1.id == x.1.id <;> rfl
  refine ⟨⟨h2.os.trans h.below.os, h2.tape.trans h.below.tape, h2.output.trans h.below.output, by omega, fun k hk => ?_⟩, ?_, fun y hy => ?_, ?_, fun y hy => ?_, fun y hy => ?_, hsn⟩
  · exact (h2.block k (by omega) (by omega) (by omega)).trans (h.below.block k hk)
  · have e : (L.map fun y => bif y.1.id == x.1.id then (s, y.2) else y).map (fun x => (x.1.id, Value.pointer (some ⟨x.2.1, 0, none⟩))) = L.map fun x => (x.1.id, Value.pointer (some ⟨x.2.1, 0, none⟩)) := by
      rw [List.map_map]
      refine List.map_congr_left fun y _ => ?_
      simp only [Function.comp]
      cases hq : y.1.id == x.1.id
      · rfl
      · simp only [cond_true, hid, eq_of_beq hq]
    rw [e]
    exact h.map.of_block (h2.block sm hl (Ne.symm hxm.1) (Ne.symm hxm.2))
  · obtain ⟨z, hz, rfl⟩ := List.mem_map.1 hy
    cases hq : z.1.id == x.1.id
    · have hne : z ≠ x := fun e => by rw [e] at hq; simp at hq
      have hd := hap z hz x hx hne
      have hzn := h.new z hz
      exact (h.at_ z hz).kept (h2.block _ hzn.2.2.1 hd.1 hd.2.1) (h2.block _ hzn.2.2.2 hd.2.2.1 hd.2.2.2)
    · rw [hsame z hz hq]; exact hs
  · rw [List.pairwise_map]
    exact h.apart.imp fun {a b} q => by rw [hf2, hf2]; exact q
  · obtain ⟨z, hz, rfl⟩ := List.mem_map.1 hy
    rw [hf2]; exact h.ne z hz
  · obtain ⟨z, hz, rfl⟩ := List.mem_map.1 hy
    rw [hf2]
    have := h.new z hz
    exact ⟨this.1, this.2.1, by omega, by omega⟩
end
end Go.Proofs.YtljdbikodogeiaaGreatDoor
namespace Go.Proofs.YtljdbikodogeiaaGreatDoor
open Go.RowKit
def vwB (l : List api_Event) (id : Int) : Bool := decide (0 ≤ id) && (decide (id < (l.length : Int)) && (match l[id.toNat]? with
  | some e => e.Kind == 0
  | none => false))
theorem view_message_eq (l : List api_Event) (id : Int) : view_message l id = some (vwB l id) := by
  unfold view_message vwB
  by_cases h0 : 0 ≤ id
  · by_cases h1 : id < (l.length : Int)
    · have hi : id.toNat < l.length := by omega
      simp only [h0, h1, decide_true, cond_true, Bool.true_and]
      rw [getI_of h0, List.getElem?_eq_getElem hi]
      rfl
    · simp [h0, h1]
  · simp [h0]
def parB (l : List api_Event) (id : Int) (e : api_Event) : Int := bif decide (e.Target < id) && vwB l e.Target then e.Target else -1
theorem view_parent_eq {l : List api_Event} {id : Int} {e : api_Event} (h : getI l id = some e) : view_parent l id = some (parB l id e) := by
  unfold view_parent parB
  rw [bind_some_of h, view_message_eq]
  cases decide (e.Target < id) <;> cases vwB l e.Target <;> rfl
def vPost (l : List api_Event) (i : Nat) (e : api_Event) : VSt := ⟨i, e.Author, e.Group, parB l i e, e.Quote, e.Who, e.Text, e.Files, 0, false, []⟩
def vStep (l : List api_Event) (i : Nat) (e : api_Event) (L : List VSt) : List VSt := bif e.Kind == 0 then L ++ [vPost l i e] else L.map fun s => bif s.id == e.Target then vAct s e else s
/-- the messages after the first i events -/
def vRun (l : List api_Event) : Nat → List VSt
  | 0 => []
  | i + 1 => match l[i]? with
    | some e => vStep l i e (vRun l i)
    | none => vRun l i
theorem vStep_ids {l : List api_Event} {i : Nat} {e : api_Event} {L : List VSt} : (vStep l i e L).map (fun s => s.id) = L.map (fun s => s.id) ++ (bif e.Kind == 0 then [(i : Int)] else []) := by
  unfold vStep
  cases e.Kind == 0
  · simp only [cond_false, List.map_map, List.append_nil]
    refine List.map_congr_left fun s _ => ?_
    simp only [Function.comp]
    cases s.id == e.Target
    · rfl
    · exact vAct_id s e
  · simp [vPost]
theorem vRun_ids (l : List api_Event) : ∀ i, ((vRun l i).map fun s => s.id).Pairwise (· < ·) ∧ ∀ s ∈ vRun l i, 0 ≤ s.id ∧ s.id < (i : Int)
  | 0 => ⟨List.Pairwise.nil, fun s hs => by cases hs⟩
  | i + 1 => by
    obtain ⟨h1, h2⟩ := vRun_ids l i
    unfold vRun
    cases l[i]? with
    | none => exact ⟨h1, fun s hs => by have := h2 s hs; omega⟩
    | some e =>
      dsimp only
      have hm : ∀ k ∈ (vStep l i e (vRun l i)).map (fun s => s.id), 0 ≤ k ∧ k < ((i + 1 : Nat) : Int) := by
        intro k hk
        rw [vStep_ids] at hk
        rcases List.mem_append.1 hk with hk | hk
        · obtain ⟨s, hs, rfl⟩ := List.mem_map.1 hk
          have := h2 s hs
          omega
        · cases hq : e.Kind == 0
          · rw [hq] at hk; cases hk
          · rw [hq] at hk
            rw [List.mem_singleton.1 hk]
            omega
      refine ⟨?_, fun s hs => hm _ (List.mem_map_of_mem hs)⟩
      rw [vStep_ids]
      cases e.Kind == 0
      · simpa using h1
      · refine List.pairwise_append.2 ⟨h1, List.pairwise_singleton _ _, fun a ha b hb => ?_⟩
        rw [List.mem_singleton.1 hb]
        obtain ⟨s, hs, rfl⟩ := List.mem_map.1 ha
        exact (h2 s hs).2
theorem vRun_nodup (l : List api_Event) (i : Nat) : ((vRun l i).map fun s => s.id).Nodup := (vRun_ids l i).1.imp fun h => by omega
theorem vRun_len (l : List api_Event) : ∀ i, (vRun l i).length ≤ i
  | 0 => Nat.le_refl _
  | i + 1 => by
    have h := vRun_len l i
    unfold vRun
    cases l[i]? with
    | none => dsimp only; omega
    | some e =>
      dsimp only
      unfold vStep
      cases e.Kind == 0
      · simp; omega
      · simp; omega
/-- what can be asked of a list of files that came in -/
def RF (A : Nat → Prop) (w : World) (fl : List Int) (v : Value) : Prop := RelD A w (.fz (fl.map (encI .i64))) v
theorem RF.nil (A : Nat → Prop) (w : World) : RF A w [] (.slice none 0 0) := .fz0 none 0 fun _ => rfl
theorem relD_slice {A : Nat → Prop} {w : World} {es : List (List D)} {v : Value} (h : RelD A w (.fz es) v) : ∃ a n c, v = .slice a n c := by
  cases h with
  | fz0 a c _ => exact ⟨_, _, _, rfl⟩
  | fz => exact ⟨_, _, _, rfl⟩
theorem relD_v {A : Nat → Prop} {w : World} {x v : Value} (h : RelD A w (.v x) v) : v = x := by
  cases h
  rfl
theorem ev_slice {A : Nat → Prop} {w : World} {l : List api_Event} {v : Value} (h : RelD A w (.fz (l.map api_Event.enc)) v) : ∃ a c, v = .slice a l.length c ∧ ∀ i, i < l.length → ∃ b o, a = some ⟨b, o, none⟩ := by
  generalize hes : l.map api_Event.enc = es at h
  cases h with
  | fz0 a c _ =>
    have : l = [] := List.map_eq_nil_iff.1 hes
    subst this
    exact ⟨_, _, rfl, fun i hi => absurd hi (by simp)⟩
  | fz _ b o sz c vs hs hb hcap hc hr =>
    have : es.length = l.length := by rw [← hes, List.length_map]
    rw [this]
    exact ⟨_, _, rfl, fun i _ => ⟨b, o, rfl⟩⟩
structure EvRead (A : Nat → Prop) (w W : World) (b p : Nat) (e : api_Event) (cA : Option Addr) (cN cC : Nat) (fA : Option Addr) (fN fC : Nat) : Prop where
  lt : b < w.heap.size
  c0 : W.cell? ⟨b, p, none⟩ = some (.int .i64 e.Author)
  c1 : W.cell? ⟨b, p + 1, none⟩ = some (.int .i64 e.Seq)
  c2 : W.cell? ⟨b, p + 2, none⟩ = some (.slice cA cN cC)
  c3 : W.cell? ⟨b, p + 3, none⟩ = some (.int .i64 e.Kind)
  c4 : W.cell? ⟨b, p + 4, none⟩ = some (.int .i64 e.Group)
  c5 : W.cell? ⟨b, p + 5, none⟩ = some (.int .i64 e.Target)
  c6 : W.cell? ⟨b, p + 6, none⟩ = some (.int .i64 e.Quote)
  c7 : W.cell? ⟨b, p + 7, none⟩ = some (.int .i64 e.Who)
  c8 : W.cell? ⟨b, p + 8, none⟩ = some (.int .i64 e.N)
  c9 : W.cell? ⟨b, p + 9, none⟩ = some (.string e.Text)
  c10 : W.cell? ⟨b, p + 10, none⟩ = some (.slice fA fN fC)
  c11 : W.cell? ⟨b, p + 11, none⟩ = some (.int .i64 e.Step)
  fl : RF A w e.Files (.slice fA fN fC)
theorem vw_at {A : Nat → Prop} {w : World} (hA : ∀ b, A b → b < w.heap.size) {l : List api_Event} {b o n c : Nat} (h : RelD A w (.fz (l.map api_Event.enc)) (.slice (some ⟨b, o, none⟩) n c)) {i : Nat} {e : api_Event} (he : l[i]? = some e) {W : World} (hW : Below w.heap.size w W) :
    ∃ cA cN cC fA fN fC, EvRead A w W b (o + i * 12) e cA cN cC fA fN fC := by
  generalize hes : l.map api_Event.enc = es at h
  have hei : es[i]? = some (api_Event.enc e) := by rw [← hes, List.getElem?_map, he]; rfl
  cases h with
  | fz0 => cases hei
  | fz _ _ _ sz _ vs hs hb hcap hc hr =>
    have hsz : sz = 12 := by rw [← hs _ (List.mem_of_getElem? hei)]; rfl
    subst hsz
    have hil : i < es.length := (List.getElem?_eq_some_iff.1 hei).1
    have hlt := hA b hb
    have cell : ∀ j, j < 12 → W.cell? ⟨b, o + i * 12 + j, none⟩ = some (vs (i * 12 + j)) := fun j hj => by
      rw [hW.cell (p := ⟨b, o + i * 12 + j, none⟩) hlt, Nat.add_assoc]
      exact hc _ (by omega)
    have rel : ∀ j x, (api_Event.enc e)[j]? = some x → RelD A w x (vs (i * 12 + j)) := fun j x hx => hr i j _ x hei hx
    have v : ∀ j x, (api_Event.enc e)[j]? = some (.v x) → j < 12 → W.cell? ⟨b, o + i * 12 + j, none⟩ = some x := fun j x hx hj => by rw [cell j hj, relD_v (rel j _ hx)]
    obtain ⟨fA, fN, fC, hf⟩ := relD_slice (rel 10 _ rfl)
    obtain ⟨cA, cN, cC, hc2⟩ := relD_slice (rel 2 _ rfl)
    refine ⟨cA, cN, cC, fA, fN, fC, hlt, v 0 _ rfl (by omega), v 1 _ rfl (by omega), ?_, v 3 _ rfl (by omega), v 4 _ rfl (by omega), v 5 _ rfl (by omega), v 6 _ rfl (by omega), v 7 _ rfl (by omega), v 8 _ rfl (by omega), v 9 _ rfl (by omega), ?_, v 11 _ rfl (by omega), ?_⟩
    · rw [cell 2 (by omega), hc2]
    · rw [cell 10 (by omega), hf]
    · have := rel 10 _ rfl
      rw [hf] at this
      exact this
theorem relD_below {A : Nat → Prop} {w W : World} (hA : ∀ b, A b → b < w.heap.size) {x : D} {v : Value} (h : RelD A w x v) (hW : Below w.heap.size w W) : RelD A W x v := h.mono (fun _ h => h) fun b hb => hW.block b (hA b hb)
theorem inv_below {w W : World} (hI : Inv w) (h : Below w.heap.size w W) : Inv W := hI.keep fun b hb => h.block b (hI.lt hb)
theorem parent_any {A : Nat → Prop} {W : World} {l : List api_Event} {sl : Value} {i : Nat} {e : api_Event} (hI : Inv W) (hA : ∀ b, A b → b < W.heap.size) (h : RelD A W (.fz (l.map api_Event.enc)) sl) (he : l[i]? = some e) :
    Calls Tryz.prog 37 #[sl, .int .i64 i] W fun r w' => r = .returned (.int .i64 (parB l i e)) ∧ Below W.heap.size W w' := by
  have hp : view_parent l i = some (parB l i e) := view_parent_eq (by rw [getI_nat]; exact he)
  have hf := (view_parent_fn (dr := False) hp).2 W A #[sl, .int .i64 i] hI hA ⟨rfl, fun j c v hc hv => by
    match j, hc, hv with
    | 0, hc, hv =>
      injection hc with hc
      injection hv with hv
      subst hc hv
      exact .d h
    | 1, hc, hv =>
      injection hc with hc
      injection hv with hv
      subst hc hv
      exact .d (.v _ rfl)⟩
  refine hf.mono ?_
  rintro r w' ⟨v, S', bs, rfl, hb, _, hres, _⟩
  obtain ⟨b, _, hr, _⟩ := hres
  rw [relD_v hr]
  exact ⟨rfl, hb.toBelow⟩
end Go.Proofs.YtljdbikodogeiaaGreatDoor
namespace Go.Proofs.YtljdbikodogeiaaGreatDoor
open Go.RowKit
theorem Inv1.start {R : List Int → Value → Prop} (w : World) : Inv1 R w w.heap.size [] (w.alloc (.map #[] 0)) :=
  ⟨(Below.refl _ w).alloc (Nat.le_refl _) _, IMap.empty w, (fun x hx => by cases hx), List.Pairwise.nil, (fun x hx => by cases hx), (fun x hx => by cases hx), Nat.le_refl _⟩
/-- the messages so far, and the event in its box -/
structure PSt (R : List Int → Value → Prop) (w : World) (sm : Nat) (L : List (VSt × Nat × Nat)) (eb : Nat) (e : api_Event) (cA : Option Addr) (cN cC : Nat) (fA : Option Addr) (fN fC : Nat) (W : World) : Prop where
  inv : Inv1 R w sm L W
  ev : W.heap[eb]? = some (.cells #[.int .i64 e.Author, .int .i64 e.Seq, .slice cA cN cC, .int .i64 e.Kind, .int .i64 e.Group, .int .i64 e.Target, .int .i64 e.Quote, .int .i64 e.Who, .int .i64 e.N, .string e.Text, .slice fA fN fC, .int .i64 e.Step] 45 (0, 0))
section
variable {R : List Int → Value → Prop} {w W W' : World} {sm : Nat} {L : List (VSt × Nat × Nat)} {eb : Nat} {e : api_Event} {cA : Option Addr} {cN cC : Nat} {fA : Option Addr} {fN fC : Nat}
theorem PSt.next (h : PSt R w sm L eb e cA cN cC fA fN fC W) (hb : Below W.heap.size W W') : PSt R w sm L eb e cA cN cC fA fN fC W' := ⟨h.inv.next hb, (hb.block _ (lt_of_block h.ev)).trans h.ev⟩
theorem PSt.drew (h : PSt R w sm L eb e cA cN cC fA fN fC W) : PSt R w sm L eb e cA cN cC fA fN fC W.drew := h.next (bd (n := 1) (Below.refl _ _))
theorem PSt.cells (h : PSt R w sm L eb e cA cN cC fA fN fC W) : W.cell? ⟨eb, 0, none⟩ = some (.int .i64 e.Author) ∧ W.cell? ⟨eb, 4, none⟩ = some (.int .i64 e.Group) ∧ W.cell? ⟨eb, 6, none⟩ = some (.int .i64 e.Quote) ∧ W.cell? ⟨eb, 7, none⟩ = some (.int .i64 e.Who) ∧ W.cell? ⟨eb, 9, none⟩ = some (.string e.Text) ∧ W.cell? ⟨eb, 10, none⟩ = some (.slice fA fN fC) := by
  refine ⟨?_, ?_, ?_, ?_, ?_, ?_⟩ <;> (rw [cell_of_row _ _ _ _ _ _ h.ev]; rfl)
theorem PSt.arg {A : Nat → Prop} (h : PSt R w sm L eb e cA cN cC fA fN fC W) (hA : ∀ b, A b → b < w.heap.size) : ∀ b, A b → b < W.heap.size := fun b hb => Nat.lt_of_lt_of_le (hA b hb) h.inv.below.size
theorem PSt.rel {A : Nat → Prop} (h : PSt R w sm L eb e cA cN cC fA fN fC W) (hA : ∀ b, A b → b < w.heap.size) {x : D} {v : Value} (hr : RelD A w x v) : RelD A W x v := relD_below hA hr h.inv.below
end
theorem turn_same {L : List (VSt × Nat × Nat)} (hn : (L.map fun x => x.1.id).Nodup) {x y : VSt × Nat × Nat} (hx : x ∈ L) (hy : y ∈ L) (he : y.1.id = x.1.id) : y = x := by
  obtain ⟨i, hi⟩ := List.getElem?_of_mem hy
  obtain ⟨j, hj⟩ := List.getElem?_of_mem hx
  have g1 : (L.map fun x => x.1.id)[i]? = some x.1.id := by rw [List.getElem?_map, hi]; simp [he]
  have g2 : (L.map fun x => x.1.id)[j]? = some x.1.id := by rw [List.getElem?_map, hj]; rfl
  have hij := (List.getElem?_inj (List.getElem?_eq_some_iff.1 g1).1 hn).1 (g1.trans g2.symm)
  subst hij
  rw [hi] at hj
  injection hj
/-- a new message is put into the map -/
theorem post_put {R : List Int → Value → Prop} {w W Wx : World} {sm : Nat} {L : List (VSt × Nat × Nat)} {eb : Nat} {e : api_Event} {cA : Option Addr} {cN cC : Nat} {fA : Option Addr} {fN fC : Nat} {l : List api_Event} {i mb bx : Nat}
    (h : PSt R w sm L eb e cA cN cC fA fN fC W) (hf : R e.Files (.slice fA fN fC)) (hn : (i : Int) ∉ L.map fun x => x.1.id) (hb : Below W.heap.size W Wx) (hm : Wx.heap[mb]? = some (.map #[] 0)) (hbx : Wx.heap[bx]? = some (.cells #[.int .i64 i, .int .i64 e.Author, .int .i64 e.Group, .int .i64 (parB l i e), .int .i64 e.Quote, .int .i64 e.Who, .string e.Text, .slice fA fN fC, .int .i64 0, .slice none 0 0, .bool false, .map (some mb)] 82 (0, 0)))
    (h1 : W.heap.size ≤ mb) (h2 : W.heap.size ≤ bx) :
    ∃ W', (Instr.mapUpdate 78 (.map (some sm)) (.int .i64 i) (.pointer (some ⟨bx, 0, none⟩))).run Tryz.prog Wx = .ok () W' ∧ PSt R w sm (L ++ [(vPost l i e, bx, mb)]) eb e cA cN cC fA fN fC W' := by
  have hx := h.next hb
  have hsl := h.inv.map.lt
  obtain ⟨W', hr, him, hbl, hsz, ho, ht, hu, _⟩ := hx.inv.map.put_new Tryz.underlying78 Tryz.underlying3 (k := i) (by rw [List.map_map]; exact hn) (.pointer (some ⟨bx, 0, none⟩))
  have hms : mb ≠ sm := by omega
  have hbs : bx ≠ sm := by omega
  have hes : eb ≠ sm := fun q => by
    obtain ⟨en, c, hmm, _⟩ := h.inv.map
    rw [← q, h.ev] at hmm
    cases hmm
  have hml := lt_of_block hm
  have hbs2 := hb.size
  refine ⟨W', hr, ⟨?_, (hbl eb hes).trans hx.ev⟩⟩
  refine h.inv.add (W' := W') (s := vPost l i e) (fun k hk hks => (hbl k hks).trans (hb.block k hk)) (ho.trans hb.os) (ht.trans hb.tape) (hu.trans hb.output) (by omega) him ?_ h2 h1 (by omega)
  exact ⟨_, hf, (hbl bx hbs).trans hbx, fun _ => ⟨#[], 0, (hbl mb hms).trans hm, MapKept.stamped_empty 0, rfl⟩, fun x hx => by cases hx⟩
end Go.Proofs.YtljdbikodogeiaaGreatDoor
namespace Go.Proofs.YtljdbikodogeiaaGreatDoor
open Go.RowKit Go.Sort Go.Shelf
def cmpI (x y : Int) : Int := if x < y then -1 else if y < x then 1 else 0
theorem cmp_Compare_eq (x y : Int) : cmp_Compare_int x y = some (cmpI x y) := by
  unfold cmp_Compare_int cmp_isNaN_int cmpI
  have h1 : ∀ z : Int, (z != z) = false := fun z => by simp
  simp only [h1, Option.bind_some, cond_false]
  by_cases h : x < y
  · simp [h]
  · by_cases h' : y < x
    · simp [h, h']
    · simp [h, h']
theorem cmp_Or_eq (a b : Int) : cmp_Or_int [a, b] = some (if a ≠ 0 then a else b) := by
  have step : ∀ i : Nat, ∀ x, [a, b][i]? = some x → cmp_Or_int_L1 [a, b] (i : Int) = bif x != 0 then some (.inr (.inr x)) else some (.inl ((i : Int) + 1)) := by
    intro i x hx
    have hi : i < 2 := (List.getElem?_eq_some_iff.1 hx).1
    have hlt : ((i : Int) < ((([a, b] : List Int).length : Nat) : Int)) := by simp only [List.length_cons, List.length_nil]; omega
    unfold cmp_Or_int_L1
    simp only [hlt, decide_true, cond_true]
    rw [bind_some_of (show getI [a, b] (i : Int) = some x by rw [getI_nat]; exact hx), wrap64 (n := (i : Int) + 1) (by omega) (by omega)]
  have s0 := step 0 a rfl
  have s1 := step 1 b rfl
  have s2 : cmp_Or_int_L1 [a, b] 2 = some (.inr (.inl ())) := by
    unfold cmp_Or_int_L1
    rfl
  unfold cmp_Or_int
  by_cases ha : a = 0
  · subst ha
    rw [loopF_next (s' := 1) (by simpa using s0)]
    by_cases hb : b = 0
    · subst hb
      rw [loopF_next (s' := 2) (by simpa using s1), loopF_stop s2]
      rfl
    · have : (b != 0) = true := by simpa using hb
      rw [loopF_stop (b := .inr b) (by simpa [this] using s1)]
      simp [seqF]
  · have : (a != 0) = true := by simpa using ha
    rw [loopF_stop (b := .inr a) (by simpa [this] using s0)]
    simp [seqF, ha]
def leP (x y : Pr) : Bool := decide (x.1 < y.1) || (decide (x.1 = y.1) && decide (x.2 ≤ y.2))
theorem leP_iff {x y : Pr} : leP x y = true ↔ x.1 < y.1 ∨ x.1 = y.1 ∧ x.2 ≤ y.2 := by simp [leP]
theorem leP_not {x y : Pr} : leP x y = false ↔ ¬ (x.1 < y.1 ∨ x.1 = y.1 ∧ x.2 ≤ y.2) := by rw [← leP_iff]; simp
def sortP (l : List Pr) : List Pr := l.mergeSort leP
theorem sortP_perm (l : List Pr) : (sortP l).Perm l := List.mergeSort_perm _ _
theorem sortP_pw (l : List Pr) : (sortP l).Pairwise fun x y => leP x y = true := List.pairwise_mergeSort (le := leP) (fun a b c h1 h2 => by rw [leP_iff] at *; omega) (fun a b => by
  rw [Bool.or_eq_true, leP_iff, leP_iff]; omega) l
def toA (x : Pr) : Arr2_Int := ⟨x.1, x.2⟩
def ofA (x : Arr2_Int) : Pr := (x.a0, x.a1)
def cmpP (x y : Arr2_Int) : Int := if cmpI x.a0 y.a0 ≠ 0 then cmpI x.a0 y.a0 else cmpI x.a1 y.a1
theorem view_cmp (x y : Arr2_Int) : view_View_1 x y = some (cmpP x y) := by
  unfold view_View_1
  rw [cmp_Compare_eq, cmp_Compare_eq, bind_some_of rfl, bind_some_of rfl, cmp_Or_eq]
  rfl
theorem ltOf_cmpP (x y : Arr2_Int) : ltOf cmpP x y = !leP (ofA y) (ofA x) := by
  have h1 : ∀ a b : Int, cmpI a b < 0 ↔ a < b := fun a b => by
    unfold cmpI
    split
    · simp [*]
    · split <;> simp <;> omega
  have h2 : ∀ a b : Int, cmpI a b = 0 ↔ a = b := fun a b => by
    unfold cmpI
    split
    · simp; omega
    · split <;> simp <;> omega
  have h3 : cmpP x y < 0 ↔ ¬ (y.a0 < x.a0 ∨ y.a0 = x.a0 ∧ y.a1 ≤ x.a1) := by
    unfold cmpP
    by_cases h : cmpI x.a0 y.a0 = 0
    · rw [if_neg (by simpa using h), h1]
      have := (h2 _ _).1 h
      omega
    · rw [if_pos h, h1]
      have : ¬ x.a0 = y.a0 := fun e => h ((h2 _ _).2 e)
      omega
  have h4 : (!leP (ofA y) (ofA x)) = true ↔ ¬ (y.a0 < x.a0 ∨ y.a0 = x.a0 ∧ y.a1 ≤ x.a1) := by
    rw [Bool.not_eq_true', leP_not]
    rfl
  have h5 : ltOf cmpP x y = true ↔ cmpP x y < 0 := by simp [ltOf]
  rw [Bool.eq_iff_iff, h5, h4, h3]
theorem sort_reacts {l ss : List Pr} (hp : ss.Perm l) (hl : l.length ≤ 1000000) : sortF view_View_1 (ss.map toA) = some ((sortP l).map toA) := by
  have hok : SortOk view_View_1 (ss.map toA) cmpP := by
    refine ⟨view_cmp, ⟨fun x => ?_, fun x y z h1 h2 => ?_, fun x y z h1 h2 => ?_⟩, fun x _ y _ h1 h2 => ?_, ?_⟩
    · rw [ltOf_cmpP]; simp [leP]
    · simp only [ltOf_cmpP, Bool.not_eq_true', leP_not] at *; omega
    · simp only [ltOf_cmpP, Bool.not_eq_false', leP_iff] at *; omega
    · simp only [ltOf_cmpP, Bool.not_eq_false', leP_iff] at *
      cases x; cases y
      simp only [ofA] at *
      congr 1 <;> omega
    · have := hp.length_eq
      simp; omega
  rw [sortF_eq hok]
  congr 1
  refine List.Perm.eq_of_pairwise (le := fun x y => leP (ofA x) (ofA y) = true) (fun a b _ _ h1 h2 => ?_) ?_ ?_ ?_
  · rw [leP_iff] at *
    cases a; cases b
    simp only [ofA] at *
    congr 1 <;> omega
  · have := List.pairwise_mergeSort (le := fun x y => !ltOf cmpP y x) (fun a b c h1 h2 => by
      simp only [ltOf_cmpP, Bool.not_not, leP_iff] at *; omega) (fun a b => by simp only [ltOf_cmpP, Bool.not_not, Bool.or_eq_true, leP_iff]; omega) (ss.map toA)
    refine this.imp fun h => ?_
    simpa [ltOf_cmpP] using h
  · rw [List.pairwise_map]
    exact sortP_pw l
  · exact (List.mergeSort_perm _ _).trans ((hp.trans (sortP_perm l).symm).map toA)
theorem vkeys_fn : FnKeys Tryz.prog 40 (.fn 68 []) := keys_fnk Tryz.keys40 Tryz.call40
theorem vsorted_fn {ks rs : List Int} (h : sortedK ks = some rs) : FnSKeys False Tryz.prog 39 68 (ks.map fun k => [.v (.int .i64 k)]) (.ow 1 (rs.map fun k => [.v (.int .i64 k)])) :=
  skeys_fnk Tryz.keys40 Tryz.sorted39 ⟨fun blk off cap ss W hH hblk hsz => callsIn_wide.2 (AnyM.slices_Sort_int Tryz.sortK blk off cap ss W hH hblk hsz), fun p cap W => callsIn_wide.2 (AnyM.slices_Sort_int_none Tryz.sortK p cap W)⟩ Tryz.call39 Tryz.call67 Tryz.call68 h
theorem vsort_fn {dr : Prop} {c : Arr2_Int → Arr2_Int → Option Int} {cF : FuncId} {cC : List AV} (cH : cC.all capd = true) (cP : ∀ (q0 q1 : Arr2_Int) (z : Int), c q0 q1 = some z → Fn True Tryz.prog cF ([.agg (Arr2_Int.av q0), .agg (Arr2_Int.av q1)] ++ cC) (.d (.v (.int .i64 z)))) {l r : List Arr2_Int} (h : sortF c l = some r) : FnW dr Tryz.prog 70 2 (List.map Arr2_Int.enc l) [.fn cF cC] (.ow 2 (List.map Arr2_Int.enc r)) :=
  sortF_fnw Arr2_Int.enc (fun _ => rfl) (by decide) Tryz.call70 (fun α _ enc hk h1 cf hO g cb blk off cap d w eg hcmp hH hblk hsz => AnyQ.slices_SortFunc Tryz.sort70 2 Tryz.isAgg91 Tryz.sizeOf91 enc hk h1 cf hO g cb blk off cap d w eg hcmp hH hblk hsz) (fun p cap fv w => AnyF.slices_SortFunc_none Tryz.sort70 p cap fv w) cH cP h
theorem enc_toA (l : List Pr) : (l.map fun x => ([.v (.int .i64 x.1), .v (.int .i64 x.2)] : List D)) = (l.map toA).map Arr2_Int.enc := by
  rw [List.map_map]
  rfl
theorem ownAt_plain {S T : Nat → Prop} {w : World} {sz : Nat} {es : List (List D)} {v : Value} {b : Option Nat} (hp : ∀ e ∈ es, ∀ d ∈ e, ∃ x : Value, d = .v x) (h : OwnAt S w sz es v b) : OwnAt T w sz es v b := by
  obtain ⟨h1, h2⟩ := h
  refine ⟨h1, ?_⟩
  rcases h2 with h2 | ⟨g, ty, cur, cap, e1, e2, e3, e4, e5, e6, e7⟩
  · exact Or.inl h2
  · refine Or.inr ⟨g, ty, cur, cap, e1, e2, e3, e4, e5, e6, fun i j e x he hx => ?_⟩
    obtain ⟨y, hy, hr⟩ := e7 i j e x he hx
    obtain ⟨z, rfl⟩ := hp e (List.mem_of_getElem? he) x (List.mem_of_getElem? hx)
    exact ⟨y, hy, by cases hr; exact .v _ ‹_›⟩
theorem below_x {w w1 w2 : World} {b : Option Nat} (h1 : Below w.heap.size w w1) (h2 : BelowX False b w1 w2) (hb : ∀ c, b = some c → w.heap.size ≤ c ∧ c < w1.heap.size) : Below w.heap.size w w2 :=
  ⟨h2.os.trans h1.os, h2.tape.trans h1.tape, h2.output.trans h1.output, Nat.le_trans h1.size h2.size, fun k hk => (h2.block k (Nat.lt_of_lt_of_le hk h1.size) (fun e => by have := (hb k e).1; omega)).trans (h1.block k hk)⟩
set_option maxRecDepth 100000 in
set_option maxHeartbeats 2000000 in
/-- slices.SortedFunc at the reactions of a message -/
theorem vsortedf_own (l : List Pr) (hl : l.length ≤ 1000000) (hr : ∀ x ∈ l, inR x) (w : World) (hI : Inv w) (bb mb : Nat) (ents : Array MapEntry) (clock : Nat) (hbb : bb < w.heap.size) (hcell : w.cell? ⟨bb, 0, none⟩ = some (.map (some mb)))
    (hmb : w.heap[mb]? = some (.map ents clock)) (hst : MapKept.Stamped ents clock) (hk : KeysAre ents l) :
    Calls Tryz.prog 42 #[.func (.func 71) #[] #[.pointer (some ⟨bb, 0, none⟩)], .func (.func 44) #[] #[]] w fun e w' => ∃ v b, e = .returned v ∧ OwnAt (fun _ => False) w' 2 ((sortP l).map toA |>.map Arr2_Int.enc) v b ∧ Below w.heap.size w w' ∧ ∀ c, b = some c → w.heap.size ≤ c ∧ c < w'.heap.size := by
  have HC := Lib.hid (collect_keys l hl hr w bb mb ents clock hbb hcell hmb hst hk)
  have HI := Lib.hid hI
  clear hr hbb hcell hmb hst hk hI
  have HL := Lib.hid hl
  clear hl
  go_enter Tryz.func42, Tryz.ntmps42
  go_wp2_with (go_at_call 69; refine HC.out.mono ?_; rintro e w1 ⟨v, ss, b, rfl, hp, hb1, how, hb⟩)
  refine ((vsort_fn (dr := False) (c := view_View_1) (cF := 44) (cC := []) rfl (fun q0 q1 z h => view_View_1_fn h) (sort_reacts hp HL.out)).2 w1 (fun _ => False) (fun _ => False) v b #[.func (.func 44) #[] #[]] (inv_below HI.out hb1) (fun c hc hT => by have := HI.out.lt hT; have := (hb c hc).1; omega) (fun _ h => h.elim) (fun _ h => h) (by rw [← enc_toA]; exact how) (fun c hc => ⟨(hb c hc).2, fun h => h⟩) ⟨rfl, fun j c v hc hv => by
    match j, hc, hv with
    | 0, hc, hv =>
      injection hc with hc
      injection hv with hv
      subst hc hv
      exact .fn rfl fun j c v h => by simp at h⟩).mono ?_
  rintro e w2 ⟨v2, rfl, hx, hres⟩
  obtain ⟨rfl, S', hS', how2, _⟩ := hres
  have HX := Lib.hid hx
  have HO := Lib.hid how2
  have HB1 := Lib.hid hb1
  have HB := Lib.hid hb
  clear hx hS' how2 hb1 hb how hp
  go_wp2_with fail
  go_ret
  refine ⟨v, b, rfl, ownAt_plain (fun e he d hd => ?_) HO.out, below_x HB1.out HX.out HB.out, fun c hc => ⟨(HB.out c hc).1, Nat.lt_of_lt_of_le (HB.out c hc).2 HX.out.size⟩⟩
  obtain ⟨x, _, rfl⟩ := List.mem_map.1 he
  simp only [Arr2_Int.enc, List.mem_cons, List.not_mem_nil, or_false] at hd
  rcases hd with rfl | rfl <;> exact ⟨_, rfl⟩
set_option maxRecDepth 100000 in
set_option maxHeartbeats 2000000 in
/-- slices.SortedFunc at no map -/
theorem vsortedf_nil (w : World) (bb : Nat) (hbb : bb < w.heap.size) (hcell : w.cell? ⟨bb, 0, none⟩ = some (.map none)) :
    Calls Tryz.prog 42 #[.func (.func 71) #[] #[.pointer (some ⟨bb, 0, none⟩)], .func (.func 44) #[] #[]] w fun e w' => e = .returned (.slice none 0 0) ∧ Below w.heap.size w w' := by
  have HC := Lib.hid (collect_nil w bb hbb hcell)
  clear hbb hcell
  go_enter Tryz.func42, Tryz.ntmps42
  go_wp2_with (go_at_call 69; refine HC.out.mono ?_; rintro e w1 ⟨rfl, hb1⟩)
  refine (AnyF.slices_SortFunc_none Tryz.sort70 none 0 _ w1).mono ?_
  rintro e w2 ⟨rfl, rfl⟩
  have HB1 := Lib.hid hb1
  clear hb1
  go_wp2_with fail
  go_ret
  exact ⟨rfl, HB1.out⟩
end Go.Proofs.YtljdbikodogeiaaGreatDoor
namespace Go.Proofs.YtljdbikodogeiaaGreatDoor
open Go.RowKit
/-- a row of values of the call's own -/
def VRow (W : World) (ty sz : Nat) (v : Value) (xs : List (List Value)) (b : Option Nat) : Prop :=
  (∀ x ∈ xs, x.length = sz) ∧ ((b = none ∧ xs = [] ∧ v = .slice none 0 0) ∨ ∃ g cap cur, b = some g ∧ v = .slice (some ⟨g, 0, none⟩) xs.length cap ∧ W.heap[g]? = some (.cells cur ty (0, 0)) ∧ xs.length ≤ cap ∧ cap ≤ maxLen ∧ cur.size = cap * sz ∧ cur.toList.take (xs.length * sz) = xs.flatten)
theorem VRow.kept {W W' : World} {ty sz : Nat} {v : Value} {xs : List (List Value)} {b : Option Nat} (h : VRow W ty sz v xs b) (hb : ∀ g, b = some g → W'.heap[g]? = W.heap[g]?) : VRow W' ty sz v xs b := by
  obtain ⟨h1, h2⟩ := h
  refine ⟨h1, ?_⟩
  rcases h2 with h2 | ⟨g, cap, cur, e1, e2, e3, e4⟩
  · exact Or.inl h2
  · exact Or.inr ⟨g, cap, cur, e1, e2, (hb g e1).trans e3, e4⟩
theorem flat_len' {sz : Nat} : ∀ {xs : List (List Value)}, (∀ x ∈ xs, x.length = sz) → xs.flatten.length = xs.length * sz
  | [], _ => by simp
  | x :: xs, h => by
    rw [List.flatten_cons, List.length_append, h x (.head _), flat_len' fun y hy => h y (.tail _ hy), List.length_cons, Nat.add_mul]
    omega
/-- one element more -/
theorem vrow_append {P : Program} {W : World} {t e sz : Nat} {it : TypeInfo} {z : Value} (hu : P.underlying t = some (.slice e)) (hi : P.info? e = some it) (hz : it.zero = some z) (hsz : it.size = sz) (hzs : z.cells.size = sz) (hby : it.bytes ≤ 1000) (hpos : 0 < sz) {v : Value} {xs : List (List Value)} {b : Option Nat}
    (h : VRow W e sz v xs b) (hn : xs.length ≤ 1000) {ad : Addr} {c : Nat} {x : List Value} (hx : x.length = sz) (hx1 : ∀ u ∈ x, u.oneCell' = true) (hc : ∀ (j : Nat) (u : Value), x[j]? = some u → W.cell? (ad.add j) = some u) :
    ∃ v' W' b', (∀ ty, (Builtin.append_ #[t, t] ty #[v, .slice (some ad) 1 c]).run P W = .ok v' W') ∧ VRow W' e sz v' (xs ++ [x]) b' ∧ W'.os = W.os ∧ W'.tape = W.tape ∧ W'.output = W.output ∧ W.heap.size ≤ W'.heap.size ∧
      (∀ k, k < W.heap.size → b ≠ some k → W'.heap[k]? = W.heap[k]?) ∧ ∃ g, b' = some g ∧ (b = some g ∨ g = W.heap.size) ∧ ∃ C, v' = .slice (some ⟨g, 0, none⟩) (xs.length + 1) C := by
  subst hsz
  obtain ⟨h1, h2⟩ := h
  have hfl := flat_len' h1
  have h1' : ∀ y ∈ xs ++ [x], y.length = it.size := fun y hy => by
    rcases List.mem_append.1 hy with hy | hy
    · exact h1 y hy
    · rw [List.mem_singleton.1 hy, hx]
  have grow : ∀ (base : Option Addr) (cap : Nat), (base = none → xs.length = 0 ∧ cap = 0) → (∀ a, base = some a → ∀ (j : Nat) (u : Value), xs.flatten[j]? = some u → W.cell? (a.add j) = some u) → cap < xs.length + 1 → v = .slice base xs.length cap → b = none ∨ (∃ g, b = some g) →
      ∃ v' W' b', (∀ ty, (Builtin.append_ #[t, t] ty #[v, .slice (some ad) 1 c]).run P W = .ok v' W') ∧ VRow W' e it.size v' (xs ++ [x]) b' ∧ W'.os = W.os ∧ W'.tape = W.tape ∧ W'.output = W.output ∧ W.heap.size ≤ W'.heap.size ∧
        (∀ k, k < W.heap.size → b ≠ some k → W'.heap[k]? = W.heap[k]?) ∧ ∃ g, b' = some g ∧ (b = some g ∨ g = W.heap.size) ∧ ∃ C, v' = .slice (some ⟨g, 0, none⟩) (xs.length + 1) C := by
    intro base cap hb0 hold hg hv _
    subst hv
    have hge := grownCap_ge W (xs.length + 1) cap e
    refine ⟨_, _, some W.heap.size, fun ty => run_app_grow (P := P) W hu hi hz (olds := xs.flatten) hfl hb0 hold (ad := ad) (k := 1) (c := c) (news := x) (by rw [hx, Nat.one_mul]) hc hg (by omega) (Nat.le_trans (Nat.mul_le_mul (show xs.length + 1 ≤ 1001 by omega) hby) (by decide)) (by omega), ⟨h1', Or.inr ⟨W.heap.size, _, _, rfl, by rw [List.length_append]; rfl, heap_alloc_new W.drew _, by rw [List.length_append]; exact hge, grownCap_le_maxLen W (xs.length + 1) cap e (by simp only [maxLen]; omega), ?_, ?_⟩⟩, rfl, rfl, rfl, by simp, fun k hk _ => Below.heap_alloc W.drew _ k hk, W.heap.size, rfl, Or.inr rfl, _, rfl⟩
    · simp only [Array.size_append, List.size_toArray, size_zeroCells, hfl, hx, hzs]
      obtain ⟨q, hq⟩ : ∃ q, grownCap W (xs.length + 1) cap e = (xs.length + 1) + q := ⟨_, (Nat.add_sub_cancel' hge).symm⟩
      rw [hq, Nat.add_sub_cancel_left, Nat.add_mul, Nat.add_mul, Nat.one_mul]
    · simp only [Array.toList_append, List.append_assoc]
      rw [List.flatten_append, ← List.append_assoc, List.flatten_cons, List.flatten_nil, List.append_nil]
      refine List.take_left' ?_
      rw [List.length_append, hfl, hx, List.length_append, Nat.add_mul]
      simp
  rcases h2 with ⟨rfl, rfl, rfl⟩ | ⟨g, cap, cur, rfl, rfl, hg, hc1, hc2, hcs, ht⟩
  · exact grow none 0 (fun _ => ⟨rfl, rfl⟩) (fun a ha => by cases ha) (by simp) rfl (Or.inl rfl)
  · have hold : ∀ (j : Nat) (u : Value), xs.flatten[j]? = some u → W.cell? ((⟨g, 0, none⟩ : Addr).add j) = some u := fun j u hj => by
      rw [add_eq, Nat.zero_add, cell_of_row _ _ _ cur e (0, 0) hg]
      have hjl := (List.getElem?_eq_some_iff.1 hj).1
      rw [hfl] at hjl
      rw [← ht, List.getElem?_take_of_lt hjl] at hj
      simpa using hj
    by_cases hroom : xs.length + 1 ≤ cap
    · have hfit : xs.length * it.size + x.length ≤ cur.size := by
        rw [hx, hcs]
        have := Nat.mul_le_mul_right it.size hroom
        rw [Nat.add_mul] at this
        omega
      have hs := setRow_heap W g cur (over cur.toList (xs.length * it.size) x).toArray e (0, 0) hg
      refine ⟨_, _, some g, fun ty => run_app_room (P := P) W hu hi hg (news := x) (k := 1) (by rw [hx, Nat.one_mul]) hc hx1 hroom hfit, ⟨h1', Or.inr ⟨g, cap, _, rfl, by rw [List.length_append]; rfl, hs, by rw [List.length_append]; exact hroom, hc2, ?_, ?_⟩⟩, rfl, rfl, rfl, (grown_setRow W g _).size, fun k _ hk => (grown_setRow W g _).block k ‹_› (fun e => hk e.symm), g, rfl, Or.inl rfl, _, rfl⟩
      · unfold over
        simp only [List.size_toArray, List.length_append, List.length_take, List.length_drop, Array.length_toList]
        omega
      · unfold over
        rw [List.flatten_append, List.length_append, Nat.add_mul, ht]
        simp only [List.flatten_cons, List.flatten_nil, List.append_nil, List.length_cons, List.length_nil]
        refine List.take_left' ?_
        rw [List.length_append, hfl, hx]
        omega
    · refine grow _ cap (fun h => by cases h) (fun a ha => by injection ha with ha; subst ha; exact hold) (by omega) rfl (Or.inr ⟨g, rfl⟩)
end Go.Proofs.YtljdbikodogeiaaGreatDoor
namespace Go.Proofs.YtljdbikodogeiaaGreatDoor
open Go.RowKit
def vOut (s : VSt) : api_Msg := ⟨s.id, s.au, s.gr, s.pa, s.qu, s.wh, s.tx, s.fl, s.ed, bif s.gone then [] else (sortP s.re).map toA, s.gone⟩
structure Cst (w : World) (sm B2 : Nat) (L : List (VSt × Nat × Nat)) (ib : Option Nat) : Prop where
  apart : L.Pairwise fun x y => x.2.1 ≠ y.2.1 ∧ x.2.1 ≠ y.2.2 ∧ x.2.2 ≠ y.2.1 ∧ x.2.2 ≠ y.2.2
  at_ : ∀ x ∈ L, x.2.1 ≠ sm ∧ x.2.2 ≠ sm ∧ w.heap.size ≤ x.2.1 ∧ w.heap.size ≤ x.2.2 ∧ x.2.1 < B2 ∧ x.2.2 < B2
  sm : w.heap.size ≤ sm ∧ sm < B2
  ib : ∀ g, ib = some g → w.heap.size ≤ g ∧ g < B2 ∧ ∀ x ∈ L, x.2.1 ≠ g
  le : w.heap.size ≤ B2
  nodup : (L.map fun x => x.1.id).Nodup
structure Inv2 (A : Nat → Prop) (w : World) (sm B2 : Nat) (L : List (VSt × Nat × Nat)) (iv : Value) (ib : Option Nat) (ob : Option Nat) (Dn : List Nat) (xs : List (List Value)) (j : Nat) (ov : Value) (W : World) : Prop where
  below : Below w.heap.size w W
  map : IMap W sm (L.map fun x => (x.1.id, .pointer (some ⟨x.2.1, 0, none⟩)))
  ids : OwnAt (fun _ => False) W 1 ((L.map fun x => x.1.id).map (encI .i64)) iv ib
  at_ : ∀ x ∈ L.drop j, StAt (RF A w) W x.1 x.2
  row : VRow W 43 11 ov xs ob
  len : xs.length = j
  rel : ∀ (i : Nat) (y : VSt × Nat × Nat) (c : List Value), L[i]? = some y → xs[i]? = some c → ∀ (q : Nat) (d : D) (v : Value), (api_Msg.enc (vOut y.1))[q]? = some d → c[q]? = some v → RelD (fun b => A b ∨ b ∈ Dn) W d v
  ob : ∀ g, ob = some g → B2 ≤ g ∧ g < W.heap.size ∧ g ∉ Dn
  dn : ∀ d ∈ Dn, B2 ≤ d ∧ d < W.heap.size
  size : B2 ≤ W.heap.size
theorem ownAt_kept {S : Nat → Prop} {w w' : World} {sz : Nat} {es : List (List D)} {v : Value} {b : Option Nat} (h : OwnAt S w sz es v b) (hS : ∀ c, S c → w'.heap[c]? = w.heap[c]?) (hb : ∀ g, b = some g → w'.heap[g]? = w.heap[g]?) : OwnAt S w' sz es v b := by
  obtain ⟨h1, h2⟩ := h
  refine ⟨h1, ?_⟩
  rcases h2 with h2 | ⟨g, ty, cur, cap, e1, e2, e3, e4, e5, e6, e7⟩
  · exact Or.inl h2
  · refine Or.inr ⟨g, ty, cur, cap, e1, e2, (hb g e1).trans e3, e4, e5, e6, fun i j e x he hx => ?_⟩
    obtain ⟨y, hy, hr⟩ := e7 i j e x he hx
    exact ⟨y, hy, hr.mono (fun _ h => h) hS⟩
theorem flat_at {sz : Nat} : ∀ {xs : List (List Value)}, (∀ x ∈ xs, x.length = sz) → ∀ (i q : Nat) (c : List Value), xs[i]? = some c → q < sz → xs.flatten[i * sz + q]? = c[q]?
  | [], _, i, q, c, h, _ => by cases h
  | x :: xs, hs, 0, q, c, h, hq => by
    injection h with h
    subst h
    rw [List.flatten_cons, Nat.zero_mul, Nat.zero_add, List.getElem?_append_left (by rw [hs x (.head _)]; exact hq)]
  | x :: xs, hs, i + 1, q, c, h, hq => by
    have hx := hs x (.head _)
    rw [List.flatten_cons, List.getElem?_append_right (by rw [hx, Nat.add_mul]; omega), hx, show (i + 1) * sz + q - sz = i * sz + q by rw [Nat.add_mul]; omega]
    exact flat_at (fun y hy => hs y (.tail _ hy)) i q c h hq
theorem VRow.own {S : Nat → Prop} {W : World} {ty sz : Nat} {v : Value} {xs : List (List Value)} {b : Option Nat} (h : VRow W ty sz v xs b) {es : List (List D)} (hl : es.length = xs.length) (hs : ∀ e ∈ es, e.length = sz)
    (hr : ∀ (i : Nat) (e : List D) (c : List Value), es[i]? = some e → xs[i]? = some c → ∀ (q : Nat) (d : D) (u : Value), e[q]? = some d → c[q]? = some u → RelD S W d u) : OwnAt S W sz es v b := by
  obtain ⟨h1, h2⟩ := h
  refine ⟨hs, ?_⟩
  rcases h2 with ⟨e1, e2, e3⟩ | ⟨g, cap, cur, e1, e2, e3, e4, e5, e6, e7⟩
  · subst e2
    exact Or.inl ⟨e1, List.eq_nil_of_length_eq_zero hl, none, e3⟩
  · refine Or.inr ⟨g, ty, cur, cap, e1, by rw [hl]; exact e2, e3, by rw [hl]; exact e4, e5, e6, fun i j e x he hx => ?_⟩
    have hi : i < xs.length := by rw [← hl]; exact (List.getElem?_eq_some_iff.1 he).1
    have hc := List.getElem?_eq_getElem hi
    have hj : j < sz := by
      have := (List.getElem?_eq_some_iff.1 hx).1
      rwa [hs e (List.mem_of_getElem? he)] at this
    have hlc : xs[i].length = sz := h1 _ (List.getElem_mem hi)
    have hv := List.getElem?_eq_getElem (show j < xs[i].length by omega)
    refine ⟨xs[i][j], ?_, hr i e _ he hc j x _ hx hv⟩
    have := flat_at h1 i j _ hc hj
    have hlt : i * sz + j < xs.length * sz := by
      have : (i + 1) * sz ≤ xs.length * sz := Nat.mul_le_mul_right _ hi
      rw [Nat.add_mul] at this
      omega
    rw [← e7, List.getElem?_take_of_lt hlt, hv] at this
    simpa using this
section
variable {A : Nat → Prop} {w W W' : World} {sm B2 : Nat} {L : List (VSt × Nat × Nat)} {iv : Value} {ib ob : Option Nat} {Dn : List Nat} {xs : List (List Value)} {j : Nat} {ov : Value}
theorem Inv2.step (hA : ∀ b, A b → b < w.heap.size) (hC : Cst w sm B2 L ib) (h : Inv2 A w sm B2 L iv ib ob Dn xs j ov W) {x : VSt × Nat × Nat} (hx : L[j]? = some x) (ho : W'.os = W.os) (ht : W'.tape = W.tape) (hu : W'.output = W.output) (hsz : W.heap.size ≤ W'.heap.size)
    (hk : ∀ k, k < W.heap.size → k ≠ x.2.1 → ob ≠ some k → W'.heap[k]? = W.heap[k]?) {ov' : Value} {c : List Value} {ob' : Option Nat} {D2 : List Nat} (hrow : VRow W' 43 11 ov' (xs ++ [c]) ob') (hob : ∃ g, ob' = some g ∧ (ob = some g ∨ W.heap.size ≤ g) ∧ g < W'.heap.size ∧ g ∉ D2)
    (hD2 : ∀ d ∈ D2, W.heap.size ≤ d ∧ d < W'.heap.size) (hrel : ∀ (q : Nat) (d : D) (v : Value), (api_Msg.enc (vOut x.1))[q]? = some d → c[q]? = some v → RelD (fun b => A b ∨ b ∈ Dn ++ D2) W' d v) : Inv2 A w sm B2 L iv ib ob' (Dn ++ D2) (xs ++ [c]) (j + 1) ov' W' := by
  have hxm := List.mem_of_getElem? hx
  have hxa := hC.at_ x hxm
  have hws := h.below.size
  have hB := h.size
  have hle := hC.le
  have hsm := hC.sm
  have obn : ∀ k, k < B2 → ob ≠ some k := fun k hk' e => by have := (h.ob k e).1; omega
  have hj := (List.getElem?_eq_some_iff.1 hx)
  have hd : L.drop j = x :: L.drop (j + 1) := by rw [List.drop_eq_getElem_cons hj.1, hj.2]
  have hap : ∀ y ∈ L.drop (j + 1), x.2.1 ≠ y.2.1 ∧ x.2.1 ≠ y.2.2 := fun y hy => by
    have h1 := hC.apart.sublist (List.drop_sublist j L)
    rw [hd] at h1
    have := (List.pairwise_cons.1 h1).1 y hy
    exact ⟨this.1, this.2.1⟩
  have hS : ∀ b, (A b ∨ b ∈ Dn) → W'.heap[b]? = W.heap[b]? := fun b hb => by
    rcases hb with hb | hb
    · have := hA b hb
      exact hk b (by omega) (by omega) (obn b (by omega))
    · have := h.dn b hb
      exact hk b this.2 (by omega) (fun e => (h.ob b e).2.2 hb)
  refine ⟨⟨ho.trans h.below.os, ht.trans h.below.tape, hu.trans h.below.output, by omega, fun k hk' => ?_⟩, ?_, ?_, fun y hy => ?_, hrow, by rw [List.length_append, h.len]; rfl, fun i y c' hy hc' q d v hd' hv => ?_, fun g hg => ?_, fun d hd' => ?_, by omega⟩
  · exact (hk k (by omega) (by omega) (obn k (by omega))).trans (h.below.block k hk')
  · exact h.map.of_block (hk sm (by omega) (Ne.symm hxa.1) (obn sm hsm.2))
  · refine ownAt_kept h.ids (fun _ h => h.elim) fun g hg => ?_
    have hg' := hC.ib g hg
    exact hk g (by omega) (Ne.symm (hg'.2.2 x hxm)) (obn g hg'.2.1)
  · have hym : y ∈ L := List.mem_of_mem_drop hy
    have hya := hC.at_ y hym
    have hyp := hap y hy
    exact (h.at_ y (by rw [hd]; exact .tail _ hy)).kept (hk _ (by omega) (Ne.symm hyp.1) (obn _ hya.2.2.2.2.1)) (hk _ (by omega) (Ne.symm hyp.2) (obn _ hya.2.2.2.2.2))
  · rw [List.getElem?_append] at hc'
    split at hc'
    · exact (h.rel i y c' hy hc' q d v hd' hv).mono (fun b hb => hb.imp id fun hb => List.mem_append_left _ hb) hS
    · rename_i hge
      have hi : i = j := by
        have := (List.getElem?_eq_some_iff.1 hc').1
        have hl := h.len
        simp at this
        omega
      subst hi
      rw [hx] at hy
      injection hy with hy
      subst hy
      rw [h.len, Nat.sub_self] at hc'
      injection hc' with hc'
      subst hc'
      exact hrel q d v hd' hv
  · obtain ⟨g', e1, e2, e3, e4⟩ := hob
    rw [e1] at hg
    injection hg with hg
    subst hg
    rcases e2 with e2 | e2
    · have := h.ob g' e2
      exact ⟨this.1, e3, fun hm => (List.mem_append.1 hm).elim this.2.2 e4⟩
    · exact ⟨by omega, e3, fun hm => (List.mem_append.1 hm).elim (fun hm => by have := (h.dn g' hm).2; omega) e4⟩
  · rcases List.mem_append.1 hd' with hd' | hd'
    · have := h.dn d hd'
      exact ⟨this.1, by omega⟩
    · have := hD2 d hd'
      exact ⟨by omega, this.2⟩
end
end Go.Proofs.YtljdbikodogeiaaGreatDoor
namespace Go.Proofs.YtljdbikodogeiaaGreatDoor
open Go.RowKit
theorem vRun_small (l : List api_Event) {m : Nat} (hf : ∀ e ∈ l, e.Files.length ≤ m) : ∀ i, ∀ s ∈ vRun l i, s.fl.length ≤ m ∧ s.re.length ≤ i
  | 0, s, hs => by cases hs
  | i + 1, s, hs => by
    have ih := vRun_small l hf i
    unfold vRun at hs
    cases he : l[i]? with
    | none =>
      rw [he] at hs
      have := ih s hs
      exact ⟨this.1, by omega⟩
    | some e =>
      rw [he] at hs
      have hfe := hf e (List.mem_of_getElem? he)
      dsimp only at hs
      unfold vStep at hs
      cases hk : e.Kind == 0
      · rw [hk] at hs
        obtain ⟨t, ht, rfl⟩ := List.mem_map.1 hs
        have h1 := ih t ht
        cases t.id == e.Target
        · exact ⟨h1.1, by simpa using Nat.le_succ_of_le h1.2⟩
        · simp only [cond_true]
          unfold vAct
          have hp : (putP t.re (e.Author, e.N)).length ≤ t.re.length + 1 := by
            unfold putP
            split <;> simp
          have hq : (t.re.erase (e.Author, e.N)).length ≤ t.re.length := List.length_erase_le
          cases (e.Group != t.gr) || t.gone <;> cases (e.Kind == 1) && (e.Author == t.au) <;> cases e.Kind == 2 <;> cases e.Kind == 3 <;> cases e.Kind == 4 <;> simp only [cond_true, cond_false, List.length_nil] <;> exact ⟨by omega, by omega⟩
      · rw [hk] at hs
        rcases List.mem_append.1 hs with hs | hs
        · have := ih s hs
          exact ⟨this.1, by omega⟩
        · rw [List.mem_singleton.1 hs]
          exact ⟨hfe, Nat.zero_le _⟩
theorem plain_ints (l : List Int) : ∀ e ∈ l.map (encI .i64), ∀ d ∈ e, ∃ x : Value, d = .v x := fun e he d hd => by
  obtain ⟨x, _, rfl⟩ := List.mem_map.1 he
  rw [List.mem_singleton.1 hd]
  exact ⟨_, rfl⟩
theorem own_slice {S : Nat → Prop} {w : World} {sz : Nat} {es : List (List D)} {v : Value} {b : Option Nat} (h : OwnAt S w sz es v b) : ∃ a c, v = .slice a es.length c := by
  obtain ⟨_, h2⟩ := h
  rcases h2 with ⟨_, rfl, a, rfl⟩ | ⟨g, ty, cur, cap, _, e2, _⟩
  · exact ⟨a, 0, rfl⟩
  · exact ⟨_, _, e2⟩
theorem own_relD {S S' : Nat → Prop} {w : World} {sz : Nat} {es : List (List D)} {v : Value} {b : Option Nat} (h : OwnAt S w sz es v b) (hS : ∀ c, S c → S' c) (hb : ∀ c, b = some c → S' c) : RelD S' w (.fz es) v := by
  obtain ⟨h1, h2⟩ := h
  rcases h2 with ⟨_, rfl, a, rfl⟩ | ⟨g, ty, cur, cap, e1, rfl, e3, e4, e5, e6, e7⟩
  · exact .fz0 a 0 fun _ => rfl
  · refine .fz es g 0 sz cap (fun j => (cur[j]?).getD (.int .i64 0)) h1 (hb g e1) e4 (fun j hj => ?_) fun i j e x he hx => ?_
    · have hlt : j < cur.size := by
        rw [e6]
        exact Nat.lt_of_lt_of_le hj (Nat.mul_le_mul_right _ e4)
      rw [Nat.zero_add, cell_of_row _ _ _ cur ty (0, 0) e3, Array.getElem?_eq_getElem hlt]
      rfl
    · obtain ⟨y, hy, hr⟩ := e7 i j e x he hx
      rw [hy]
      exact hr.mono hS fun _ _ => rfl
theorem own_int {S : Nat → Prop} {w : World} {l : List Int} {v : Value} {b : Option Nat} (h : OwnAt S w 1 (l.map (encI .i64)) v b) {j : Nat} {k : Int} (hk : l[j]? = some k) : ∃ g cap, v = .slice (some ⟨g, 0, none⟩) l.length cap ∧ w.cell? ⟨g, j, none⟩ = some (.int .i64 k) := by
  obtain ⟨_, h2⟩ := h
  have hj : (l.map (encI .i64))[j]? = some (encI .i64 k) := by rw [List.getElem?_map, hk]; rfl
  rcases h2 with ⟨_, h2, _⟩ | ⟨g, ty, cur, cap, e1, rfl, e3, e4, e5, e6, e7⟩
  · rw [h2] at hj; cases hj
  · obtain ⟨y, hy, hr⟩ := e7 j 0 _ _ hj rfl
    rw [Nat.mul_one, Nat.add_zero] at hy
    refine ⟨g, cap, by rw [List.length_map], ?_⟩
    rw [cell_of_row _ _ _ cur ty (0, 0) e3, hy, relD_v hr]
/-- slices.Clone at files -/
theorem clone_any {A : Nat → Prop} {W : World} {fl : List Int} {v : Value} (hI : Inv W) (hA : ∀ b, A b → b < W.heap.size) (h : RelD A W (.fz (fl.map (encI .i64))) v) (hl : fl.length ≤ 1000000) :
    Calls Tryz.prog 41 #[v] W fun r W' => ∃ a n c b, r = .returned (.slice a n c) ∧ Below W.heap.size W W' ∧ OwnAt (fun _ => False) W' 1 (fl.map (encI .i64)) (.slice a n c) b ∧ ∀ c, b = some c → W.heap.size ≤ c ∧ c < W'.heap.size := by
  have hc : slices_Clone_int_int fl = some fl := by simp [slices_Clone_int_int, chkO, hl]
  refine ((slices_Clone_int_int_fn (dr := False) hc).2 W A #[v] hI hA ⟨rfl, fun j c u hc hu => by
    match j, hc, hu with
    | 0, hc, hu =>
      injection hc with hc
      injection hu with hu
      subst hc hu
      exact .d h⟩).mono ?_
  rintro r W' ⟨v', S', bs, rfl, hb, _, hres, _, hbs⟩
  obtain ⟨b, rfl, ho⟩ := hres
  have ho : OwnAt S' W' 1 (fl.map (encI .i64)) v' b := ho
  obtain ⟨a, c, rfl⟩ := own_slice ho
  exact ⟨a, _, c, b, rfl, hb.toBelow, ownAt_plain (plain_ints fl) ho, fun c hc => by
    have := hbs c (by rw [hc]; exact .head _)
    exact ⟨this.1, this.2.1⟩⟩
/-- the ids, in order -/
theorem ids_any {R : List Int → Value → Prop} {w W : World} {sm : Nat} {L : List (VSt × Nat × Nat)} (h : Inv1 R w sm L W) (hs : (L.map fun x => x.1.id).Pairwise (· < ·)) (hr : ∀ x ∈ L, 0 ≤ x.1.id ∧ x.1.id < 1000000) (hl : L.length ≤ 1000000) :
    ∃ ty, (Calls Tryz.prog 40 #[.map (some sm)] W fun r W1 => r = .returned (.func (.func 68) #[] #[.pointer (some ⟨W.heap.size, 0, none⟩)]) ∧ W1 = W.alloc (.cells #[.map (some sm)] ty)) ∧
      Calls Tryz.prog 39 #[.func (.func 68) #[] #[.pointer (some ⟨W.heap.size, 0, none⟩)]] (W.alloc (.cells #[.map (some sm)] ty)) fun r W2 => ∃ a c b, r = .returned (.slice a L.length c) ∧ Below W.heap.size W W2 ∧ OwnAt (fun _ => False) W2 1 ((L.map fun x => x.1.id).map (encI .i64)) (.slice a L.length c) b ∧ ∀ c, b = some c → W.heap.size ≤ c ∧ c < W2.heap.size := by
  obtain ⟨kf, hkf, _, ty, hty⟩ := vkeys_fn
  injection hkf with hkf _
  subst hkf
  refine ⟨ty, hty sm W, ?_⟩
  have hms : (L.map fun x => x.1.id).mergeSort (fun x y => decide (x ≤ y)) = L.map fun x => x.1.id := List.mergeSort_of_pairwise (hs.imp fun h => decide_eq_true (by omega))
  have hk : sortedK (L.map fun x => x.1.id) = some (L.map fun x => x.1.id) := by
    unfold sortedK
    have : (decide ((L.map fun x => x.1.id).length ≤ 1000000) && (L.map fun x => x.1.id).all fun k => decide (-9223372036854775808 ≤ k) && decide (k ≤ 9223372036854775807)) = true := by
      rw [Bool.and_eq_true, List.all_eq_true]
      refine ⟨decide_eq_true (by rw [List.length_map]; exact hl), fun k hk => ?_⟩
      obtain ⟨x, hx, rfl⟩ := List.mem_map.1 hk
      have := hr x hx
      rw [Bool.and_eq_true]
      exact ⟨decide_eq_true (by omega), decide_eq_true (by omega)⟩
    rw [this, hms]
    rfl
  obtain ⟨rs, hrs, _, hc⟩ := vsorted_fn hk
  injection hrs with _ hrs
  subst hrs
  obtain ⟨ents, clock, hb, hst, he⟩ := h.map
  have hsz : ents.size = L.length := by
    have := congrArg List.length he
    simpa using this
  refine (hc (W.alloc (.cells #[.map (some sm)] ty)) W.heap.size sm ents clock (by simp) (by rw [cell_of_row _ _ _ _ _ _ (heap_alloc_new W _)]; rfl) ((Below.heap_alloc _ _ _ (lt_of_block hb)).trans hb) hst (by rw [hsz]; simp) fun j c e hc he' => ?_).mono ?_
  · obtain ⟨p, hp, hp1, _⟩ := imap_ent he (show ents.toList[j]? = some e by simpa using he')
    rw [List.getElem?_map] at hp
    rw [List.getElem?_map, List.getElem?_map] at hc
    cases hq : L[j]? with
    | none => rw [hq] at hp; cases hp
    | some x =>
      rw [hq] at hp hc
      injection hp with hp
      injection hc with hc
      subst hp
      rw [← hc, hp1]
  · rintro r W2 ⟨v, b, rfl, hbl, ho, hbb⟩
    have ho' : OwnAt (fun _ => False) W2 1 ((L.map fun x => x.1.id).map (encI .i64)) v b := ho
    obtain ⟨a, c, hv⟩ := own_slice ho'
    rw [List.length_map, List.length_map] at hv
    subst hv
    refine ⟨a, c, b, rfl, (below_alloc W _).trans (hbl.toBelow.mono (below_alloc W _).size), ho', fun c hc => ?_⟩
    have := hbb c hc
    exact ⟨Nat.le_trans (below_alloc W _).size this.1, this.2⟩
/-- the reactions of a message, in order -/
theorem reacts_any (s : VSt) (hl : s.re.length ≤ 1000000) (hr : ∀ x ∈ s.re, inR x) (W : World) (hI : Inv W) (mb : Option Nat) (h : mb = none ∧ s.gone = true ∨ s.gone = false ∧ ∃ rb ents clock, mb = some rb ∧ W.heap[rb]? = some (.map ents clock) ∧ MapKept.Stamped ents clock ∧ KeysAre ents s.re) :
    Calls Tryz.prog 42 #[.func (.func 71) #[] #[.pointer (some ⟨W.heap.size, 0, none⟩)], .func (.func 44) #[] #[]] (W.alloc (.cells #[.map mb] 80)) fun r W' => ∃ a n c b, r = .returned (.slice a n c) ∧ Below W.heap.size W W' ∧ OwnAt (fun _ => False) W' 2 ((vOut s).Reacts.map Arr2_Int.enc) (.slice a n c) b ∧ ∀ c, b = some c → W.heap.size ≤ c ∧ c < W'.heap.size := by
  have hcell : (W.alloc (.cells #[.map mb] 80)).cell? ⟨W.heap.size, 0, none⟩ = some (.map mb) := by rw [cell_of_row _ _ _ _ _ _ (heap_alloc_new W _)]; rfl
  have hs := (below_alloc W (.cells #[.map mb] 80)).size
  rcases h with ⟨rfl, hg⟩ | ⟨hg, rb, ents, clock, rfl, h1, h2, h3⟩
  · refine (vsortedf_nil _ W.heap.size (by simp) hcell).mono ?_
    rintro r W' ⟨rfl, hb⟩
    refine ⟨none, 0, 0, none, rfl, (below_alloc W _).trans (hb.mono hs), ⟨fun e he => ?_, Or.inl ⟨rfl, ?_, none, rfl⟩⟩, fun c hc => by cases hc⟩
    · simp only [vOut, hg, cond_true] at he
      cases he
    · simp only [vOut, hg, cond_true]
      rfl
  · refine (vsortedf_own s.re hl hr _ (inv_below hI (below_alloc W _)) W.heap.size rb ents clock (by simp) hcell ((Below.heap_alloc _ _ _ (lt_of_block h1)).trans h1) h2 h3).mono ?_
    rintro r W' ⟨v, b, rfl, ho, hb, hbb⟩
    obtain ⟨a, c, rfl⟩ := own_slice ho
    refine ⟨a, _, c, b, rfl, (below_alloc W _).trans (hb.mono hs), ?_, fun c hc => ?_⟩
    · simp only [vOut, hg, cond_false]
      exact ho
    · have := hbb c hc
      exact ⟨by omega, this.2⟩
/-- but for some blocks all is as it was -/
structure Chg (P : Nat → Prop) (w w' : World) : Prop where
  os : w'.os = w.os
  tape : w'.tape = w.tape
  output : w'.output = w.output
  size : w.heap.size ≤ w'.heap.size
  block : ∀ k, k < w.heap.size → ¬ P k → w'.heap[k]? = w.heap[k]?
theorem Chg.of_below {P : Nat → Prop} {w w' : World} (h : Below w.heap.size w w') : Chg P w w' := ⟨h.os, h.tape, h.output, h.size, fun k hk _ => h.block k hk⟩
theorem Chg.trans {P : Nat → Prop} {a b c : World} (h : Chg P a b) (k : Chg P b c) : Chg P a c :=
  ⟨k.os.trans h.os, k.tape.trans h.tape, k.output.trans h.output, Nat.le_trans h.size k.size, fun i hi hp => (k.block i (Nat.lt_of_lt_of_le hi h.size) hp).trans (h.block i hi hp)⟩
theorem Chg.set {P : Nat → Prop} (w : World) (b i : Nat) (v : Value) (hp : P b) : Chg P w (w.setCell ⟨b, i, none⟩ v) :=
  ⟨rfl, rfl, rfl, by show _ ≤ (Array.modify _ _ _).size; rw [Array.size_modify]; exact Nat.le_refl _, fun k _ hk => Below.heap_setCell _ _ _ _ fun e => hk (by rw [e]; exact hp)⟩
theorem vcells (a0 a1 a2 a3 a4 a5 a6 a7 a8 a9 a10 : Value) (w : World) : ∀ (j : Nat) (u : Value), [a0, a1, a2, a3, a4, a5, a6, a7, a8, a9, a10][j]? = some u → (w.alloc (.cells #[a0, a1, a2, a3, a4, a5, a6, a7, a8, a9, a10] 43)).cell? ((⟨w.heap.size, 0, none⟩ : Addr).add j) = some u :=
  cells_new w _ _ _ rfl
theorem infoM : (Tryz.prog.info? 43).map (fun i => (i.zero, i.size, i.bytes)) = some (some (.agg #[.int .i64 0, .int .i64 0, .int .i64 0, .int .i64 0, .int .i64 0, .int .i64 0, .string ⟨#[]⟩, .slice none 0 0, .int .i64 0, .slice none 0 0, .bool false]), 11, 128) := by kernel_rfl
theorem VRow.lt {W : World} {ty sz : Nat} {v : Value} {xs : List (List Value)} {b : Option Nat} (h : VRow W ty sz v xs b) {g : Nat} (hg : b = some g) : g < W.heap.size := by
  obtain ⟨_, h2⟩ := h
  rcases h2 with ⟨e1, _⟩ | ⟨g', cap, cur, e1, _, e3, _⟩
  · rw [e1] at hg; cases hg
  · rw [e1] at hg
    injection hg with hg
    subst hg
    exact lt_of_block e3
def msgL (s : VSt) (v1 v2 : Value) : List Value := [.int .i64 s.id, .int .i64 s.au, .int .i64 s.gr, .int .i64 s.pa, .int .i64 s.qu, .int .i64 s.wh, .string s.tx, v1, .int .i64 s.ed, v2, .bool s.gone]
set_option maxHeartbeats 1000000 in
/-- what a round of the second loop leaves -/
theorem round_end {A : Nat → Prop} {w W W1 W4 W5 W6 : World} {sm B2 : Nat} {L : List (VSt × Nat × Nat)} {iv : Value} {ib ob : Option Nat} {Dn : List Nat} {xs : List (List Value)} {j : Nat} {ov : Value} {x : VSt × Nat × Nat} {v1 v2 : Value} {b1 b2 : Option Nat} {o : Obj}
    (hA : ∀ b, A b → b < w.heap.size) (hC : Cst w sm B2 L ib) (h : Inv2 A w sm B2 L iv ib ob Dn xs j ov W) (hx : L[j]? = some x) (hb1 : Below W.heap.size W W1) (ho1 : OwnAt (fun _ => False) W1 1 (x.1.fl.map (encI .i64)) v1 b1) (hbb1 : ∀ c, b1 = some c → W.heap.size ≤ c ∧ c < W1.heap.size)
    (h15 : Chg (fun k => k = x.2.1) W1 W5) (h45 : Chg (fun k => k = x.2.1) W4 W5) (_h14 : W1.heap.size ≤ W4.heap.size) (ho2 : OwnAt (fun _ => False) W4 2 ((vOut x.1).Reacts.map Arr2_Int.enc) v2 b2) (hbb2 : ∀ c, b2 = some c → W1.heap.size ≤ c ∧ c < W4.heap.size)
    {ov' : Value} {ob' : Option Nat} (hrow : VRow W6 43 11 ov' (xs ++ [msgL x.1 v1 v2]) ob') (hos : W6.os = (W5.alloc o).os) (htp : W6.tape = (W5.alloc o).tape) (hou : W6.output = (W5.alloc o).output) (hsz : (W5.alloc o).heap.size ≤ W6.heap.size)
    (hk : ∀ k, k < (W5.alloc o).heap.size → ob ≠ some k → W6.heap[k]? = (W5.alloc o).heap[k]?) (hob : ∃ g, ob' = some g ∧ (ob = some g ∨ g = (W5.alloc o).heap.size)) :
    Inv2 A w sm B2 L iv ib ob' (Dn ++ (b1.toList ++ b2.toList)) (xs ++ [msgL x.1 v1 v2]) (j + 1) ov' W6 := by
  have hxa := hC.at_ x (List.mem_of_getElem? hx)
  have s1 := hb1.size
  have s5 := h15.size
  have s45 := h45.size
  have sa : (W5.alloc o).heap.size = W5.heap.size + 1 := World.size_alloc W5 o
  have hB := h.size
  have hob1 : ∀ k, W.heap.size ≤ k → ob ≠ some k := fun k hk' e => by have := (h.ob k e).2.1; omega
  have k5 : ∀ k, k < W5.heap.size → ob ≠ some k → W6.heap[k]? = W5.heap[k]? := fun k hk' ho => (hk k (by omega) ho).trans (Below.heap_alloc _ _ _ hk')
  have hd1 : ∀ c, b1 = some c → W6.heap[c]? = W1.heap[c]? := fun c hc => by
    have := hbb1 c hc
    rw [k5 c (by omega) (hob1 c this.1)]
    exact h15.block c this.2 (by omega)
  have hd2 : ∀ c, b2 = some c → W6.heap[c]? = W4.heap[c]? := fun c hc => by
    have := hbb2 c hc
    rw [k5 c (by omega) (hob1 c (by omega))]
    exact h45.block c this.2 (by omega)
  have hmem : ∀ d, d ∈ b1.toList ++ b2.toList ↔ b1 = some d ∨ b2 = some d := fun d => by
    rw [List.mem_append, Option.mem_toList, Option.mem_toList]
  refine h.step hA hC hx (hos.trans (h15.os.trans hb1.os)) (htp.trans (h15.tape.trans hb1.tape)) (hou.trans (h15.output.trans hb1.output)) (by omega) (fun k h1 h2 h3 => ?_) hrow ?_ (fun d hd => ?_) fun q d v hq hqv => ?_
  · rw [k5 k (by omega) h3, h15.block k (by omega) h2]
    exact hb1.block k h1
  · obtain ⟨g, e1, e2⟩ := hob
    refine ⟨g, e1, e2.imp id fun e => by omega, hrow.lt e1, fun hm => ?_⟩
    rcases (hmem g).1 hm with hm | hm
    · have := hbb1 g hm
      rcases e2 with e2 | e2
      · exact hob1 g this.1 e2
      · omega
    · have := hbb2 g hm
      rcases e2 with e2 | e2
      · exact hob1 g (by omega) e2
      · omega
  · rcases (hmem d).1 hd with hd | hd
    · have := hbb1 d hd; omega
    · have := hbb2 d hd; omega
  · have hv : RelD (fun b => A b ∨ b ∈ Dn ++ (b1.toList ++ b2.toList)) W6 (.fz (x.1.fl.map (encI .i64))) v1 := own_relD (ownAt_kept ho1 (fun _ h => h.elim) hd1) (fun _ h => h.elim) fun c hc => Or.inr (List.mem_append_right _ ((hmem c).2 (Or.inl hc)))
    have hv' : RelD (fun b => A b ∨ b ∈ Dn ++ (b1.toList ++ b2.toList)) W6 (.fz ((vOut x.1).Reacts.map Arr2_Int.enc)) v2 := own_relD (ownAt_kept ho2 (fun _ h => h.elim) hd2) (fun _ h => h.elim) fun c hc => Or.inr (List.mem_append_right _ ((hmem c).2 (Or.inr hc)))
    unfold msgL at *
    match q, hq, hqv with
    | 0, hq, h2 => injection hq with hq; injection h2 with h2; subst hq h2; exact .v _ rfl
    | 1, hq, h2 => injection hq with hq; injection h2 with h2; subst hq h2; exact .v _ rfl
    | 2, hq, h2 => injection hq with hq; injection h2 with h2; subst hq h2; exact .v _ rfl
    | 3, hq, h2 => injection hq with hq; injection h2 with h2; subst hq h2; exact .v _ rfl
    | 4, hq, h2 => injection hq with hq; injection h2 with h2; subst hq h2; exact .v _ rfl
    | 5, hq, h2 => injection hq with hq; injection h2 with h2; subst hq h2; exact .v _ rfl
    | 6, hq, h2 => injection hq with hq; injection h2 with h2; subst hq h2; exact .v _ rfl
    | 7, hq, h2 => injection hq with hq; injection h2 with h2; subst hq h2; exact hv
    | 8, hq, h2 => injection hq with hq; injection h2 with h2; subst hq h2; exact .v _ rfl
    | 9, hq, h2 => injection hq with hq; injection h2 with h2; subst hq h2; exact hv'
    | 10, hq, h2 => injection hq with hq; injection h2 with h2; subst hq h2; exact .v _ rfl
    | q + 11, hq, h2 => cases hq
end Go.Proofs.YtljdbikodogeiaaGreatDoor

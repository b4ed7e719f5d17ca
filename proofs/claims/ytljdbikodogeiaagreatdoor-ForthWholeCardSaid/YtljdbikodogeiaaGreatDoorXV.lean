/-
  View's walk.
-/
import Derived.Test.YtljdbikodogeiaaGreatDoorVA
namespace Go.Proofs.YtljdbikodogeiaaGreatDoor
open Go.RowKit
set_option maxRecDepth 100000 in
set_option maxHeartbeats 8000000 in
theorem view_walk (A : Nat → Prop) (w : World) (hI : Inv w) (l : List api_Event) (a : Option Addr) (c : Nat) (hA : ∀ b, A b → b < w.heap.size) (h : RelD A w (.fz (l.map api_Event.enc)) (.slice a l.length c)) (hl : l.length ≤ 1000) (hin : ∀ e ∈ l, inR (e.Author, e.N)) (hfl : ∀ e ∈ l, e.Files.length ≤ 1000000) :
    Calls Tryz.prog 12 #[.slice a l.length c] w fun r w' => ∃ (v : Value) (b : Option Nat) (Dn : List Nat), r = .returned v ∧ Below w.heap.size w w' ∧ OwnAt (fun b => A b ∨ b ∈ Dn) w' 11 (((vRun l l.length).map vOut).map api_Msg.enc) v b ∧ (∀ g, b = some g → w.heap.size ≤ g ∧ g < w'.heap.size ∧ g ∉ Dn) ∧ ∀ d ∈ Dn, w.heap.size ≤ d ∧ d < w'.heap.size := by
  have HIN := Lib.hid hin
  have HR := Lib.hid h
  have HA := Lib.hid hA
  have HFS := Lib.hid hfl
  have HINV := Lib.hid hI
  clear hI
  clear hin h hA hfl
  generalize hn : l.length = n at *
  have HN := Lib.hid hn
  clear hn
  have hmm := @run_makeMap Tryz.prog
  go_enter Tryz.func12, Tryz.ntmps12
  go_wp2_with fail
  have HI0 := Lib.hid (Inv1.start (R := RF A w) w)
  obtain ⟨W0, hW0⟩ : ∃ X, w.alloc (.map #[] 0) = X := ⟨_, rfl⟩
  rw [hW0] at HI0 ⊢
  clear hW0
  generalize hsm : w.heap.size = sm at HI0 ⊢
  have HSM := Lib.hid hsm
  clear hsm
  go_loopg [15] n (fun q i W => ∃ (k : Nat) (L : List (VSt × Nat × Nat)), k + q = n ∧ i = .int .i64 k ∧ Hid (L.map Prod.fst = vRun l k) ∧ Hid (Inv1 (RF A w) w sm L W))
  case atStart => exact ⟨0, [], by omega, rfl, rfl, HI0⟩
  case round =>
    obtain ⟨k, L, hk, rfl, HL, HI⟩ := hrel
    by_cases hlt : k < n
    · have hei : l[k]? = some (l[k]'(by rw [HN.out]; exact hlt)) := List.getElem?_eq_getElem _
      generalize hq : l[k]'(by rw [HN.out]; exact hlt) = e at hei
      obtain ⟨b, o, hab⟩ : ∃ b o, a = some ⟨b, o, none⟩ := by
        obtain ⟨a', c', h1, h2⟩ := ev_slice HR.out
        injection h1 with h1 h3 h4
        rw [h1]
        exact h2 k (by rw [HN.out]; exact hlt)
      subst hab
      obtain ⟨cA, cN, cC, fA, fN, fC, hev⟩ := vw_at HA.out HR.out hei HI.out.below
      have HEI := Lib.hid hei
      have HEV := Lib.hid hev
      have HID : Hid ((L.map fun x => x.1.id) = (vRun l k).map fun s => s.id) := Lib.hid (by rw [← HL.out, List.map_map]; rfl)
      have e0 := hev.c0
      have e1 := hev.c1
      have e2 := hev.c2
      have e3 := hev.c3
      have e4 := hev.c4
      have e5 := hev.c5
      have e6 := hev.c6
      have e7 := hev.c7
      have e8 := hev.c8
      have e9 := hev.c9
      have e10 := hev.c10
      have e11 := hev.c11
      clear hq hei hev
      have HP : Hid (PSt (RF A w) w sm L wr.heap.size e cA cN cC fA fN fC (wr.alloc (.cells #[.int .i64 e.Author, .int .i64 e.Seq, .slice cA cN cC, .int .i64 e.Kind, .int .i64 e.Group, .int .i64 e.Target, .int .i64 e.Quote, .int .i64 e.Who, .int .i64 e.N, .string e.Text, .slice fA fN fC, .int .i64 e.Step] 45))) := Lib.hid ⟨HI.out.next (below_alloc _ _), heap_alloc_new wr _⟩
      cases hkd : e.Kind == 0
      · by_cases hx : ∃ x ∈ L, x.1.id = e.Target
        · obtain ⟨x, hxm, hxi⟩ := hx
          have hlook := HP.out.inv.map.get Tryz.underlying78 Tryz.underlying3 (k := e.Target) (v := .pointer (some ⟨x.2.1, 0, none⟩)) (List.mem_map.2 ⟨x, hxm, by rw [hxi]⟩) (by rw [List.map_map]; show (L.map fun x => x.1.id).Nodup; rw [HID.out]; exact vRun_nodup l k) true
          simp only [if_true] at hlook
          have HXM := Lib.hid hxm
          have HXI := Lib.hid hxi
          clear hxm hxi
          go_wp2_with (go_at_call 38; refine (act_any (RF A w) (RF.nil A w) _ x.1 x.2 e (.slice cA cN cC) fA fN fC (HP.out.inv.at_ x HXM.out) HEV.out.fl (HIN.out e (List.mem_of_getElem? HEI.out))).mono ?_; rintro r W2 ⟨rfl, hs2, h2⟩; have HW2 := Lib.hid (HP.out.inv.turn (by rw [HID.out]; exact vRun_nodup l k) HXM.out (vAct_id _ _) h2 hs2); clear hs2 h2)
          go_roundg (gk - 1)
          case measure => omega
          refine ⟨k + 1, _, by omega, by rw [Int.natCast_add]; rfl, Lib.hid ?_, HW2⟩
          rw [List.map_map]
          show _ = match l[k]? with | some e => vStep l k e (vRun l k) | none => vRun l k
          rw [HEI.out, ← HL.out]
          simp only [vStep, hkd, cond_false, List.map_map]
          refine List.map_congr_left fun y hy => ?_
          simp only [Function.comp, HXI.out]
          cases hq : y.1.id == e.Target
          · rfl
          · have := turn_same (by rw [HID.out]; exact vRun_nodup l k) HXM.out hy ((eq_of_beq hq).trans HXI.out.symm)
            rw [this]
            rfl
        · have hlook := HP.out.inv.map.get_none Tryz.underlying78 Tryz.underlying3 (k := e.Target) (et := 79) (ei := _) (z := .pointer none) rfl rfl (by rw [List.map_map]; intro hm; obtain ⟨x, h1, h2⟩ := List.mem_map.1 hm; exact hx ⟨x, h1, h2⟩) true
          simp only [if_true] at hlook
          have HNX := Lib.hid hx
          clear hx
          go_wp2_with fail
          go_roundg (gk - 1)
          case measure => omega
          refine ⟨k + 1, L, by omega, by rw [Int.natCast_add]; rfl, Lib.hid ?_, Lib.hid HP.out.inv⟩
          show _ = match l[k]? with | some e => vStep l k e (vRun l k) | none => vRun l k
          rw [HEI.out, ← HL.out]
          simp only [vStep, hkd, cond_false, List.map_map]
          refine List.map_congr_left fun y hy => ?_
          simp only [Function.comp]
          cases hq : y.1.id == e.Target
          · rfl
          · exact absurd ⟨y, hy, eq_of_beq hq⟩ HNX.out
      · go_wp2_with fail
        go_upto_region 6 with fail
        have HFR : Hid ((k : Int) ∉ L.map fun x => x.1.id) := Lib.hid (by
          rw [HID.out]
          intro hm
          obtain ⟨s, hs, h2⟩ := List.mem_map.1 hm
          have := (vRun_ids l k).2 s hs
          omega)
        obtain ⟨W1, hW1⟩ : ∃ X, wr.alloc (.cells #[.int .i64 e.Author, .int .i64 e.Seq, .slice cA cN cC, .int .i64 e.Kind, .int .i64 e.Group, .int .i64 e.Target, .int .i64 e.Quote, .int .i64 e.Who, .int .i64 e.N, .string e.Text, .slice fA fN fC, .int .i64 e.Step] 45) = X := ⟨_, rfl⟩
        rw [hW1] at HP ⊢
        clear hW1 e0 e1 e2 e3 e4 e5 e6 e7 e8 e9 e10 e11
        generalize wr.heap.size = eb at HP ⊢
        have HP0 := HP
        have HP := Lib.hid HP.out.drew
        have HRP : Hid (∀ b : Nat × Nat, (L ++ [(vPost l k e, b)]).map Prod.fst = vRun l (k + 1)) := Lib.hid fun b => by
          rw [List.map_append, HL.out]
          show _ = match l[k]? with | some e => vStep l k e (vRun l k) | none => vRun l k
          rw [HEI.out]
          simp only [vStep, hkd, cond_true]
          rfl
        refine wp_region_held_drew (S := fun W => W.cell? ⟨eb, 0, none⟩ = some (.int .i64 e.Author) ∧ W.cell? ⟨eb, 4, none⟩ = some (.int .i64 e.Group) ∧ W.cell? ⟨eb, 6, none⟩ = some (.int .i64 e.Quote) ∧ W.cell? ⟨eb, 7, none⟩ = some (.int .i64 e.Who) ∧ W.cell? ⟨eb, 9, none⟩ = some (.string e.Text) ∧ W.cell? ⟨eb, 10, none⟩ = some (.slice fA fN fC)) (by kernel_rfl) ?_ (fun hHeld => ?_)
        focus (exact HP.out.cells)
        refine wpAnyH_takes (by kernel_rfl) (fun d _ _ _ _ h => by cases d <;> exact h) [0, 1, 2, 3, 4, 5, 6, 7, 8, 10, 11, 12, 13, 14, 15, 16, 17] 6 _ _ _ ?_ _ (by rfl) (by kernel_rfl) ?_ (by assumption) ?_
        rotate_left
        focus
          simp only [pick_lit, List.filterMap_cons, List.filterMap_nil, List.getElem?_cons_zero, List.getElem?_cons_succ]
          (refine Takes.want ?_ (by rfl) (fun w' hw' => ?_) ?_; rotate_left; (focus ((try dsimp only at hw'); go_simp; (first | done | with_reducible rfl))); try simp only [Act.put, List.setIfInBounds_toArray, List.set_cons_zero, List.set_cons_succ])
          (refine Takes.want ?_ (by rfl) (fun w' hw' => ?_) ?_; rotate_left; (focus ((try dsimp only at hw'); go_simp; (first | done | with_reducible rfl))); try simp only [Act.put, List.setIfInBounds_toArray, List.set_cons_zero, List.set_cons_succ])
          (refine Takes.want ?_ (by rfl) (fun w' hw' => ?_) ?_; rotate_left; (focus ((try dsimp only at hw'); go_simp; (first | done | with_reducible rfl))); try simp only [Act.put, List.setIfInBounds_toArray, List.set_cons_zero, List.set_cons_succ])
          (refine Takes.want ?_ (by rfl) (fun w' hw' => ?_) ?_; rotate_left; (focus ((try dsimp only at hw'); go_simp; (first | done | with_reducible rfl))); try simp only [Act.put, List.setIfInBounds_toArray, List.set_cons_zero, List.set_cons_succ])
          (refine Takes.want ?_ (by rfl) (fun w' hw' => ?_) ?_; rotate_left; (focus ((try dsimp only at hw'); go_simp; (first | done | with_reducible rfl))); try simp only [Act.put, List.setIfInBounds_toArray, List.set_cons_zero, List.set_cons_succ])
          (refine Takes.want ?_ (by rfl) (fun w' hw' => ?_) ?_; rotate_left; (focus ((try dsimp only at hw'); go_simp; (first | done | with_reducible rfl))); try simp only [Act.put, List.setIfInBounds_toArray, List.set_cons_zero, List.set_cons_succ])
          (refine Takes.want ?_ (by rfl) (fun w' hw' => ?_) ?_; rotate_left; (focus ((try dsimp only at hw'); go_simp; (first | done | with_reducible rfl))); try simp only [Act.put, List.setIfInBounds_toArray, List.set_cons_zero, List.set_cons_succ])
          (refine Takes.want ?_ (by rfl) (fun w' hw' => ?_) ?_; rotate_left; (focus ((try dsimp only at hw'); go_simp; (first | done | with_reducible rfl))); try simp only [Act.put, List.setIfInBounds_toArray, List.set_cons_zero, List.set_cons_succ])
          (refine Takes.want ?_ (by rfl) (fun w' hw' => ?_) ?_; rotate_left; (focus ((try dsimp only at hw'); go_simp; (first | done | with_reducible rfl))); try simp only [Act.put, List.setIfInBounds_toArray, List.set_cons_zero, List.set_cons_succ])
          (refine Takes.want ?_ (by rfl) (fun w' hw' => ?_) ?_; rotate_left; (focus ((try dsimp only at hw'); go_simp; (first | done | with_reducible rfl))); try simp only [Act.put, List.setIfInBounds_toArray, List.set_cons_zero, List.set_cons_succ])
          (refine Takes.want ?_ (by rfl) (fun w' hw' => ?_) ?_; rotate_left; (focus ((try dsimp only at hw'); go_simp; (first | done | with_reducible rfl))); try simp only [Act.put, List.setIfInBounds_toArray, List.set_cons_zero, List.set_cons_succ])
          (refine Takes.want ?_ (by rfl) (fun w' hw' => ?_) ?_; rotate_left; (focus ((try dsimp only at hw'); go_simp; (first | done | with_reducible rfl))); try simp only [Act.put, List.setIfInBounds_toArray, List.set_cons_zero, List.set_cons_succ])
          (refine Takes.want ?_ (by rfl) (fun w' hw' => ?_) ?_; rotate_left; (focus ((try dsimp only at hw'); go_simp; (first | done | with_reducible rfl))); try simp only [Act.put, List.setIfInBounds_toArray, List.set_cons_zero, List.set_cons_succ])
          (refine Takes.want ?_ (by rfl) (fun w' hw' => ?_) ?_; rotate_left; (focus ((try dsimp only at hw'); go_simp; (first | done | with_reducible rfl))); try simp only [Act.put, List.setIfInBounds_toArray, List.set_cons_zero, List.set_cons_succ])
          (refine Takes.want ?_ (by rfl) (fun w' hw' => ?_) ?_; rotate_left; (focus ((try dsimp only at hw'); go_simp; (first | done | with_reducible rfl))); try simp only [Act.put, List.setIfInBounds_toArray, List.set_cons_zero, List.set_cons_succ])
          (refine Takes.want ?_ (by rfl) (fun w' hw' => ?_) ?_; rotate_left; (focus ((try dsimp only at hw'); go_simp; (first | done | with_reducible rfl))); try simp only [Act.put, List.setIfInBounds_toArray, List.set_cons_zero, List.set_cons_succ])
          (refine Takes.want ?_ (by rfl) (fun w' hw' => ?_) ?_; rotate_left; (focus ((try dsimp only at hw'); go_simp; (first | done | with_reducible rfl))); try simp only [Act.put, List.setIfInBounds_toArray, List.set_cons_zero, List.set_cons_succ])
          exact Takes.done
        refine wpAnyH_two 9 19 (fuel := 5) (by kernel_rfl) (by rfl) (fun K hK => ?_) (fun K hK => ?_)
        · simp only [pick_lit, List.filterMap_cons, List.filterMap_nil, List.getElem?_cons_zero, List.getElem?_cons_succ, AtOps]
          go_simp
          (go_at_call 37; refine (parent_any (inv_below HINV.out HP.out.inv.below) (HP.out.arg HA.out) (HP.out.rel HA.out HR.out) HEI.out).mono ?_; rintro r W2 ⟨rfl, hb2⟩; have HP := Lib.hid (HP.out.next hb2); have HB2 := Lib.hid hb2; clear hb2)
          refine hK.out _ _ ?_ (fun hHeld => ?_)
          focus (first | exact HP.out.cells | exact HP.out.drew.cells | exact (HP.out.next (below_alloc _ _)).cells | exact ((HP.out.next (below_alloc _ _)).next (below_alloc _ _)).cells | exact (HP0.out.next (below_alloc _ _)).cells | exact (HP0.out.next (below_alloc _ _)).drew.cells)
          clear hK K
          try simp only [Act.put, List.setIfInBounds_toArray, List.set_cons_zero, List.set_cons_succ]
          refine wpAnyH_takes (by kernel_rfl) (fun d _ _ _ _ h => by cases d <;> exact h) [18] 4 _ _ _ ?_ _ (by rfl) (by kernel_rfl) ?_ (by assumption) ?_
          rotate_left
          focus
            simp only [pick_lit, List.filterMap_cons, List.filterMap_nil, List.getElem?_cons_zero, List.getElem?_cons_succ]
            (refine Takes.want ?_ (by rfl) (fun w' hw' => ?_) ?_; rotate_left; (focus ((try dsimp only at hw'); go_simp; (first | done | with_reducible rfl))); try simp only [Act.put, List.setIfInBounds_toArray, List.set_cons_zero, List.set_cons_succ])
            exact Takes.done
          refine wpAnyH_one 19 (fuel := 3) (by kernel_rfl) (by rfl) (fun K hK => ?_)
          simp only [pick_lit, List.filterMap_cons, List.filterMap_nil, List.getElem?_cons_zero, List.getElem?_cons_succ, AtOps]
          go_simp
          refine hK.out _ _ ?_ (fun hHeld => ?_)
          focus (first | exact HP.out.cells | exact HP.out.drew.cells | exact (HP.out.next (below_alloc _ _)).cells | exact ((HP.out.next (below_alloc _ _)).next (below_alloc _ _)).cells | exact (HP0.out.next (below_alloc _ _)).cells | exact (HP0.out.next (below_alloc _ _)).drew.cells)
          clear hK K
          try simp only [Act.put, List.setIfInBounds_toArray, List.set_cons_zero, List.set_cons_succ]
          refine wpAnyH_takes (by kernel_rfl) (fun d _ _ _ _ h => by cases d <;> exact h) [20] 2 _ _ _ ?_ _ (by rfl) (by kernel_rfl) ?_ (by assumption) ?_
          rotate_left
          focus
            simp only [pick_lit, List.filterMap_cons, List.filterMap_nil, List.getElem?_cons_zero, List.getElem?_cons_succ]
            (refine Takes.want ?_ (by rfl) (fun w' hw' => ?_) ?_; rotate_left; (focus ((try dsimp only at hw'); go_simp; (first | done | with_reducible rfl))); try simp only [Act.put, List.setIfInBounds_toArray, List.set_cons_zero, List.set_cons_succ])
            exact Takes.done
          refine wpAnyH_one 21 (fuel := 1) (by kernel_rfl) (by rfl) (fun K hK => ?_)
          simp only [pick_lit, List.filterMap_cons, List.filterMap_nil, List.getElem?_cons_zero, List.getElem?_cons_succ, AtOps]
          go_simp
          refine hK.out _ _ ?_ (fun hHeld => ?_)
          focus (first | exact HP.out.cells | exact HP.out.drew.cells | exact (HP.out.next (below_alloc _ _)).cells | exact ((HP.out.next (below_alloc _ _)).next (below_alloc _ _)).cells | exact (HP0.out.next (below_alloc _ _)).cells | exact (HP0.out.next (below_alloc _ _)).drew.cells)
          clear hK K
          try simp only [Act.put, List.setIfInBounds_toArray, List.set_cons_zero, List.set_cons_succ]
          obtain ⟨W5, hrun, hinv⟩ := post_put (l := l) (i := k) (mb := W2.heap.size) (bx := W2.heap.size + 1) (Wx := (W2.alloc (.map #[] 0)).alloc (.cells #[.int .i64 k, .int .i64 e.Author, .int .i64 e.Group, .int .i64 (parB l k e), .int .i64 e.Quote, .int .i64 e.Who, .string e.Text, .slice fA fN fC, .int .i64 0, .slice none 0 0, .bool false, .map (some W2.heap.size)] 82)) HP.out HEV.out.fl HFR.out ((below_alloc W2 _).trans ((below_alloc _ _).mono (below_alloc W2 _).size)) ((Below.heap_alloc _ _ _ (by simp)).trans (heap_alloc_new W2 _)) (by have := heap_alloc_new (W2.alloc (.map #[] 0)) (.cells #[.int .i64 k, .int .i64 e.Author, .int .i64 e.Group, .int .i64 (parB l k e), .int .i64 e.Quote, .int .i64 e.Who, .string e.Text, .slice fA fN fC, .int .i64 0, .slice none 0 0, .bool false, .map (some W2.heap.size)] 82); rwa [World.size_alloc] at this) (Nat.le_refl _) (Nat.le_succ _)
          have HP := Lib.hid hinv
          clear hinv
          refine wpAnyH_one 22 (fuel := 0) (by kernel_rfl) (by rfl) (fun K hK => ?_)
          simp only [pick_lit, List.filterMap_cons, List.filterMap_nil, List.getElem?_cons_zero, List.getElem?_cons_succ, AtOps]
          go_simp
          refine hK.out _ _ ?_ (fun hHeld => ?_)
          focus (first | exact HP.out.cells | exact HP.out.drew.cells | exact (HP.out.next (below_alloc _ _)).cells | exact ((HP.out.next (below_alloc _ _)).next (below_alloc _ _)).cells | exact (HP0.out.next (below_alloc _ _)).cells | exact (HP0.out.next (below_alloc _ _)).drew.cells)
          clear hK K
          try simp only [Act.put, List.setIfInBounds_toArray, List.set_cons_zero, List.set_cons_succ]
          refine wpAnyH_done (by kernel_rfl) ?_ _
          clear hHeld hrun
          go_wp2_with fail
          go_roundg (gk - 1)
          case measure => omega
          exact ⟨k + 1, L ++ [(vPost l k e, W2.heap.size + 1, W2.heap.size)], by omega, by rw [Int.natCast_add]; rfl, HRP.out _, Lib.hid HP.out.inv⟩
        · simp only [pick_lit, List.filterMap_cons, List.filterMap_nil, List.getElem?_cons_zero, List.getElem?_cons_succ, AtOps]
          go_simp
          refine hK.out _ _ ?_ (fun hHeld => ?_)
          focus (first | exact HP.out.cells | exact HP.out.drew.cells | exact (HP.out.next (below_alloc _ _)).cells | exact ((HP.out.next (below_alloc _ _)).next (below_alloc _ _)).cells | exact (HP0.out.next (below_alloc _ _)).cells | exact (HP0.out.next (below_alloc _ _)).drew.cells)
          clear hK K
          try simp only [Act.put, List.setIfInBounds_toArray, List.set_cons_zero, List.set_cons_succ]
          refine wpAnyH_one 9 (fuel := 4) (by kernel_rfl) (by rfl) (fun K hK => ?_)
          simp only [pick_lit, List.filterMap_cons, List.filterMap_nil, List.getElem?_cons_zero, List.getElem?_cons_succ, AtOps]
          go_simp
          (have HP : Hid (PSt (RF A w) w sm L eb e cA cN cC fA fN fC (W1.alloc (.map #[] 0)).drew) := Lib.hid (HP0.out.next (below_alloc _ _)).drew; go_at_call 37; refine (parent_any (inv_below HINV.out HP.out.inv.below) (HP.out.arg HA.out) (HP.out.rel HA.out HR.out) HEI.out).mono ?_; rintro r W2 ⟨rfl, hb2⟩; have HP := Lib.hid (HP.out.next hb2); have HB2 := Lib.hid hb2; clear hb2)
          refine hK.out _ _ ?_ (fun hHeld => ?_)
          focus (first | exact HP.out.cells | exact HP.out.drew.cells | exact (HP.out.next (below_alloc _ _)).cells | exact ((HP.out.next (below_alloc _ _)).next (below_alloc _ _)).cells | exact (HP0.out.next (below_alloc _ _)).cells | exact (HP0.out.next (below_alloc _ _)).drew.cells)
          clear hK K
          try simp only [Act.put, List.setIfInBounds_toArray, List.set_cons_zero, List.set_cons_succ]
          refine wpAnyH_takes (by kernel_rfl) (fun d _ _ _ _ h => by cases d <;> exact h) [18, 20] 2 _ _ _ ?_ _ (by rfl) (by kernel_rfl) ?_ (by assumption) ?_
          rotate_left
          focus
            simp only [pick_lit, List.filterMap_cons, List.filterMap_nil, List.getElem?_cons_zero, List.getElem?_cons_succ]
            (refine Takes.want ?_ (by rfl) (fun w' hw' => ?_) ?_; rotate_left; (focus ((try dsimp only at hw'); go_simp; (first | done | with_reducible rfl))); try simp only [Act.put, List.setIfInBounds_toArray, List.set_cons_zero, List.set_cons_succ])
            (refine Takes.want ?_ (by rfl) (fun w' hw' => ?_) ?_; rotate_left; (focus ((try dsimp only at hw'); go_simp; (first | done | with_reducible rfl))); try simp only [Act.put, List.setIfInBounds_toArray, List.set_cons_zero, List.set_cons_succ])
            exact Takes.done
          refine wpAnyH_one 21 (fuel := 1) (by kernel_rfl) (by rfl) (fun K hK => ?_)
          simp only [pick_lit, List.filterMap_cons, List.filterMap_nil, List.getElem?_cons_zero, List.getElem?_cons_succ, AtOps]
          go_simp
          refine hK.out _ _ ?_ (fun hHeld => ?_)
          focus (first | exact HP.out.cells | exact HP.out.drew.cells | exact (HP.out.next (below_alloc _ _)).cells | exact ((HP.out.next (below_alloc _ _)).next (below_alloc _ _)).cells | exact (HP0.out.next (below_alloc _ _)).cells | exact (HP0.out.next (below_alloc _ _)).drew.cells)
          clear hK K
          try simp only [Act.put, List.setIfInBounds_toArray, List.set_cons_zero, List.set_cons_succ]
          obtain ⟨W5, hrun, hinv⟩ := post_put (l := l) (i := k) (mb := W1.heap.size) (bx := W2.heap.size) (Wx := W2.alloc (.cells #[.int .i64 k, .int .i64 e.Author, .int .i64 e.Group, .int .i64 (parB l k e), .int .i64 e.Quote, .int .i64 e.Who, .string e.Text, .slice fA fN fC, .int .i64 0, .slice none 0 0, .bool false, .map (some W1.heap.size)] 82)) HP0.out HEV.out.fl HFR.out (((below_alloc W1 (.map #[] 0)).drew.trans (HB2.out.mono (below_alloc W1 (.map #[] 0)).size)).trans ((below_alloc W2 _).mono (Nat.le_trans (below_alloc W1 (.map #[] 0)).size HB2.out.size))) ((Below.heap_alloc _ _ _ (Nat.lt_of_lt_of_le (by simp) HB2.out.size)).trans ((HB2.out.block _ (by simp)).trans (heap_alloc_new W1 _))) (heap_alloc_new W2 _) (Nat.le_refl _) (Nat.le_trans (below_alloc W1 (.map #[] 0)).size HB2.out.size)
          have HP := Lib.hid hinv
          clear hinv
          refine wpAnyH_one 22 (fuel := 0) (by kernel_rfl) (by rfl) (fun K hK => ?_)
          simp only [pick_lit, List.filterMap_cons, List.filterMap_nil, List.getElem?_cons_zero, List.getElem?_cons_succ, AtOps]
          go_simp
          refine hK.out _ _ ?_ (fun hHeld => ?_)
          focus (first | exact HP.out.cells | exact HP.out.drew.cells | exact (HP.out.next (below_alloc _ _)).cells | exact ((HP.out.next (below_alloc _ _)).next (below_alloc _ _)).cells | exact (HP0.out.next (below_alloc _ _)).cells | exact (HP0.out.next (below_alloc _ _)).drew.cells)
          clear hK K
          try simp only [Act.put, List.setIfInBounds_toArray, List.set_cons_zero, List.set_cons_succ]
          refine wpAnyH_done (by kernel_rfl) ?_ _
          clear hHeld hrun
          go_wp2_with fail
          go_roundg (gk - 1)
          case measure => omega
          exact ⟨k + 1, L ++ [(vPost l k e, W2.heap.size, W1.heap.size)], by omega, by rw [Int.natCast_add]; rfl, HRP.out _, Lib.hid HP.out.inv⟩
    · obtain rfl : k = n := by omega
      have HLL : Hid (L.length ≤ 1000) := Lib.hid (by
        have h1 := congrArg List.length HL.out
        rw [List.length_map] at h1
        have := vRun_len l k
        omega)
      have HID : Hid ((L.map fun x => x.1.id) = (vRun l k).map fun s => s.id) := Lib.hid (by rw [← HL.out, List.map_map]; rfl)
      obtain ⟨ty, hk1, hk2⟩ := ids_any HI.out (by rw [HID.out]; exact (vRun_ids l k).1) (fun x hx => by
        have hm : x.1.id ∈ L.map fun x => x.1.id := List.mem_map_of_mem hx
        rw [HID.out] at hm
        obtain ⟨s, hs, h2⟩ := List.mem_map.1 hm
        have := (vRun_ids l k).2 s hs
        rw [← h2]
        omega) (by have := HLL.out; omega)
      have HK1 := Lib.hid hk1
      have HK2 := Lib.hid hk2
      clear hk1 hk2 hlt
      go_wp2_with (go_at_call 40; refine HK1.out.mono ?_; rintro r W1 ⟨rfl, rfl⟩)
      refine HK2.out.mono ?_
      rintro r W2 ⟨ia, ic, ib, rfl, hb2, hids, hib⟩
      have HC : Hid (Cst w sm W2.heap.size L ib) := Lib.hid ⟨HI.out.apart, fun x hx => by
          have h1 := HI.out.ne x hx
          have h2 := HI.out.new x hx
          have h3 := hb2.size
          exact ⟨h1.1, h1.2, h2.1, h2.2.1, by omega, by omega⟩, ⟨HI.out.smn, Nat.lt_of_lt_of_le HI.out.map.lt hb2.size⟩, fun g hg => by
          have h1 := hib g hg
          have h2 := HI.out.below.size
          exact ⟨by omega, h1.2, fun x hx => by have := HI.out.new x hx; omega⟩, Nat.le_trans HI.out.below.size hb2.size, by rw [HID.out]; exact vRun_nodup l k⟩
      have HI2 : Hid (Inv2 A w sm W2.heap.size L (.slice ia L.length ic) ib none [] [] 0 (.slice none 0 0) W2) := Lib.hid
        ⟨(HI.out.next hb2).below, (HI.out.next hb2).map, hids, fun x hx => (HI.out.next hb2).at_ x (by simpa using hx), ⟨(fun x hx => by cases hx), Or.inl ⟨rfl, rfl, rfl⟩⟩, rfl, (fun i y c _ hc => by cases hc), (fun g hg => by cases hg), (fun d hd => by cases hd), Nat.le_refl _⟩
      clear hb2 hids hib HK1 HK2
      generalize W2.heap.size = B2 at HC HI2
      have hll := HLL.out
      generalize hm : L.length = m at hll HI2 ⊢
      have HM := Lib.hid hm
      clear hm
      go_wp2_with fail
      go_loopg [8, 61] m (fun q ov i W => ∃ (j : Nat) (ob : Option Nat) (Dn : List Nat) (xs : List (List Value)), j + q = m ∧ i = .int .i64 j ∧ Hid (Inv2 A w sm B2 L (.slice ia m ic) ib ob Dn xs j ov W))
      case atStart => exact ⟨0, none, [], [], by omega, rfl, HI2⟩
      case round =>
        obtain ⟨j, ob, Dn, xs, hj, rfl, HJ⟩ := hrel
        by_cases hlt : j < m
        · have hxj : L[j]? = some (L[j]'(by rw [HM.out]; exact hlt)) := List.getElem?_eq_getElem _
          generalize L[j]'(by rw [HM.out]; exact hlt) = x at hxj
          have hxm := List.mem_of_getElem? hxj
          obtain ⟨gi, ci, hiv, hic⟩ := own_int HJ.out.ids (j := j) (k := x.1.id) (by rw [List.getElem?_map, hxj]; rfl)
          injection hiv with hiv hiv2 hiv3
          clear hiv2 hiv3
          subst hiv
          have hlook := HJ.out.map.get Tryz.underlying78 Tryz.underlying3 (k := x.1.id) (v := .pointer (some ⟨x.2.1, 0, none⟩)) (List.mem_map.2 ⟨x, hxm, rfl⟩) (by rw [List.map_map]; exact HC.out.nodup) false
          simp only [Bool.false_eq_true, if_false] at hlook
          have hdr : x ∈ L.drop j := by
            have h1 := List.getElem?_eq_some_iff.1 hxj
            rw [List.drop_eq_getElem_cons h1.1, h1.2]
            exact .head _
          obtain ⟨fl, hfl, hrow, hre, hrin⟩ := HJ.out.at_ x hdr
          obtain ⟨fA, fN, fC, rfl⟩ := relD_slice hfl
          obtain ⟨mb, hmb, hmb2⟩ : ∃ mb : Option Nat, (bif x.1.gone then Value.map none else .map (some x.2.2)) = .map mb ∧ (mb = none ∧ x.1.gone = true ∨ x.1.gone = false ∧ mb = some x.2.2) := by
            cases hg : x.1.gone
            · exact ⟨_, rfl, Or.inr ⟨rfl, rfl⟩⟩
            · exact ⟨_, rfl, Or.inl ⟨rfl, rfl⟩⟩
          rw [hmb] at hrow
          unfold stC at hrow
          have hsml : x.1.fl.length ≤ 1000000 ∧ x.1.re.length ≤ k := by
            have h1 : x.1 ∈ vRun l k := by rw [← HL.out]; exact List.mem_map_of_mem hxm
            exact vRun_small l HFS.out k x.1 h1
          have hxa := HC.out.at_ x hxm
          have hxl := lt_of_block hrow
          obtain ⟨s0, s1, s2, s3, s4, s5, s6, s7, s8, s9, s10, s11⟩ := row12 hrow
          have HX := Lib.hid hxj
          have HROW := Lib.hid hrow
          have HFL := Lib.hid hfl
          have HRE := Lib.hid hre
          have HRIN := Lib.hid hrin
          have HSML := Lib.hid hsml
          have HMB := Lib.hid hmb2
          have HXA := Lib.hid hxa
          have HXL := Lib.hid hxl
          clear hxj hxm hdr hrow hfl hre hrin hsml hmb hmb2 hxa hxl
          go_upto_region 17 with (go_at_call 41; refine (clone_any (inv_below HINV.out HJ.out.below) (fun b hb => Nat.lt_of_lt_of_le (HA.out b hb) HJ.out.below.size) (relD_below HA.out HFL.out HJ.out.below) HSML.out.1).mono ?_; rintro r W1 ⟨cA, cN, cC, b1, rfl, hb1, ho1, hbb1⟩; have hrow := (hb1.block _ HXL.out).trans HROW.out; have f7 := frz hrow 7; obtain ⟨q0, q1, q2, q3, q4, q5, q6, q7, q8, q9, q10, q11⟩ := row12 hrow; have HB1 := Lib.hid hb1; have HO1 := Lib.hid ho1; have HBB1 := Lib.hid hbb1; have HROW1 := Lib.hid hrow; clear hb1 ho1 hbb1 hrow)
          clear q0 q1 q2 q3 q4 q5 q6 q7 q8 q9 q10 q11 s0 s1 s2 s3 s4 s5 s6 s7 s8 s9 s10 s11 f7 hic hlook
          have hrow2 := setCell_row (i := 7) HROW1.out (.slice cA cN cC)
          have hch : Chg (fun k => k = x.2.1) W1 (W1.setCell ⟨x.2.1, 7, none⟩ (.slice cA cN cC)) := Chg.set W1 x.2.1 7 _ rfl
          obtain ⟨W2, hW2⟩ : ∃ X, W1.setCell ⟨x.2.1, 7, none⟩ (.slice cA cN cC) = X := ⟨_, rfl⟩
          rw [hW2] at hrow2 hch ⊢
          clear hW2
          have HCH2 := Lib.hid hch
          have HROW2 := Lib.hid hrow2
          obtain ⟨s0, s1, s2, s3, s4, s5, s6, s7, s8, s9, s10, s11⟩ := row12 hrow2
          clear hrow2 hch
          have HINV2 : Hid (Inv W2) := Lib.hid (HINV.out.keep fun b hb => by
            have h1 := HINV.out.lt hb
            have h2 := HJ.out.below.size
            have h3 := HXA.out
            have h4 := HB1.out.size
            rw [HCH2.out.block b (by omega) (show ¬ b = x.2.1 by omega), HB1.out.block b (by omega)]
            exact HJ.out.below.block b h1)
          have HMB2 : Hid (mb = none ∧ x.1.gone = true ∨ x.1.gone = false ∧ ∃ rb ents clock, mb = some rb ∧ W2.heap[rb]? = some (.map ents clock) ∧ MapKept.Stamped ents clock ∧ KeysAre ents x.1.re) := Lib.hid (by
            rcases HMB.out with h | ⟨h1, h2⟩
            · exact Or.inl h
            · obtain ⟨ents, clock, h3, h4⟩ := HRE.out h1
              have hlr := lt_of_block h3
              have hne : x.2.2 ≠ x.2.1 := fun e => by rw [e, HROW.out] at h3; cases h3
              refine Or.inr ⟨h1, x.2.2, ents, clock, h2, ?_, h4⟩
              rw [HCH2.out.block x.2.2 (Nat.lt_of_lt_of_le hlr HB1.out.size) hne, HB1.out.block _ hlr]
              exact h3)
          go_upto_region 18 with (first
            | (go_at_call 43; refine (keysM_any mb W2).mono ?_; rintro r W3 ⟨rfl, rfl⟩)
            | (go_at_call 42; refine (reacts_any x.1 (by have := HSML.out.2; omega) HRIN.out W2 HINV2.out mb HMB2.out).mono ?_; rintro r W4 ⟨eA, eN, eC, b2, rfl, hb2, ho2, hbb2⟩; have hrow4 := (hb2.block _ (lt_of_block HROW2.out)).trans HROW2.out; have f9 := frz hrow4 9; obtain ⟨q0, q1, q2, q3, q4, q5, q6, q7, q8, q9, q10, q11⟩ := row12 hrow4; have HB4 := Lib.hid hb2; have HO2 := Lib.hid ho2; have HBB2 := Lib.hid hbb2; have HROW4 := Lib.hid hrow4; clear hb2 ho2 hbb2 hrow4))
          clear q0 q1 q2 q3 q4 q5 q6 q7 q8 q9 q10 q11 s0 s1 s2 s3 s4 s5 s6 s7 s8 s9 s10 s11 f9
          have hrow5 := setCell_row (i := 9) HROW4.out (.slice eA eN eC)
          have hch : Chg (fun k => k = x.2.1) W4 (W4.setCell ⟨x.2.1, 9, none⟩ (.slice eA eN eC)) := Chg.set W4 x.2.1 9 _ rfl
          obtain ⟨W5, hW5⟩ : ∃ X, W4.setCell ⟨x.2.1, 9, none⟩ (.slice eA eN eC) = X := ⟨_, rfl⟩
          rw [hW5] at hrow5 hch ⊢
          clear hW5
          have HCH5 := Lib.hid hch
          have HT5 : Hid (Chg (fun k => k = x.2.1) W1 W5) := Lib.hid (HCH2.out.trans ((Chg.of_below HB4.out).trans hch))
          obtain ⟨s0, s1, s2, s3, s4, s5, s6, s7, s8, s9, s10, s11⟩ := row12 hrow5
          obtain ⟨i0, hi0, hz0, hz1, hz2⟩ := info_parts infoM
          have hrw : VRow (W5.alloc (.cells #[.int .i64 x.1.id, .int .i64 x.1.au, .int .i64 x.1.gr, .int .i64 x.1.pa, .int .i64 x.1.qu, .int .i64 x.1.wh, .string x.1.tx, .slice cA cN cC, .int .i64 x.1.ed, .slice eA eN eC, .bool x.1.gone] 43)) 43 11 u8 xs ob := HJ.out.row.kept fun g hg => by
            have h1 := HJ.out.ob g hg
            have h2 := HXA.out
            have h3 := HB1.out.size
            have h4 := HT5.out.size
            rw [Below.heap_alloc _ _ _ (by omega), HT5.out.block g (by omega) (show ¬ g = x.2.1 by omega)]
            exact HB1.out.block g h1.2.1
          obtain ⟨ov', W6, ob', hrun, hrow6, ho6, ht6, hu6, hs6, hk6, gg, hg6, hg6', Cc, hov⟩ := vrow_append (P := Tryz.prog) (t := 39) Tryz.underlying39 hi0 hz0 hz1 rfl (by rw [hz2]; decide) (by decide) hrw (by rw [HJ.out.len]; omega) (c := 1) (x := msgL x.1 (.slice cA cN cC) (.slice eA eN eC)) rfl (by intro u hu; simp only [msgL, List.mem_cons, List.not_mem_nil, or_false] at hu; rcases hu with rfl | rfl | rfl | rfl | rfl | rfl | rfl | rfl | rfl | rfl | rfl <;> rfl) (vcells _ _ _ _ _ _ _ _ _ _ _ _)
          subst hov
          have HNEW := Lib.hid (round_end HA.out HC.out HJ.out HX.out HB1.out HO1.out HBB1.out HT5.out hch (Nat.le_trans HCH2.out.size HB4.out.size) HO2.out (fun c hc => ⟨Nat.le_trans HCH2.out.size (HBB2.out c hc).1, (HBB2.out c hc).2⟩) hrow6 ho6 ht6 hu6 hs6 hk6 ⟨gg, hg6, hg6'⟩)
          have HRUN := Lib.hid hrun
          clear hrun hrow6 ho6 ht6 hu6 hs6 hk6 hg6 hg6' hrw hrow5 hch hi0 hz0 hz1 hz2
          go_wp2_with (at_builtin; refine wpList_plain rfl (fun K hK => wp_append_run _ (.tmp 88) (.tmp 93) 39 39 rfl _ _ _ _ rfl rfl (HRUN.out _) (hK _ _ ?_)))
          go_roundg (gk - 1)
          case measure => omega
          exact ⟨j + 1, _, _, _, by omega, by rw [Int.natCast_add]; rfl, HNEW⟩
        · obtain rfl : j = m := by omega
          have HFIN : Hid (OwnAt (fun b => A b ∨ b ∈ Dn) wr 11 (((vRun l k).map vOut).map api_Msg.enc) u8 ob) := Lib.hid (by
            have e : ((vRun l k).map vOut).map api_Msg.enc = L.map fun (y : VSt × Nat × Nat) => api_Msg.enc (vOut y.1) := by
              rw [← HL.out, List.map_map, List.map_map]
              rfl
            rw [e]
            refine HJ.out.row.own (by rw [List.length_map, HM.out, HJ.out.len]) (fun e he => ?_) fun i e c he hc q d u hd hu => ?_
            · obtain ⟨y, _, rfl⟩ := List.mem_map.1 he
              rfl
            · rw [List.getElem?_map] at he
              cases hq : L[i]? with
              | none => rw [hq] at he; cases he
              | some y =>
                rw [hq] at he
                injection he with he
                subst he
                exact HJ.out.rel i y c hq hc q d u hd hu)
          go_wp2_with fail
          go_ret
          exact ⟨u8, ob, Dn, rfl, HJ.out.below, HFIN.out, fun g hg => ⟨Nat.le_trans HC.out.le (HJ.out.ob g hg).1, (HJ.out.ob g hg).2⟩, fun d hd => ⟨Nat.le_trans HC.out.le (HJ.out.dn d hd).1, (HJ.out.dn d hd).2⟩⟩
def okEv (e : api_Event) : Bool := decide (e.Files.length ≤ 1000000) && (decide (-9223372036854775808 ≤ e.Author) && (decide (e.Author ≤ 9223372036854775807) && (decide (-9223372036854775808 ≤ e.N) && decide (e.N ≤ 9223372036854775807))))
noncomputable def view_View (events_ : List api_Event) : Option (List api_Msg) := (chkO (decide (events_.length ≤ 1000) && events_.all okEv)).bind fun _ => some ((vRun events_ events_.length).map vOut)
theorem view_View_fn {events_ : List api_Event} {r : List api_Msg} (h : view_View events_ = some r) : Fn False Tryz.prog 12 [VF (List.map api_Event.enc events_)] (VF (List.map api_Msg.enc r)) := by
  unfold view_View at h
  cases hc : (decide (events_.length ≤ 1000) && events_.all okEv)
  · rw [hc] at h; cases h
  rw [hc] at h
  injection h with h
  subst h
  rw [Bool.and_eq_true, List.all_eq_true] at hc
  obtain ⟨h1, h2⟩ := hc
  have h3 : ∀ e ∈ events_, e.Files.length ≤ 1000000 ∧ -9223372036854775808 ≤ e.Author ∧ e.Author ≤ 9223372036854775807 ∧ -9223372036854775808 ≤ e.N ∧ e.N ≤ 9223372036854775807 := fun e he => by
    have := h2 e he
    simpa only [okEv, Bool.and_eq_true, decide_eq_true_eq] using this
  refine ⟨Tryz.call12, fun w A vals hI hA hrel => ?_⟩
  obtain ⟨sl, vs', hvs, hsl, hnil⟩ := hrel.cons_inv
  have := hnil.nil_inv
  subst this
  have hvals : vals = #[sl] := by apply Array.ext'; simpa using hvs
  subst hvals
  have hsl : RelD A w (.fz (events_.map api_Event.enc)) sl := by
    cases hsl with
    | d h => exact h
  obtain ⟨a, c, rfl, _⟩ := ev_slice hsl
  refine (view_walk A w hI events_ a c hA hsl (of_decide_eq_true h1) (fun e he => ⟨wf_of (h3 e he).2.1 (h3 e he).2.2.1, wf_of (h3 e he).2.2.2.1 (h3 e he).2.2.2.2⟩) fun e he => (h3 e he).1).mono ?_
  rintro r w' ⟨v, b, Dn, rfl, hb, ho, hg, hd⟩
  refine ⟨v, fun q => (A q ∨ q ∈ Dn) ∨ b = some q, [none], rfl, ⟨hb, fun h => h.elim⟩, fun q hq => ?_, ⟨none, rfl, own_relD ho (fun _ h => Or.inl h) (fun _ h => Or.inr h), rfl⟩, by simp [Apart], fun q hq => ?_⟩
  · rcases hq with (hq | hq) | hq
    · exact ⟨Nat.lt_of_lt_of_le (hA q hq) hb.size, Or.inl hq⟩
    · exact ⟨(hd q hq).2, Or.inr (hd q hq).1⟩
    · exact ⟨(hg q hq).2.1, Or.inr (hg q hq).1⟩
  · have hq := List.mem_singleton.1 hq
    cases hq
end Go.Proofs.YtljdbikodogeiaaGreatDoor

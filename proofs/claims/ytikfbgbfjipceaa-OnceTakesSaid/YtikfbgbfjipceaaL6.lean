/-
  The walk of OnceDrops.
-/
import Derived.Test.YtikfbgbfjipceaaC3
import Derived.Test.YtikfbgbfjipceaaPg
import Derived.Test.YtikfbgbfjipceaaL5
import Derived.Deep.AppendLies
namespace Go.Proofs.Ytikfbgbfjipceaa
open Go.RowKit
def pairU (x : Rg) : List Value := [.int .u16 x.1, .int .u16 x.2]
theorem pairU_len (l : List Rg) : (l.flatMap pairU).length = l.length * 2 := flat_len _ 2 (fun _ => rfl) l
theorem Sl.pairU {w : World} {A : Option Addr} {n : Nat} {rs : List Rg} (h : Sl w A n 2 (rs.flatMap pairU)) (i : Nat) (hi : i < n) : ∃ (b o : Nat) (x : Rg), A = some ⟨b, o, none⟩ ∧ b < w.heap.size ∧ rs[i]? = some x ∧
    w.cell? ⟨b, o + i * 2, none⟩ = some (.int .u16 x.1) ∧ w.cell? ⟨b, o + i * 2 + 1, none⟩ = some (.int .u16 x.2) := by
  have hl : rs.length = n := by have := h.1; rw [pairU_len] at this; omega
  obtain ⟨b, o, e, hlt, hc⟩ := h.2 (by omega)
  have hi' : i < rs.length := by omega
  refine ⟨b, o, rs[i], e, hlt, List.getElem?_eq_getElem hi', ?_, ?_⟩
  · exact hc (i * 2 + 0) _ (flat_get Ytikfbgbfjipceaa.pairU 2 (fun _ => rfl) rs i 0 hi' (by omega))
  · exact hc (i * 2 + 1) _ (flat_get Ytikfbgbfjipceaa.pairU 2 (fun _ => rfl) rs i 1 hi' (by omega))
/-- the variable l while its ranges are appended -/
structure DpSt (w : World) (g : Nat) (low : Int) (v : Value) (xs : List Rg) (W : World) : Prop where
  blk : W.heap[g]? = some (.cells #[.int .i64 low, v] 25 (0, 0))
  own : W.ownsRow (g + 1) 46 2 v xs.length (xs.flatMap pairC)
  up : w.heap.size ≤ g
  bel : Below w.heap.size w W
section
variable {w W W' : World} {g : Nat} {low : Int} {v : Value} {xs : List Rg}
theorem DpSt.lt (h : DpSt w g low v xs W) : g < W.heap.size := lt_of_block h.blk
theorem DpSt.c0 (h : DpSt w g low v xs W) : W.cell? ⟨g, 0, none⟩ = some (.int .i64 low) := by rw [cell_of_row _ _ _ _ 25 (0, 0) h.blk]; rfl
theorem DpSt.c1 (h : DpSt w g low v xs W) : W.cell? ⟨g, 1, none⟩ = some v := by rw [cell_of_row _ _ _ _ 25 (0, 0) h.blk]; rfl
theorem DpSt.f (h : DpSt w g low v xs W) (i : Nat) : W.frozen? ⟨g, i, none⟩ = false := by simp [World.frozen?, h.blk]
theorem DpSt.next (h : DpSt w g low v xs W) (hb : Below W.heap.size W W') : DpSt w g low v xs W' := ⟨(hb.block _ h.lt).trans h.blk, own_below h.own hb, h.up, bt h.bel hb⟩
theorem DpSt.ne (h : DpSt w g low v xs W) {b : Nat} (hb : b ≤ g) : v.ownBlock ≠ some b := fun e => by have := (h.own.lt _ e).1; omega
theorem DpSt.start {w1 : World} (hb : Below w.heap.size w w1) (low : Int) : DpSt w w1.heap.size low (.slice none 0 0) [] (w1.alloc (.cells #[.int .i64 low, .slice none 0 0] 25)) :=
  ⟨heap_alloc_new w1 _, World.ownsRow_nil _ _ _ _, hb.size, ba hb _⟩
theorem DpSt.app {cap gg k : Nat} {x : Rg} (h : DpSt w g low v xs W) (hk : xs.length = k) (hg : W.grownBy W' v.ownBlock) (ho : W'.ownsRow (g + 1) 46 2 (.slice (some ⟨gg, 0, none⟩) (k + 1) cap) (k + 1) (xs.flatMap pairC ++ [.int .i64 x.1, .int .i64 x.2])) :
    DpSt w g low (.slice (some ⟨gg, 0, none⟩) (k + 1) cap) (xs ++ [x]) (W'.setCell ⟨g, 1, none⟩ (.slice (some ⟨gg, 0, none⟩) (k + 1) cap)) := by
  have hblk : W'.heap[g]? = some (.cells #[.int .i64 low, v] 25 (0, 0)) := (hg.block _ h.lt (Ne.symm (h.ne (Nat.le_refl _)))).trans h.blk
  have hne : (Value.slice (some ⟨gg, 0, none⟩) (k + 1) cap).ownBlock ≠ some g := fun e => by have := (ho.lt _ e).1; omega
  refine ⟨set_blk hblk _, ?_, h.up, (h.bel.grown hg h.bel.size (fun k hk => by have := (h.own.lt k hk).1; have := h.up; omega)).setCell (by exact h.up) _⟩
  have := ownsRow_setCell_other ho (a := ⟨g, 1, none⟩) hne (.slice (some ⟨gg, 0, none⟩) (k + 1) cap)
  rw [List.length_append, hk]
  simpa [List.flatMap_append, pairC] using this
end
theorem info46' : (Try.prog.info? 46).map (fun i => (i.zero, i.size, i.bytes)) = some (some (.agg #[.int .i64 0, .int .i64 0]), 2, 16) := by kernel_rfl
theorem floor_v (low : Int) (A : Option Addr) (n c : Nat) (rs : List Rg) (w : World) (hr : rightB low rs = true) (hS : Sl w A n 2 (rs.flatMap pairC)) (hn : n ≤ 9223372036854775807) :
    Calls Try.prog 15 #[.agg #[.int .i64 low, .slice A n c]] w fun e w' => e = .returned (.int .i64 low) ∧ Below w.heap.size w w' := by
  have := floor_any low A n c rs w hS hn
  rw [hr, if_pos rfl] at this
  exact this
theorem right_v (low : Int) (A : Option Addr) (n c : Nat) (rs : List Rg) (w : World) (v : Bool) (hv : rightB low rs = v) (hS : Sl w A n 2 (rs.flatMap pairC)) (hn : n ≤ 9223372036854775807) :
    Calls Try.prog 12 #[.agg #[.int .i64 low, .slice A n c]] w fun e w' => e = .returned (.bool v) ∧ Below w.heap.size w w' := by
  rw [← hv]; exact right_any low A n c rs w hS hn
theorem DpSt.tv {w W : World} {g : Nat} {low : Int} {v : Value} {xs : List Rg} (h : DpSt w g low v xs W) : ∃ A c, v = .slice A xs.length c ∧ Tv W g low xs A xs.length c := by
  obtain ⟨A, c, e, hs, _⟩ := Sl.of_own h.own
  subst e
  refine ⟨A, c, rfl, h.blk, hs, fun hA => ?_⟩
  subst hA
  rcases h.own.2 with ⟨e, e2⟩ | ⟨gg, cap, cur, e, _⟩
  · injection e with _ e1 e3
    exact ⟨e1, e3⟩
  · injection e with e1
    cases e1
/-- the four variables at the end -/
structure Dr4 (w : World) (g ga gb gc : Nat) (low : Int) (rs : List Rg) (A : Option Addr) (n c : Nat) (la : Int) (ra : List Rg) (Aa : Option Addr) (na ca : Nat) (lb : Int) (rb : List Rg) (Ab : Option Addr) (nb cb : Nat) (lc : Int) (rc : List Rg) (Ac : Option Addr) (nc cc : Nat) (W : World) : Prop where
  t0 : Tv W g low rs A n c
  ta : Tv W ga la ra Aa na ca
  tb : Tv W gb lb rb Ab nb cb
  tc : Tv W gc lc rc Ac nc cc
  bel : Below w.heap.size w W
section
variable {w : World} {g ga gb gc : Nat} {low : Int} {rs : List Rg} {A : Option Addr} {n c : Nat} {la : Int} {ra : List Rg} {Aa : Option Addr} {na ca : Nat} {lb : Int} {rb : List Rg} {Ab : Option Addr} {nb cb : Nat} {lc : Int} {rc : List Rg} {Ac : Option Addr} {nc cc : Nat} {W W' : World}
theorem Dr4.next (h : Dr4 w g ga gb gc low rs A n c la ra Aa na ca lb rb Ab nb cb lc rc Ac nc cc W) (hb : Below W.heap.size W W') : Dr4 w g ga gb gc low rs A n c la ra Aa na ca lb rb Ab nb cb lc rc Ac nc cc W' := ⟨h.t0.next hb, h.ta.next hb, h.tb.next hb, h.tc.next hb, bt h.bel hb⟩
theorem Dr4.drew (h : Dr4 w g ga gb gc low rs A n c la ra Aa na ca lb rb Ab nb cb lc rc Ac nc cc W) : Dr4 w g ga gb gc low rs A n c la ra Aa na ca lb rb Ab nb cb lc rc Ac nc cc W.drew := h.next (bd (n := 1) (Below.refl _ _))
theorem Dr4.cells (h : Dr4 w g ga gb gc low rs A n c la ra Aa na ca lb rb Ab nb cb lc rc Ac nc cc W) : W.cell? ⟨g, 0, none⟩ = some (.int .i64 low) ∧ W.cell? ⟨g, 1, none⟩ = some (.slice A n c) ∧ W.cell? ⟨ga, 0, none⟩ = some (.int .i64 la) ∧ W.cell? ⟨ga, 1, none⟩ = some (.slice Aa na ca) ∧ W.cell? ⟨gb, 0, none⟩ = some (.int .i64 lb) ∧ W.cell? ⟨gb, 1, none⟩ = some (.slice Ab nb cb) ∧ W.cell? ⟨gc, 0, none⟩ = some (.int .i64 lc) ∧ W.cell? ⟨gc, 1, none⟩ = some (.slice Ac nc cc) := ⟨h.t0.c0, h.t0.c1, h.ta.c0, h.ta.c1, h.tb.c0, h.tb.c1, h.tc.c0, h.tc.c1⟩
end
set_option maxRecDepth 100000 in
set_option maxHeartbeats 8000000 in
theorem drops_any (low x most more p : Int) (A : Option Addr) (n c : Nat) (rs : List Rg) (w : World) (hS : Sl w A n 2 (rs.flatMap pairU)) (hn : n ≤ 9223372036854775807) (hl : ∀ r ∈ rs, 0 ≤ r.1 ∧ r.1 < 65536 ∧ 0 ≤ r.2 ∧ r.2 < 65536)
    (hlow : 0 ≤ low) (hlow2 : low < 65536) (hx : 0 ≤ x) (hx2 : x < 65536) (hm : 0 ≤ most) (hm2 : most < 256) (hr : 0 ≤ more) (hr2 : more < 256) (hp : 0 ≤ p) (hp2 : p < 65536) :
    Calls Try.prog 6 #[.int .u16 low, .slice A n c, .int .u16 x, .int .u8 most, .int .u8 more, .int .u16 p] w fun e w' => e = .returned (.bool true) ∧ Below w.heap.size w w' := by
  have hlen : rs.length = n := by have := hS.1; rw [pairU_len] at this; omega
  have HL := Lib.hid hlen
  have HV := Lib.hid hl
  clear hlen hl
  obtain ⟨i0, hi0, hz0, hz1, hz2⟩ := info_parts info46'
  go_enter Try.func6, Try.ntmps6
  go_wp2_with fail
  refine (small_any _).mono ?_
  rintro e w1 ⟨rfl, hb1⟩
  have HB1 := Lib.hid hb1
  clear hb1
  by_cases h40 : 40 < n
  · go_wp2_with fail
    exact bodyPost_ret (v := .bool true) (by simp [results, Try.results6]) rfl ⟨rfl, HB1.out⟩
  · have hwl : IntKind.i64.wrap low = low := IntWalk.i64_in low (by omega)
    go_wp2_with fail
    have HST0 := Lib.hid (DpSt.start HB1.out low)
    clear HB1
    generalize w1.alloc (.cells #[.int .i64 low, .slice none 0 0] 25) = W0 at *
    generalize w1.heap.size = g at *
    go_loopg [15] n (fun q i W => ∃ k : Nat, k + q = n ∧ i = .int .i64 k ∧ ∃ v, DpSt w g low v (rs.take k) W)
    case atStart => exact ⟨0, by omega, rfl, _, HST0.out⟩
    case round =>
      obtain ⟨k, hk, rfl, v, hst⟩ := hrel
      by_cases hlt : k < n
      · obtain ⟨b, o, y, rfl, hbk, hX, hc0, hc1⟩ := (hS.below hst.bel).pairU k hlt
        obtain ⟨b', _, _, e1, hbw, _⟩ := hS.pairU k hlt
        injection e1 with e1
        injection e1 with e1 e2
        subst e1; subst e2
        have hyb := HV.out y (List.mem_of_getElem? hX)
        obtain ⟨hy0, hy1, hy2, hy3⟩ := hyb
        have hwy1 : IntKind.i64.wrap y.1 = y.1 := IntWalk.i64_in _ (by omega)
        have hwy2 : IntKind.i64.wrap y.2 = y.2 := IntWalk.i64_in _ (by omega)
        have hkl : (rs.take k).length = k := by rw [List.length_take, HL.out]; omega
        have hnx : rs.take (k + 1) = rs.take k ++ [y] := take_snocR hX
        have hg1 := hst.c1
        have hgf := hst.f 1
        have hlg := hst.lt
        have hup := hst.up
        have HNB := Lib.hid (hst.ne (b := b) (by omega))
        have HNG := Lib.hid (hst.ne (b := g) (by omega))
        have HO : Hid (wr.ownsRow (g + 1) 46 2 v k ((rs.take k).flatMap pairC)) := by have := hst.own; rw [hkl] at this; exact this
        have HST := Lib.hid hst
        have HKL := Lib.hid hkl
        have HNX := Lib.hid hnx
        have hi1 : (0 : Int) ≤ (k : Int) := by omega
        have hi2 : (k : Int) < (n : Int) := by omega
        clear hst hkl hnx hX
        go_upto_region 8 with fail
        have hnew := World.new_ne wr ⟨b, o + k * 2, none⟩ hc0
        have hnew2 := World.new_ne wr ⟨g, 1, none⟩ hg1
        go_region_law
          ((refine step_append_lies _ (by rfl) _ _ _ (by rfl) (g + 1) 46 i0 _ 2 16 Try.underlying22 hi0 hz0 hz1 hz2 rfl (by omega) v k ((rs.take k).flatMap pairC) (by rfl) ((HO.out.alloc _).drew)
                ⟨wr.heap.size, 0, none⟩ 1 1 [.int .i64 y.1, .int .i64 y.2] (by rfl) (by rfl) (World.news_of_block (cs := #[.int .i64 y.1, .int .i64 y.2]) (t := 46) (fr := (0, 0)) (heap_alloc_new wr _)) (by simp [Value.oneCell'])
                (by omega) (by unfold maxLen; omega) (by omega) (by simp; omega) (wr.heap.size + 1) (by simp) ?_; intro gg cap w2 hown1 hgrow hat hlt2; have hq1 := (hgrow.cell_far ⟨g, 1, none⟩ (by simp; omega) (Ne.symm HNG.out)); have hq2 := (hgrow.frozen_far ⟨g, 1, none⟩ (by simp; omega) (Ne.symm HNG.out)); have hq3 := (HST.out.next (bd (n := 1) (below_alloc wr (.cells #[.int .i64 y.1, .int .i64 y.2] 46)))).c1; have hq4 := (HST.out.next (bd (n := 1) (below_alloc wr (.cells #[.int .i64 y.1, .int .i64 y.2] 46)))).f 1; have hq5 := hq1.trans hq3; have hq6 := hq2.trans hq4; clear hq1 hq2 hq3 hq4))
        all_goals
          have HN := Lib.hid ((HST.out.next (bd (n := 1) (below_alloc wr (.cells #[.int .i64 y.1, .int .i64 y.2] 46)))).app (x := y) HKL.out hgrow hown1)
          clear hown1 hgrow hat HST HNB HNG hg1 hgf hc0 hc1
          go_wp2_with fail
          go_roundg (gk - 1)
          case measure => omega
          exact ⟨k + 1, by omega, by rw [Int.natCast_add]; rfl, _, by rw [HNX.out]; exact HN.out⟩
      · obtain rfl : k = n := by omega
        have e1 : rs.take k = rs := by rw [← HL.out]; exact List.take_length
        rw [e1] at hst
        obtain ⟨A1, c1, rfl, ht⟩ := hst.tv
        have HBEL := Lib.hid hst.bel
        rw [HL.out] at ht
        rw [HL.out] at hst
        have hq0 := ht.c0
        have hq1 := ht.c1
        have hq2 := ht.lt
        have HT := Lib.hid ht
        have HS := Lib.hid hS
        clear e1 hst ht hS HST0
        cases hrr : rightB low rs
        · have HR := Lib.hid hrr
          clear hrr
          go_wp2_with fail
          refine (right_v low A1 k c1 rs _ false HR.out HT.out.sl (by omega)).mono ?_
          rintro e w2 ⟨rfl, hb2⟩
          have HB2 := Lib.hid (bt HBEL.out hb2)
          clear hb2
          go_wp2_with fail
          exact bodyPost_ret (v := .bool true) (by simp [results, Try.results6]) rfl ⟨rfl, HB2.out⟩
        · have HR := Lib.hid hrr
          have hd := drops_plain low rs x most more p hrr (by rw [HL.out]; omega) hx hx2 hm hr
          obtain ⟨⟨la, ra, oa⟩, hta⟩ : ∃ t, takeP low rs x most = t := ⟨_, rfl⟩
          obtain ⟨⟨lb, rb, ob⟩, htb⟩ : ∃ t, takeP low rs x (most + more) = t := ⟨_, rfl⟩
          obtain ⟨⟨lc, rc, oc⟩, htc⟩ : ∃ t, takeP low rs x 100 = t := ⟨_, rfl⟩
          rw [hta, htb, htc] at hd
          obtain ⟨oa1, ob1, oc1, ra1, rb1, rc1, hle, cb1, ba1, ac1, la1, lb1, lc1⟩ := hd
          simp only at oa1 ob1 oc1 ra1 rb1 rc1 hle cb1 ba1 ac1 la1 lb1 lc1
          rw [HL.out] at la1 lb1 lc1
          obtain rfl : ob = oa := ob1.trans oa1.symm
          obtain rfl : oc = ob := oc1.trans ob1.symm
          have HH : Hid (hasB low rs x = !oc) := by show _ = _; rw [oc1]; simp
          obtain ⟨na, hna⟩ : ∃ na, ra.length = na := ⟨_, rfl⟩
          obtain ⟨nb, hnb⟩ : ∃ nb, rb.length = nb := ⟨_, rfl⟩
          obtain ⟨nc, hnc⟩ : ∃ nc, rc.length = nc := ⟨_, rfl⟩
          rw [hna] at la1
          rw [hnb] at lb1
          rw [hnc] at lc1
          have HTA := Lib.hid hta
          have HTB := Lib.hid htb
          have HTC := Lib.hid htc
          have HNA := Lib.hid hna
          have HNB := Lib.hid hnb
          have HNC := Lib.hid hnc
          have HRA := Lib.hid ra1
          have HRB := Lib.hid rb1
          have HRC := Lib.hid rc1
          have HCB := Lib.hid cb1
          have HBA := Lib.hid ba1
          have HAC := Lib.hid ac1
          clear hrr hta htb htc hna hnb hnc ra1 rb1 rc1 cb1 ba1 ac1 oa1 ob1 oc1
          go_wp2_with fail
          refine (right_v low A1 k c1 rs _ true HR.out HT.out.sl (by omega)).mono ?_
          rintro e w2 ⟨rfl, hb2⟩
          have HB2 := Lib.hid (bt HBEL.out hb2)
          have HU := Lib.hid (HT.out.next hb2)
          clear hb2 HT hq0 hq1 hq2 HBEL
          have hq0 := HU.out.c0
          have hq1 := HU.out.c1
          have hq2 := HU.out.lt
          have hwx : IntKind.i64.wrap x = x := IntWalk.i64_in x (by omega)
          have hwm : IntKind.i64.wrap most = most := IntWalk.i64_in most (by omega)
          have hwr : IntKind.i64.wrap more = more := IntWalk.i64_in more (by omega)
          have hwp : IntKind.i64.wrap p = p := IntWalk.i64_in p (by omega)
          go_wp2_with fail
          refine (take_val low x most A1 k c1 rs _ la ra oc na HTA.out HNA.out HU.out.sl (by omega) HU.out.nil_).mono ?_
          rintro e w3 ⟨Aa, ca, rfl, hS3, hb3, hn3⟩
          have HB3 : Hid (Below w.heap.size w (w3.alloc (.cells #[.int .i64 la, .slice Aa na ca] 25))) := ba (bt HB2.out hb3) _
          have HT := Lib.hid ((HU.out.next hb3).alloc (.cells #[.int .i64 la, .slice Aa na ca] 25))
          have hq3 := (HU.out.next hb3).lt
          have HVA := Lib.hid (Tv.new hS3 hn3 la)
          clear hS3 hb3 hn3 HU HB2 hq0 hq1 hq2
          have hq0 := HT.out.c0
          have hq1 := HT.out.c1
          unfold listV
          go_wp2_with fail
          refine (take_val low x (most + more) A1 k c1 rs _ lb rb oc nb HTB.out HNB.out HT.out.sl (by omega) HT.out.nil_).mono ?_
          rintro e w4 ⟨Ab, cb, rfl, hS4, hb4, hn4⟩
          have HB4 : Hid (Below w.heap.size w (w4.alloc (.cells #[.int .i64 lb, .slice Ab nb cb] 25))) := ba (bt HB3.out hb4) _
          have HU := Lib.hid ((HT.out.next hb4).alloc (.cells #[.int .i64 lb, .slice Ab nb cb] 25))
          have HUA := Lib.hid ((HVA.out.next hb4).alloc (.cells #[.int .i64 lb, .slice Ab nb cb] 25))
          have HVB := Lib.hid (Tv.new hS4 hn4 lb)
          clear hS4 hb4 hn4 HT HB3 HVA hq0 hq1 hq3
          have hq0 := HU.out.c0
          have hq1 := HU.out.c1
          unfold listV
          go_wp2_with fail
          refine (take_val low x 100 A1 k c1 rs _ lc rc oc nc HTC.out HNC.out HU.out.sl (by omega) HU.out.nil_).mono ?_
          rintro e w5 ⟨Ac, cc, rfl, hS5, hb5, hn5⟩
          have HSM : Hid (Dr4 w g w3.heap.size w4.heap.size w5.heap.size low rs A1 k c1 la ra Aa na ca lb rb Ab nb cb lc rc Ac nc cc (w5.alloc (.cells #[.int .i64 lc, .slice Ac nc cc] 25))) :=
            ⟨(HU.out.next hb5).alloc _, (HUA.out.next hb5).alloc _, (HVB.out.next hb5).alloc _, Tv.new hS5 hn5 lc, ba (bt HB4.out hb5) _⟩
          clear hS5 hb5 hn5 HU HB4 HUA HVB hq0 hq1
          unfold listV
          go_upto_region 14 with fail
          generalize w5.alloc (.cells #[.int .i64 lc, .slice Ac nc cc] 25) = W5 at *
          generalize w5.heap.size = gc at *
          generalize w4.heap.size = gb at *
          generalize w3.heap.size = ga at *
          have t1 : (oc != oc) = false := by simp
          have t2 : (oc == !oc) = false := by cases oc <;> rfl
          have t3 : decide (la < lb) = false := by simp; omega
          obtain ⟨hk0, hk1, hk2, hk3, hk4, hk5, hk6, hk7⟩ := HSM.out.cells
          go_cut [109] (fun v W => v = .bool false ∧ Dr4 w g ga gb gc low rs A1 k c1 la ra Aa na ca lb rb Ab nb cb lc rc Ac nc cc W)
          case first =>
            go_region_held3 (fun w' => w'.cell? ⟨g, 0, none⟩ = some (.int .i64 low) ∧ w'.cell? ⟨g, 1, none⟩ = some (.slice A1 k c1) ∧ w'.cell? ⟨ga, 0, none⟩ = some (.int .i64 la) ∧ w'.cell? ⟨ga, 1, none⟩ = some (.slice Aa na ca) ∧ w'.cell? ⟨gb, 0, none⟩ = some (.int .i64 lb) ∧ w'.cell? ⟨gb, 1, none⟩ = some (.slice Ab nb cb) ∧ w'.cell? ⟨gc, 0, none⟩ = some (.int .i64 lc) ∧ w'.cell? ⟨gc, 1, none⟩ = some (.slice Ac nc cc)) (first | with_reducible exact HSM.out.cells | with_reducible exact HSM.out.drew.cells)
              (first | (go_at_call 13; refine (has_v low x _ _ _ rs _ (!oc) HH.out (by first | with_reducible exact HSM.out.t0.sl | with_reducible exact HSM.out.drew.t0.sl) (by omega)).mono ?_; rintro e wn ⟨rfl, hbn⟩; have HSX : Hid (Dr4 w g ga gb gc low rs A1 k c1 la ra Aa na ca lb rb Ab nb cb lc rc Ac nc cc wn) := Dr4.next (by first | with_reducible exact HSM.out | with_reducible exact HSM.out.drew) hbn; clear HSM; have HSM := Lib.hid HSX.out; clear HSX; clear hk0 hk1 hk2 hk3 hk4 hk5 hk6 hk7; obtain ⟨hk0, hk1, hk2, hk3, hk4, hk5, hk6, hk7⟩ := HSM.out.cells; clear hbn) | (go_at_call 15; (first | with_reducible refine (floor_v la _ _ _ ra _ HRA.out (by first | with_reducible exact HSM.out.ta.sl | with_reducible exact HSM.out.drew.ta.sl) (by omega)).mono ?_ | with_reducible refine (floor_v lb _ _ _ rb _ HRB.out (by first | with_reducible exact HSM.out.tb.sl | with_reducible exact HSM.out.drew.tb.sl) (by omega)).mono ?_); rintro e wn ⟨rfl, hbn⟩; have HSX : Hid (Dr4 w g ga gb gc low rs A1 k c1 la ra Aa na ca lb rb Ab nb cb lc rc Ac nc cc wn) := Dr4.next (by first | with_reducible exact HSM.out | with_reducible exact HSM.out.drew) hbn; clear HSM; have HSM := Lib.hid HSX.out; clear HSX; clear hk0 hk1 hk2 hk3 hk4 hk5 hk6 hk7; obtain ⟨hk0, hk1, hk2, hk3, hk4, hk5, hk6, hk7⟩ := HSM.out.cells; clear hbn))
            all_goals (go_wp2_with fail; go_meet; exact ⟨rfl, HSM.out⟩)
          case rest =>
            obtain ⟨rfl, hsm⟩ := hcut
            clear HSM hk0 hk1 hk2 hk3 hk4 hk5 hk6 hk7 t1 t2 t3
            have HSM := Lib.hid hsm
            clear hsm
            obtain ⟨hk0, hk1, hk2, hk3, hk4, hk5, hk6, hk7⟩ := HSM.out.cells
            obtain ⟨va, hva⟩ : ∃ v, hasB la ra p = v := ⟨_, rfl⟩
            obtain ⟨vb, hvb⟩ : ∃ v, hasB lb rb p = v := ⟨_, rfl⟩
            obtain ⟨vc, hvc⟩ : ∃ v, hasB lc rc p = v := ⟨_, rfl⟩
            have hcase : (va = true ∧ vb = true ∧ vc = true) ∨ (va = true ∧ vb = true ∧ vc = false ∧ p < la) ∨ (va = true ∧ vb = false ∧ vc = false ∧ p < la) ∨ (va = false ∧ vb = false ∧ vc = false) := by
              have h1 := HCB.out
              have h2 := HBA.out
              have h3 := HAC.out
              rw [hva] at h2 h3
              rw [hvb] at h1 h2
              rw [hvc] at h1 h3
              cases va <;> cases vb <;> cases vc <;> simp at h1 h2 h3 ⊢ <;> exact h3
            have HVA := Lib.hid hva
            have HVB := Lib.hid hvb
            have HVC := Lib.hid hvc
            clear hva hvb hvc
            rcases hcase with ⟨rfl, rfl, rfl⟩ | ⟨rfl, rfl, rfl, hpl⟩ | ⟨rfl, rfl, rfl, hpl⟩ | ⟨rfl, rfl, rfl⟩
            all_goals
              go_wp2_with (first | (go_at_call 13; (first | with_reducible refine (has_v la p Aa na ca ra _ _ HVA.out HSM.out.ta.sl (by omega)).mono ?_ | with_reducible refine (has_v lb p Ab nb cb rb _ _ HVB.out HSM.out.tb.sl (by omega)).mono ?_ | with_reducible refine (has_v lc p Ac nc cc rc _ _ HVC.out HSM.out.tc.sl (by omega)).mono ?_); rintro e wn ⟨rfl, hbn⟩; have HSX : Hid (Dr4 w g ga gb gc low rs A1 k c1 la ra Aa na ca lb rb Ab nb cb lc rc Ac nc cc wn) := HSM.out.next hbn; clear HSM; have HSM := Lib.hid HSX.out; clear HSX; clear hk0 hk1 hk2 hk3 hk4 hk5 hk6 hk7; obtain ⟨hk0, hk1, hk2, hk3, hk4, hk5, hk6, hk7⟩ := HSM.out.cells; clear hbn) | (go_at_call 15; refine (floor_v la _ _ _ ra _ HRA.out HSM.out.ta.sl (by omega)).mono ?_; rintro e wn ⟨rfl, hbn⟩; have HSX : Hid (Dr4 w g ga gb gc low rs A1 k c1 la ra Aa na ca lb rb Ab nb cb lc rc Ac nc cc wn) := HSM.out.next hbn; clear HSM; have HSM := Lib.hid HSX.out; clear HSX; clear hk0 hk1 hk2 hk3 hk4 hk5 hk6 hk7; obtain ⟨hk0, hk1, hk2, hk3, hk4, hk5, hk6, hk7⟩ := HSM.out.cells; clear hbn))
              exact bodyPost_ret (v := .bool true) (by simp [results, Try.results6]) rfl ⟨rfl, HSM.out.bel⟩
end Go.Proofs.Ytikfbgbfjipceaa

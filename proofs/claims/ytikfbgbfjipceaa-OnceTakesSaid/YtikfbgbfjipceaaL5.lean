/-
  The walk of OnceOrder.
-/
import Derived.Test.YtikfbgbfjipceaaC3
import Derived.Test.YtikfbgbfjipceaaPf
namespace Go.Proofs.Ytikfbgbfjipceaa
open Go.RowKit
/-- the three variables -/
structure OrSt (w : World) (g1 g2 g3 : Nat) (a b : Int × List Rg) (k : Nat) (W : World) : Prop where
  ta : ∃ A c, Tv W g1 a.1 a.2 A a.2.length c
  tb : ∃ A c, Tv W g2 b.1 b.2 A b.2.length c
  tc : ∃ A c, Tv W g3 k [] A 0 c
  n12 : g1 ≠ g2
  n13 : g1 ≠ g3
  n23 : g2 ≠ g3
  up1 : w.heap.size ≤ g1
  up2 : w.heap.size ≤ g2
  up3 : w.heap.size ≤ g3
  bel : Below w.heap.size w W
theorem OrSt.start {w w1 : World} (hb : Below w.heap.size w w1) :
    OrSt w w1.heap.size (w1.heap.size + 1) (w1.heap.size + 1 + 1) (0, []) (0, []) 0 (((w1.alloc (.cells #[.int .i64 0, .slice none 0 0] 25)).alloc (.cells #[.int .i64 0, .slice none 0 0] 25)).alloc (.cells #[.int .i64 0, .slice none 0 0] 25)) := by
  have hz := hb.size
  have t1 := (Tv.new (c := 0) (sl_nil w1) (fun _ => ⟨rfl, rfl⟩) 0)
  have t2 := (Tv.new (c := 0) (sl_nil (w1.alloc (.cells #[.int .i64 0, .slice none 0 0] 25))) (fun _ => ⟨rfl, rfl⟩) 0)
  have t3 := (Tv.new (c := 0) (sl_nil ((w1.alloc (.cells #[.int .i64 0, .slice none 0 0] 25)).alloc (.cells #[.int .i64 0, .slice none 0 0] 25))) (fun _ => ⟨rfl, rfl⟩) 0)
  rw [show (w1.alloc (.cells #[.int .i64 0, .slice none 0 0] 25)).heap.size = w1.heap.size + 1 by simp] at t2
  rw [show ((w1.alloc (.cells #[.int .i64 0, .slice none 0 0] 25)).alloc (.cells #[.int .i64 0, .slice none 0 0] 25)).heap.size = w1.heap.size + 1 + 1 by simp] at t3
  exact ⟨⟨none, 0, (t1.alloc _).alloc _⟩, ⟨none, 0, t2.alloc _⟩, ⟨none, 0, t3⟩, by omega, by omega, by omega, by omega, by omega, by omega, ba (ba (ba hb _) _) _⟩
section
variable {w W W' : World} {g1 g2 g3 k : Nat} {a b : Int × List Rg}
theorem OrSt.next (h : OrSt w g1 g2 g3 a b k W) (hb : Below W.heap.size W W') : OrSt w g1 g2 g3 a b k W' := by
  obtain ⟨A1, c1, t1⟩ := h.ta
  obtain ⟨A2, c2, t2⟩ := h.tb
  obtain ⟨A3, c3, t3⟩ := h.tc
  exact ⟨⟨_, _, t1.next hb⟩, ⟨_, _, t2.next hb⟩, ⟨_, _, t3.next hb⟩, h.n12, h.n13, h.n23, h.up1, h.up2, h.up3, bt h.bel hb⟩
theorem OrSt.drew (h : OrSt w g1 g2 g3 a b k W) : OrSt w g1 g2 g3 a b k W.drew := h.next (bd (n := 1) (Below.refl _ _))
theorem OrSt.put1 (h : OrSt w g1 g2 g3 a b k W) {A : Option Addr} {c : Nat} {a' : Int × List Rg} (hS : Sl W A a'.2.length 2 (a'.2.flatMap pairC)) (hn : A = none → a'.2.length = 0 ∧ c = 0) :
    OrSt w g1 g2 g3 a' b k ((W.setCell ⟨g1, 0, none⟩ (.int .i64 a'.1)).setCell ⟨g1, 1, none⟩ (.slice A a'.2.length c)) := by
  obtain ⟨A1, c1, t1⟩ := h.ta
  obtain ⟨A2, c2, t2⟩ := h.tb
  obtain ⟨A3, c3, t3⟩ := h.tc
  exact ⟨⟨_, _, t1.put hS hn _⟩, ⟨_, _, t1.keep t2 h.n12.symm _ _⟩, ⟨_, _, t1.keep t3 h.n13.symm _ _⟩, h.n12, h.n13, h.n23, h.up1, h.up2, h.up3, (h.bel.setCell (by exact h.up1) _).setCell (by exact h.up1) _⟩
theorem OrSt.put2 (h : OrSt w g1 g2 g3 a b k W) {A : Option Addr} {c : Nat} {a' : Int × List Rg} (hS : Sl W A a'.2.length 2 (a'.2.flatMap pairC)) (hn : A = none → a'.2.length = 0 ∧ c = 0) :
    OrSt w g1 g2 g3 a a' k ((W.setCell ⟨g2, 0, none⟩ (.int .i64 a'.1)).setCell ⟨g2, 1, none⟩ (.slice A a'.2.length c)) := by
  obtain ⟨A1, c1, t1⟩ := h.ta
  obtain ⟨A2, c2, t2⟩ := h.tb
  obtain ⟨A3, c3, t3⟩ := h.tc
  exact ⟨⟨_, _, t2.keep t1 h.n12 _ _⟩, ⟨_, _, t2.put hS hn _⟩, ⟨_, _, t2.keep t3 h.n23.symm _ _⟩, h.n12, h.n13, h.n23, h.up1, h.up2, h.up3, (h.bel.setCell (by exact h.up2) _).setCell (by exact h.up2) _⟩
theorem OrSt.put3 (h : OrSt w g1 g2 g3 a b k W) {A : Option Addr} {c k' : Nat} (hS : Sl W A 0 2 (List.flatMap pairC [])) (hn : A = none → (0 : Nat) = 0 ∧ c = 0) :
    OrSt w g1 g2 g3 a b k' ((W.setCell ⟨g3, 0, none⟩ (.int .i64 k')).setCell ⟨g3, 1, none⟩ (.slice A 0 c)) := by
  obtain ⟨A1, c1, t1⟩ := h.ta
  obtain ⟨A2, c2, t2⟩ := h.tb
  obtain ⟨A3, c3, t3⟩ := h.tc
  exact ⟨⟨_, _, t3.keep t1 h.n13 _ _⟩, ⟨_, _, t3.keep t2 h.n23 _ _⟩, ⟨_, _, t3.put hS hn _⟩, h.n12, h.n13, h.n23, h.up1, h.up2, h.up3, (h.bel.setCell (by exact h.up3) _).setCell (by exact h.up3) _⟩
end
/-- the three variables at the end -/
structure Or3 (w : World) (g1 g2 g3 : Nat) (a : Int × List Rg) (A1 A2 A3 : Option Addr) (c1 c2 c3 k : Nat) (W : World) : Prop where
  t1 : Tv W g1 a.1 a.2 A1 a.2.length c1
  t2 : Tv W g2 a.1 a.2 A2 a.2.length c2
  t3 : Tv W g3 k [] A3 0 c3
  bel : Below w.heap.size w W
section
variable {w W W' : World} {g1 g2 g3 c1 c2 c3 k : Nat} {a : Int × List Rg} {A1 A2 A3 : Option Addr}
theorem Or3.next (h : Or3 w g1 g2 g3 a A1 A2 A3 c1 c2 c3 k W) (hb : Below W.heap.size W W') : Or3 w g1 g2 g3 a A1 A2 A3 c1 c2 c3 k W' := ⟨h.t1.next hb, h.t2.next hb, h.t3.next hb, bt h.bel hb⟩
theorem Or3.drew (h : Or3 w g1 g2 g3 a A1 A2 A3 c1 c2 c3 k W) : Or3 w g1 g2 g3 a A1 A2 A3 c1 c2 c3 k W.drew := h.next (bd (n := 1) (Below.refl _ _))
theorem Or3.cells (h : Or3 w g1 g2 g3 a A1 A2 A3 c1 c2 c3 k W) : W.cell? ⟨g1, 0, none⟩ = some (.int .i64 a.1) ∧ W.cell? ⟨g1, 1, none⟩ = some (.slice A1 a.2.length c1) ∧ W.cell? ⟨g2, 0, none⟩ = some (.int .i64 a.1) ∧ W.cell? ⟨g2, 1, none⟩ = some (.slice A2 a.2.length c2) ∧ W.cell? ⟨g3, 0, none⟩ = some (.int .i64 k) ∧ W.cell? ⟨g3, 1, none⟩ = some (.slice A3 0 c3) := ⟨h.t1.c0, h.t1.c1, h.t2.c0, h.t2.c1, h.t3.c0, h.t3.c1⟩
end
theorem has_v (low x : Int) (A : Option Addr) (n c : Nat) (rs : List Rg) (w : World) (v : Bool) (hv : hasB low rs x = v) (hS : Sl w A n 2 (rs.flatMap pairC)) (hn : n ≤ 1000000) :
    Calls Try.prog 13 #[.agg #[.int .i64 low, .slice A n c], .int .i64 x] w fun e w' => e = .returned (.bool v) ∧ Below w.heap.size w w' := by
  rw [← hv]; exact has_any low x A n c rs w hS hn
set_option maxRecDepth 100000 in
set_option maxHeartbeats 8000000 in
theorem order_any (A : Option Addr) (n c : Nat) (l : List Int) (b : Nat) (p : Int) (w : World) (hS : Sl w A n 1 (l.map u16C)) (hn : n ≤ 9223372036854775807) (hl : ∀ x ∈ l, 0 ≤ x ∧ x < 65536) (hb : b < 256) (hp : 0 ≤ p) (hp2 : p < 65536) :
    Calls Try.prog 5 #[.slice A n c, .int .u8 b, .int .u16 p] w fun e w' => e = .returned (.bool true) ∧ Below w.heap.size w w' := by
  have hlen : l.length = n := by have := hS.1; simpa using this
  have HL := Lib.hid hlen
  have HV := Lib.hid hl
  clear hlen hl
  go_enter Try.func5, Try.ntmps5
  go_wp2_with fail
  refine (small_any _).mono ?_
  rintro e w1 ⟨rfl, hb1⟩
  have HB1 := Lib.hid hb1
  clear hb1
  by_cases h60 : 60 < n
  · go_wp2_with fail
    exact bodyPost_ret (v := .bool true) (by simp [results, Try.results5]) rfl ⟨rfl, HB1.out⟩
  · go_wp2_with fail
    have HST0 := Lib.hid (OrSt.start HB1.out)
    clear HB1
    generalize ((w1.alloc (.cells #[.int .i64 0, .slice none 0 0] 25)).alloc (.cells #[.int .i64 0, .slice none 0 0] 25)).alloc (.cells #[.int .i64 0, .slice none 0 0] 25) = W0 at *
    generalize w1.heap.size + 1 + 1 = g3 at *
    generalize w1.heap.size + 1 = g2 at *
    generalize w1.heap.size = g1 at *
    go_loopg [11] n (fun q i W => ∃ k : Nat, k + q = n ∧ i = .int .i64 k ∧ OrSt w g1 g2 g3 (tk (l.take k)) (tk ((other l b).take k)) k W)
    case atStart => exact ⟨0, by omega, rfl, by simpa [tk] using HST0.out⟩
    case round =>
      obtain ⟨k, hk, rfl, hst⟩ := hrel
      by_cases hlt : k < n
      · have hS' := hS.below hst.bel
        obtain ⟨bk, o, rfl, hbk0, hc⟩ := hS'.at_ k hlt
        obtain ⟨u, hu, hcell⟩ := hc 0 (by omega)
        simp only [Nat.mul_one, Nat.add_zero, List.getElem?_map, Option.map_eq_some_iff] at hu hcell
        obtain ⟨z, hz, rfl⟩ := hu
        simp only [u16C] at hcell
        have hzb := HV.out z (List.mem_of_getElem? hz)
        have HZ := Lib.hid hz
        clear hz hc hS'
        obtain ⟨A1, c1, ht1⟩ := hst.ta
        have h0 := ht1.c0
        have h1 := ht1.c1
        have hf0 := ht1.f 0
        have hf1 := ht1.f 1
        have HT1 := Lib.hid ht1
        have HST := Lib.hid hst
        clear ht1 hst
        have hwz : IntKind.i64.wrap z = z := IntWalk.i64_in z (by omega)
        have hal : (tk (l.take k)).2.length ≤ 60 := by
          have := (tk_facts (l.take k) (fun x hx => HV.out x (List.mem_of_mem_take hx)) (by rw [List.length_take]; omega)).2.1
          rw [List.length_take] at this
          omega
        have hal2 : (tk ((other l b).take k)).2.length ≤ 60 := by
          have := (tk_facts ((other l b).take k) (fun x hx => HV.out x (by have hm := other_mem l b x; rw [Bool.eq_iff_iff] at hm; simpa using hm.1 (by simpa using List.mem_of_mem_take hx))) (by rw [List.length_take]; omega)).2.1
          rw [List.length_take] at this
          omega
        have HAV2 : Hid (∀ z2, l[n - 1 - (k + b) % n]? = some z2 → tkS (tk ((other l b).take k)) z2 = tk ((other l b).take (k + 1))) := by
          intro z2 hz2
          have hg := other_get l b k (by rw [HL.out]; exact hlt)
          rw [HL.out] at hg
          rw [List.take_add_one, hg, ← tk_snoc]
          simp [List.getD, hz2]
        have HAV : Hid (tkS (tk (l.take k)) z = tk (l.take (k + 1))) := by
          show _ = _
          rw [List.take_add_one, HZ.out, ← tk_snoc]
          rfl
        generalize tk (l.take k) = a at *
        generalize tk ((other l b).take k) = a2 at *
        go_upto_region 10 with fail
        go_cut [] (fun W => OrSt w g1 g2 g3 (tkS a z) a2 k W)
        case first =>
          go_region_with (go_at_call 8; refine (take_any a.1 z 100 A1 a.2.length c1 a.2 _ (HT1.out.next (bd (n := 1) (Below.refl _ _))).sl (by omega) HT1.out.nil_).mono ?_; rintro e w2 ⟨A2, c2, rfl, hS2, hb2, hn2⟩; have HU := Lib.hid (HST.out.drew.next hb2); have HP := Lib.hid (HU.out.put1 (a' := tkS a z) hS2 hn2); have HTN := Lib.hid ((HT1.out.next (bd (n := 1) (Below.refl _ _))).next hb2); have hk0 := HTN.out.f 0; have hk1 := HTN.out.f 1; have hk2 := HTN.out.c0; have hk3 := HTN.out.c1; clear hS2 hb2 hn2 HU HTN; unfold listV)
          all_goals (go_wp2_with fail; go_meet; exact HP.out)
        case rest =>
          clear HST HT1 h0 h1 hf0 hf1 hcell
          have hS' := hS.below hcut.bel
          obtain ⟨r, hr⟩ : ∃ r, r = (k + b) % n := ⟨_, rfl⟩
          have hmod : r < n := by rw [hr]; exact Nat.mod_lt _ (by omega)
          have hrem : ((k : Int) + b).tmod n = (r : Int) := by
            rw [Int.tmod_eq_emod_of_nonneg (by omega), hr, Int.natCast_emod, Int.natCast_add]
          have HR := Lib.hid hr
          clear hr
          obtain ⟨ix, hix⟩ : ∃ ix, ix = n - 1 - r := ⟨_, rfl⟩
          obtain ⟨bk', o', e1, _, hc⟩ := hS'.at_ ix (by omega)
          injection e1 with e1
          injection e1 with e1 e2
          subst e1; subst e2
          obtain ⟨u, hu, hcell⟩ := hc 0 (by omega)
          simp only [Nat.mul_one, Nat.add_zero, List.getElem?_map, Option.map_eq_some_iff] at hu hcell
          obtain ⟨z2, hz2, rfl⟩ := hu
          simp only [u16C] at hcell
          have hzb2 := HV.out z2 (List.mem_of_getElem? hz2)
          have hwz2 : IntKind.i64.wrap z2 = z2 := IntWalk.i64_in z2 (by omega)
          have hw1 : IntKind.i64.wrap ((n : Int) - 1) = (n : Int) - 1 := IntWalk.i64_in _ (by omega)
          have hwb : IntKind.i64.wrap (b : Int) = (b : Int) := IntWalk.i64_in _ (by omega)
          have hw2 : IntKind.i64.wrap ((k : Int) + b) = (k : Int) + b := IntWalk.i64_in _ (by omega)
          have hw3 : IntKind.i64.wrap (r : Int) = (r : Int) := IntWalk.i64_in _ (by omega)
          have hw4 : IntKind.i64.wrap ((n : Int) - 1 - (r : Int)) = (ix : Int) := by rw [IntWalk.i64_in _ (by omega)]; omega
          have hn0 : ((n : Int) == 0) = false := by simp; omega
          have hixn : ix < n := by omega
          obtain ⟨A1, c1, ht1⟩ := hcut.tb
          have h0 := ht1.c0
          have h1 := ht1.c1
          have hf0 := ht1.f 0
          have hf1 := ht1.f 1
          have HT1 := Lib.hid ht1
          have HST := Lib.hid hcut
          have HZ2 := Lib.hid hz2
          have HIX := Lib.hid hix
          clear ht1 hcut hz2 hix hc hS'
          go_upto_region 11 with fail
          go_cut [] (fun W => OrSt w g1 g2 g3 (tkS a z) (tkS a2 z2) k W)
          case first =>
            go_region_with (go_at_call 8; refine (take_any a2.1 z2 100 A1 a2.2.length c1 a2.2 _ (HT1.out.next (bd (n := 1) (Below.refl _ _))).sl (by omega) HT1.out.nil_).mono ?_; rintro e w2 ⟨A2, c2, rfl, hS2, hb2, hn2⟩; have HU := Lib.hid (HST.out.drew.next hb2); have HP := Lib.hid (HU.out.put2 (a' := tkS a2 z2) hS2 hn2); have HTN := Lib.hid ((HT1.out.next (bd (n := 1) (Below.refl _ _))).next hb2); have hk0 := HTN.out.f 0; have hk1 := HTN.out.f 1; have hk2 := HTN.out.c0; have hk3 := HTN.out.c1; clear hS2 hb2 hn2 HU HTN; unfold listV)
            all_goals (go_wp2_with fail; go_meet; exact HP.out)
          case rest =>
            clear HST HT1 h0 h1 hf0 hf1 hcell hw1 hwb hw2 hrem hw3 hw4 hmod hn0 hixn
            obtain ⟨A3, c3, ht3⟩ := hcut.tc
            have h0 := ht3.c0
            have h1 := ht3.c1
            have HT3 := Lib.hid ht3
            have HST := Lib.hid hcut
            clear ht3 hcut
            go_wp2_with fail
            refine (take_val k k 0 A3 0 c3 [] _ ((k : Int) + 1) [] true 0 (take_line k (by omega)) rfl HT3.out.sl (by omega) HT3.out.nil_).mono ?_
            rintro e w2 ⟨A4, c4, rfl, hS2, hb2, hn2⟩
            have HU := Lib.hid (HST.out.next hb2)
            have HP := Lib.hid (HU.out.put3 (k' := k + 1) hS2 hn2)
            have HTN := Lib.hid (HT3.out.next hb2)
            have hk0 := HTN.out.f 0
            have hk1 := HTN.out.f 1
            have hk2 := HTN.out.c0
            have hk3 := HTN.out.c1
            clear hS2 hb2 hn2 HU HTN h0 h1
            unfold listV
            go_wp2_with fail
            go_roundg (gk - 1)
            case measure => omega
            have e2 := HAV2.out z2 (by rw [← HR.out, ← HIX.out]; exact HZ2.out)
            have hp := HP.out
            rw [HAV.out, e2, Int.natCast_add] at hp
            exact ⟨k + 1, by omega, by rw [Int.natCast_add]; rfl, hp⟩
      · obtain rfl : k = n := by omega
        have HX := Lib.hid (order_same l b HV.out (by rw [HL.out]; omega))
        have HY := Lib.hid (order_has l HV.out (by rw [HL.out]; omega) p hp)
        have e1 : l.take k = l := by rw [← HL.out]; exact List.take_length
        have e2 : (other l b).take k = other l b := by rw [← HL.out, ← other_len l b]; exact List.take_length
        have hal := (tk_facts l HV.out (by rw [HL.out]; omega)).2.1
        rw [e1, e2, ← HX.out] at hst
        rw [HL.out] at hal
        clear HX e1 e2
        have hwp : IntKind.i64.wrap p = p := IntWalk.i64_in p (by omega)
        generalize tk l = a at *
        obtain ⟨A1, c1, ht1⟩ := hst.ta
        obtain ⟨A2, c2, ht2⟩ := hst.tb
        obtain ⟨A3, c3, ht3⟩ := hst.tc
        have HT1 := Lib.hid ht1
        have HT2 := Lib.hid ht2
        have HT3 := Lib.hid ht3
        have HSM : Hid (Or3 w g1 g2 g3 a A1 A2 A3 c1 c2 c3 k wr) := ⟨ht1, ht2, ht3, hst.bel⟩
        clear HT1 HT2 HT3 ht1 ht2 ht3 hst
        obtain ⟨hk10, hk11, hk20, hk21, hk30, hk31⟩ := HSM.out.cells
        have HS := Lib.hid hS
        clear hS
        generalize hv : l.contains p = v at HY
        have HVV := Lib.hid hv
        clear hv
        go_upto_region 13 with fail
        go_region_held3 (fun w' => w'.cell? ⟨g1, 0, none⟩ = some (.int .i64 a.1) ∧ w'.cell? ⟨g1, 1, none⟩ = some (.slice A1 a.2.length c1) ∧ w'.cell? ⟨g2, 0, none⟩ = some (.int .i64 a.1) ∧ w'.cell? ⟨g2, 1, none⟩ = some (.slice A2 a.2.length c2) ∧ w'.cell? ⟨g3, 0, none⟩ = some (.int .i64 k) ∧ w'.cell? ⟨g3, 1, none⟩ = some (.slice A3 0 c3)) (first | with_reducible exact HSM.out.cells | with_reducible exact HSM.out.drew.cells)
          (first | (go_at_call 18; refine (list_v _ _ _ _ _).mono ?_; rintro e wn ⟨rfl, hbn⟩; have HSX : Hid (Or3 w g1 g2 g3 a A1 A2 A3 c1 c2 c3 k wn) := Or3.next (by first | with_reducible exact HSM.out | with_reducible exact HSM.out.drew) hbn; clear HSM; have HSM := Lib.hid HSX.out; clear HSX; clear hk10 hk11 hk20 hk21 hk30 hk31; obtain ⟨hk10, hk11, hk20, hk21, hk30, hk31⟩ := HSM.out.cells; clear hbn) | (go_at_call 17; (first | with_reducible refine (same_tt _ _ _ _ _ _ _ _ _ HSM.out.drew.t1.sl HSM.out.drew.t2.sl (by omega) (by omega)).mono ?_ | with_reducible refine (same_tt _ _ _ _ _ _ _ [] _ HSM.out.t3.sl (sl_nil _) (by omega) (by omega)).mono ?_); rintro e wn ⟨rfl, hbn⟩; have HSX : Hid (Or3 w g1 g2 g3 a A1 A2 A3 c1 c2 c3 k wn) := Or3.next (by first | with_reducible exact HSM.out | with_reducible exact HSM.out.drew) hbn; clear HSM; have HSM := Lib.hid HSX.out; clear HSX; clear hk10 hk11 hk20 hk21 hk30 hk31; obtain ⟨hk10, hk11, hk20, hk21, hk30, hk31⟩ := HSM.out.cells; clear hbn) | (go_at_call 13; refine (has_v _ _ _ _ _ _ _ v HY.out HSM.out.t1.sl (by omega)).mono ?_; rintro e wn ⟨rfl, hbn⟩; have HSX : Hid (Or3 w g1 g2 g3 a A1 A2 A3 c1 c2 c3 k wn) := Or3.next (by first | with_reducible exact HSM.out | with_reducible exact HSM.out.drew) hbn; clear HSM; have HSM := Lib.hid HSX.out; clear HSX; clear hk10 hk11 hk20 hk21 hk30 hk31; obtain ⟨hk10, hk11, hk20, hk21, hk30, hk31⟩ := HSM.out.cells; clear hbn) | (go_at_call 16; refine (hasL_any _ _ _ l _ _ (HS.out.below HSM.out.bel) (by omega)).mono ?_; rintro e wn ⟨rfl, rfl⟩; rw [HVV.out]))
        all_goals (go_wp2_with fail; exact bodyPost_ret (v := .bool true) (by simp [results, Try.results5]) rfl ⟨rfl, HSM.out.bel⟩)
end Go.Proofs.Ytikfbgbfjipceaa

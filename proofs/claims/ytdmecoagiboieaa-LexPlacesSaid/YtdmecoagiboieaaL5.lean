/-
  The walk of LexPlaces: for every string the law returns true.
-/
import Derived.Test.YtdmecoagiboieaaC1
import Derived.Test.YtdmecoagiboieaaPe
import Derived.IntWalk
namespace Go.Proofs.Ytdmecoagiboieaa
open Go.RowKit
attribute [local go_sem] byteI extE ext0 extAny
theorem below_drewN5 {B : Nat} {a w : World} (h : Below B a w) {n : Nat} : Below B a (w.drewN n) := ⟨h.os, h.tape, h.output, h.size, h.block⟩

set_option maxRecDepth 100000 in
set_option maxHeartbeats 4000000 in
theorem places_walk (a : ByteArray) (w : World) (ha : a.size ≤ maxLen) :
    Calls Try.prog 5 #[.string a] w fun e w' => e = .returned (.bool true) ∧ Below w.heap.size w w' := by
  obtain ⟨⟨l⟩⟩ := a
  have hl : l.length ≤ 9223372036854775807 := by simpa [maxLen, ByteArray.size] using ha
  clear ha
  have ht : (l.take 900).length ≤ 900 := by simp; omega
  have HT := Lib.hid (lexTop_small _ ht)
  generalize hz : l.take 900 = t at *
  have HZ := Lib.hid hz
  clear hz
  go_enter Try.func5, Try.ntmps5
  go_wp2_with fail
  refine (small_any _).mono ?_
  rintro e w1 ⟨rfl, hb1⟩
  go_wp2_with fail
  refine (cut_any l _ hl).mono ?_
  rintro e w2 ⟨rfl, rfl⟩
  rw [HZ.out]
  go_wp2_with fail
  cases hx : lexP 0 t with
  | err p er =>
    have her := lexP_err_code t 0 p er hx
    have hp : p < t.length := by omega
    have g : (er != 0) = true := by simp; omega
    have HX := Lib.hid (HT.out.trans hx)
    clear hx her
    refine (lex_err t p er _ HX.out (by omega)).mono ?_
    rintro e w3 ⟨rfl, hb3⟩
    go_wp2_with fail
    go_ret
    exact ⟨rfl, bt hb1 hb3⟩
  | toks ts =>
    have hpl := places_ok t _ 0 0 ts rfl (by omega) (Nat.le_refl _) (fun j _ h1 h2 => absurd h2 (by omega)) hx
    have hne : ts ≠ [] := fun h0 => lexP_toks_ne _ _ (h0 ▸ hx)
    have hcnt : ts.length ≤ 901 := by
      obtain ⟨us, rfl, hall, hsum⟩ := lexP_shape t 0 ts hx
      have hcnt : ∀ us : List Tok, (∀ t ∈ us, TokOk t) → us.length ≤ (us.map (fun t => t.text.length)).sum := by
        intro us
        induction us with
        | nil => simp
        | cons a us ih =>
          intro hall
          have h0 := nextP_len (hall a (by simp))
          have := ih (fun t ht => hall t (List.mem_cons_of_mem _ ht))
          simp only [List.length_cons, List.map_cons, List.sum_cons] at this ⊢
          omega
      have := hcnt us hall
      simp
      omega
    have hn0 : 0 < ts.length := List.length_pos_iff.2 hne
    have HX := Lib.hid (HT.out.trans hx)
    have HPL := Lib.hid hpl
    clear hx hpl hne
    refine (lex_ok t ts _ HX.out (by omega)).mono ?_
    rintro e w3 ⟨A, c, rfl, hS, hb3⟩
    go_wp2_with fail
    go_loopw [8, 9] (fun e i wr => ∃ k E : Nat, k ≤ ts.length ∧ i = .int .i64 k ∧ e = .int .i64 E ∧ E ≤ t.length ∧ Hid (placesP t E (ts.drop k)) ∧ Below w3.heap.size w3 wr) (fun _ i _ => ts.length - (intOf i).toNat)
    case atStart => exact ⟨0, 0, by omega, rfl, rfl, by omega, HPL, Below.refl _ _⟩
    case round =>
      obtain ⟨k, E, hk, rfl, rfl, hE, hp, hbel⟩ := hrel
      obtain ⟨wo, rfl⟩ : ∃ wo : World, wo = wr := ⟨_, rfl⟩
      by_cases hlt : k < ts.length
      · obtain ⟨b, o, x, rfl, hb0, HX2, hc0, hc1, hc2, hc3⟩ := (hS.below hbel).tok k hlt
        have hdr : ts.drop k = x :: ts.drop (k + 1) := by
          obtain ⟨h1, h2⟩ := List.getElem?_eq_some_iff.1 HX2
          rw [List.drop_eq_getElem_cons h1, h2]
        have hpp := hp.out
        rw [hdr] at hpp
        obtain ⟨p, e1, e2, e3, e4, e5, e6, e7, e8, e9⟩ := hpp
        have P9 := Lib.hid e9
        have P8 := Lib.hid e8
        clear hdr e9 e8 HX2 hp
        obtain ⟨kd, tx, xn, xp⟩ := x
        simp only at e1 e2 e3 e4 e5 e6 e7 P9 hc0 hc1 hc2 hc3
        subst e1
        have hd1 : decide (p < E) = false := by simp; omega
        have hd2 : decide ((t.length : Int) - (tx.length : Int) < (p : Int)) = false := by simp; omega
        by_cases hlast : k + 1 = ts.length
        · have hr : ts.drop (k + 1) = [] := List.drop_of_length_le (by omega)
          obtain rfl := e4.2 hr
          obtain rfl := e5.2 hr
          obtain rfl := e6 (by omega)
          clear e4 e5 e6 hr hd2
          have hd2 : decide (t.length < p) = false := by simp at e3 ⊢; omega
          have hkl : ((k : Int) == (ts.length : Int) - 1) = true := by simp; omega
          simp only [List.length_nil, Nat.add_zero] at e3 e7 P9
          clear e7
          go_wp2_with fail
          go_quiet (fail)
          go_wp2_with fail
          go_loop [11] (fun v => ∃ j : Nat, v = .int .i64 j ∧ E ≤ j ∧ j ≤ p) (fun v => p - (intOf v).toNat)
          case atStart => exact ⟨E, rfl, Nat.le_refl _, e2⟩
          case round =>
            obtain ⟨j, rfl, hj1, hj2⟩ := hrel
            by_cases hjp : j < p
            · have hbl := P8.out j (by omega) hj1 hjp
              have HBL := Lib.hid hbl
              clear hbl
              go_wp2_with fail
              refine (rblank_any _ _).mono ?_
              rintro e w4 ⟨rfl, rfl⟩
              rw [HBL.out]
              go_wp2_with fail
              exact ⟨⟨j + 1, by go_num, by omega, by omega⟩, by simp [intOf]; omega⟩
            · go_wp2_with fail
              exact ⟨⟨k + 1, p, by omega, by go_num, by simp, by omega, P9, below_drewN5 (hbel.alloc hbel.size _)⟩, by simp [intOf]; omega⟩
        · have hr : ts.drop (k + 1) ≠ [] := by simp; omega
          have e4' : tx ≠ [] := fun h => hr (e4.1 h)
          have e5' : kd ≠ 3 := fun h => hr (e5.1 h)
          have hkl : ((k : Int) == (ts.length : Int) - 1) = false := by simp; omega
          have g3 : (kd == 3) = false := by simpa using e5'
          have hq : (List.drop p (List.take (p + tx.length) t) == tx) = true := by simpa using e7
          have htx : tx.isEmpty = false := by cases tx with
            | nil => exact absurd rfl e4'
            | cons _ _ => rfl
          have hsum : IntKind.i64.wrap ((p : Int) + (tx.length : Int)) = (p : Int) + (tx.length : Int) := IntWalk.i64_in ((p : Int) + (tx.length : Int)) (by omega)
          have hsn : ((p : Int) + (tx.length : Int)).toNat = p + tx.length := by omega
          have E4 := Lib.hid e4'
          clear e4 e5 e4' e5' e7 hr
          by_cases h1 : kd = 1
          · have g1 : (kd != 1) = false := by simpa using h1
            clear e6 h1
            go_wp2_with fail
            go_quiet (fail)
            go_wp2_with fail
            go_loop [11] (fun v => ∃ j : Nat, v = .int .i64 j ∧ E ≤ j ∧ j ≤ p) (fun v => p - (intOf v).toNat)
            case atStart => exact ⟨E, rfl, Nat.le_refl _, e2⟩
            case round =>
              obtain ⟨j, rfl, hj1, hj2⟩ := hrel
              by_cases hjp : j < p
              · have hbl := P8.out j (by omega) hj1 hjp
                have HBL := Lib.hid hbl
                clear hbl
                go_wp2_with fail
                refine (rblank_any _ _).mono ?_
                rintro e w4 ⟨rfl, rfl⟩
                rw [HBL.out]
                go_wp2_with fail
                exact ⟨⟨j + 1, by go_num, by omega, by omega⟩, by simp [intOf]; omega⟩
              · go_wp2_with fail
                exact ⟨⟨k + 1, p + tx.length, by omega, by go_num, by simp, by omega, P9, below_drewN5 (hbel.alloc hbel.size _)⟩, by simp [intOf]; omega⟩
          · have g1 : (kd != 1) = true := by simpa using h1
            obtain rfl := e6 h1
            clear e6 h1
            go_wp2_with fail
            go_quiet (fail)
            go_wp2_with fail
            go_loop [11] (fun v => ∃ j : Nat, v = .int .i64 j ∧ E ≤ j ∧ j ≤ p) (fun v => p - (intOf v).toNat)
            case atStart => exact ⟨E, rfl, Nat.le_refl _, e2⟩
            case round =>
              obtain ⟨j, rfl, hj1, hj2⟩ := hrel
              by_cases hjp : j < p
              · have hbl := P8.out j (by omega) hj1 hjp
                have HBL := Lib.hid hbl
                clear hbl
                go_wp2_with fail
                refine (rblank_any _ _).mono ?_
                rintro e w4 ⟨rfl, rfl⟩
                rw [HBL.out]
                go_wp2_with fail
                exact ⟨⟨j + 1, by go_num, by omega, by omega⟩, by simp [intOf]; omega⟩
              · go_wp2_with fail
                exact ⟨⟨k + 1, p + tx.length, by omega, by go_num, by simp, by omega, P9, below_drewN5 (hbel.alloc hbel.size _)⟩, by simp [intOf]; omega⟩
      · have hEe : E = t.length := by
          have := hp.out
          rw [List.drop_of_length_le (by omega)] at this
          exact this
        have hEb : ((E : Int) == (t.length : Int)) = true := by simp; omega
        clear hEe
        go_wp2_with fail
        go_ret
        exact ⟨rfl, bt (bt hb1 hb3) hbel⟩
end Go.Proofs.Ytdmecoagiboieaa

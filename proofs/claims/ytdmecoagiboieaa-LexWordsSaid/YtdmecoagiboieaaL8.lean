/-
  The walk of LexWords: for every string the law returns true.
-/
import Derived.Test.YtdmecoagiboieaaC1
import Derived.Test.YtdmecoagiboieaaPb
namespace Go.Proofs.Ytdmecoagiboieaa
open Go.RowKit
attribute [local go_sem] byteI extE ext0 extAny

set_option maxRecDepth 100000 in
set_option maxHeartbeats 2000000 in
theorem words_no (l : List UInt8) (w : World) (hl : l.length ≤ 9223372036854775807) (h : ∀ x y, lexP 0 (l.take 900) ≠ .toks [x, y]) :
    Calls Try.prog 8 #[.string ⟨l.toArray⟩] w fun e w' => e = .returned (.bool true) ∧ Below w.heap.size w w' := by
  have hq := words_not _ h
  have ht : (l.take 900).length ≤ 900 := by simp; omega
  have HT := Lib.hid (lexTop_small _ ht)
  generalize hz : l.take 900 = t at *
  have HZ := Lib.hid hz
  have HQ := Lib.hid hq
  have H := Lib.hid h
  clear hz hq h
  go_enter Try.func8, Try.ntmps8
  go_wp2_with fail
  refine (small_any _).mono ?_
  rintro e w1 ⟨rfl, hb1⟩
  go_wp2_with fail
  refine (cut_any l _ hl).mono ?_
  rintro e w2 ⟨rfl, rfl⟩
  rw [HZ.out]
  go_wp2_with fail
  cases hx : lexP 0 t with
  | err p er =>
    have her := (lexP_err_code t 0 p er hx).1
    have g : (er != 0) = true := by simp; omega
    have HX := Lib.hid (HT.out.trans hx)
    clear hx her
    refine (lex_err t p er _ HX.out (by omega)).mono ?_
    rintro e w3 ⟨rfl, hb3⟩
    go_wp2_with fail
    refine (number_any t _ (by omega)).mono ?_
    rintro e w4 ⟨rfl, rfl⟩
    rw [HQ.out.2.1, HQ.out.2.2]
    go_wp2_with fail
    refine (word_any t _ (by omega)).mono ?_
    rintro e w5 ⟨rfl, rfl⟩
    rw [HQ.out.1]
    go_wp2_with fail
    go_ret
    exact ⟨rfl, bt hb1 hb3⟩
  | toks ts =>
    have hne : ts.length ≠ 2 := fun h2 => by
      match ts, h2 with
      | [x, y], _ => exact H.out x y hx
    have g : ((ts.length : Int) != 2) = true := by simp; omega
    have HX := Lib.hid (HT.out.trans hx)
    clear hx hne
    refine (lex_ok t ts _ HX.out (by omega)).mono ?_
    rintro e w3 ⟨A, c, rfl, hS, hb3⟩
    go_wp2_with fail
    refine (number_any t _ (by omega)).mono ?_
    rintro e w4 ⟨rfl, rfl⟩
    rw [HQ.out.2.1, HQ.out.2.2]
    go_wp2_with fail
    refine (word_any t _ (by omega)).mono ?_
    rintro e w5 ⟨rfl, rfl⟩
    rw [HQ.out.1]
    go_wp2_with fail
    go_ret
    exact ⟨rfl, bt hb1 hb3⟩

set_option maxRecDepth 100000 in
set_option maxHeartbeats 4000000 in
theorem words_yes (l : List UInt8) (w : World) (hl : l.length ≤ 9223372036854775807) (x y : Tok) (h : lexP 0 (l.take 900) = .toks [x, y]) :
    Calls Try.prog 8 #[.string ⟨l.toArray⟩] w fun e w' => e = .returned (.bool true) ∧ Below w.heap.size w w' := by
  have hq := words_two _ x y h
  have ht : (l.take 900).length ≤ 900 := by simp; omega
  have HX := Lib.hid ((lexTop_small _ ht).trans h)
  generalize hz : l.take 900 = t at *
  have HZ := Lib.hid hz
  clear hz h
  obtain ⟨hw, hk, h20, hn⟩ := hq
  have hpure : ∀ (b1 b2 b3 : Bool) (z : Int), wordB t = b1 → numOk t = b2 → numOr t = z → decide (x.text = t) = b3 → 
      (b1 = true → t.length ≤ 20) → (b2 = true → z = x.n ∧ 0 ≤ x.n ∧ x.n ≤ 1099511627776) → b1 = (b3 && decide (x.kind = 0)) → b2 = (b3 && decide (x.kind = 1)) → 
      Calls Try.prog 8 #[.string ⟨l.toArray⟩] w fun e w' => e = .returned (.bool true) ∧ Below w.heap.size w w' := by
    clear hw hk h20 hn
    intro b1 b2 b3 z e1 e2 e3 e4 e5 e6 e7 e8
    have E1 := Lib.hid e1
    have E2 := Lib.hid e2
    have E3 := Lib.hid e3
    have g4 : (x.text == t) = b3 := by rw [← e4]; rw [Bool.eq_iff_iff]; simp
    have E7 := Lib.hid e7
    have E8 := Lib.hid e8
    have E5 := Lib.hid e5
    have E6 := Lib.hid e6
    clear e1 e2 e3 e4 e5 e6 e7 e8
    go_enter Try.func8, Try.ntmps8
    go_wp2_with fail
    refine (small_any _).mono ?_
    rintro e w1 ⟨rfl, hb1⟩
    go_wp2_with fail
    refine (cut_any l _ hl).mono ?_
    rintro e w2 ⟨rfl, rfl⟩
    rw [HZ.out]
    go_wp2_with fail
    refine (lex_ok t [x, y] _ HX.out (by omega)).mono ?_
    rintro e w3 ⟨A, c, rfl, hS, hb3⟩
    obtain ⟨b, o, x', rfl, hb0, hX, hc0, hc1, hc2, hc3⟩ := hS.tok 0 (by simp)
    obtain rfl : x = x' := by simpa using hX
    clear hX
    simp only [Nat.zero_mul, Nat.add_zero, List.length_cons, List.length_nil, Nat.zero_add, Nat.reduceAdd] at hc0 hc1 hc2 hc3 ⊢
    go_wp2_with fail
    refine (number_any t _ (by omega)).mono ?_
    rintro e w4 ⟨rfl, rfl⟩
    rw [E2.out, E3.out]
    go_wp2_with fail
    refine (word_any t _ (by omega)).mono ?_
    rintro e w5 ⟨rfl, rfl⟩
    rw [E1.out]
    have e7 := E7.out
    have e8 := E8.out
    have e5 := E5.out
    have e6 := E6.out
    clear E5 E6 E7 E8
    cases b3
    · simp only [Bool.false_and] at e7 e8
      subst e7 e8
      clear e5 e6
      go_wp2_with fail
      go_ret
      exact ⟨rfl, bt hb1 hb3⟩
    · simp only [Bool.true_and] at e7 e8
      by_cases k0 : x.kind = 0
      · have q1 : (x.kind == 0) = true := by simp [k0]
        have q2 : (x.kind == 1) = false := by simp [k0]
        have e7' : b1 = true := by rw [e7]; simp [k0]
        have e8' : b2 = false := by rw [e8]; simp [k0]
        clear e7 e8
        subst e7' e8'
        have h20 := e5 rfl
        clear e5 e6 k0
        go_wp2_with fail
        go_ret
        exact ⟨rfl, bt hb1 hb3⟩
      · by_cases k1 : x.kind = 1
        · have q1 : (x.kind == 0) = false := by simp [k1]
          have q2 : (x.kind == 1) = true := by simp [k1]
          have e7' : b1 = false := by rw [e7]; simp [k0]
          have e8' : b2 = true := by rw [e8]; simp [k1]
          clear e7 e8
          subst e7' e8'
          obtain ⟨rfl, hz1, hz2⟩ := e6 rfl
          clear e5 e6 k0 k1
          go_wp2_with fail
          go_ret
          exact ⟨rfl, bt hb1 hb3⟩
        · have q1 : (x.kind == 0) = false := by simp [k0]
          have q2 : (x.kind == 1) = false := by simp [k1]
          have e7' : b1 = false := by rw [e7]; simp [k0]
          have e8' : b2 = false := by rw [e8]; simp [k1]
          clear e7 e8
          subst e7' e8'
          clear e5 e6 k0 k1
          go_wp2_with fail
          go_ret
          exact ⟨rfl, bt hb1 hb3⟩
  exact hpure _ _ _ _ rfl rfl rfl rfl h20 hn hw hk
theorem words_walk (a : ByteArray) (w : World) (ha : a.size ≤ maxLen) : Calls Try.prog 8 #[.string a] w fun e w' => e = .returned (.bool true) ∧ Below w.heap.size w w' := by
  obtain ⟨⟨l⟩⟩ := a
  have hl : l.length ≤ 9223372036854775807 := by simpa [maxLen, ByteArray.size] using ha
  by_cases h : ∃ x y, lexP 0 (l.take 900) = .toks [x, y]
  · obtain ⟨x, y, h⟩ := h
    exact words_yes l w hl x y h
  · exact words_no l w hl (fun x y hxy => h ⟨x, y, hxy⟩)
end Go.Proofs.Ytdmecoagiboieaa

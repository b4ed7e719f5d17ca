/-
  The walk of LexTells: for every string and list of tokens the law returns true.
-/
import Derived.Test.YtdmecoagiboieaaC1
import Derived.Test.YtdmecoagiboieaaPd
import Derived.Test.YtdmecoagiboieaaD3
import Derived.Test.YtdmecoagiboieaaD4
namespace Go.Proofs.Ytdmecoagiboieaa
open Go.RowKit
attribute [local go_sem] byteI extE ext0 extAny

theorem rlex_ok (l : List UInt8) (ts : List Tok) (w : World) (h : lexTop l = .toks ts) (hl : l.length ≤ 9223372036854775807) :
    Calls Try.prog 12 #[.string ⟨l.toArray⟩] w fun e w' => ∃ A c, e = .returned (.tuple #[.slice A ts.length c, .int .i64 0, .int .i64 0]) ∧ Sl w' A ts.length 4 (ts.flatMap tokC) ∧ Below w.heap.size w w' := by
  refine (rlex_any l w hl).mono fun e w' ⟨hb, hp⟩ => ?_
  rw [h] at hp
  obtain ⟨v, rfl, ho⟩ := hp
  obtain ⟨A, c, rfl, hs, _⟩ := Sl.of_own ho
  exact ⟨A, c, rfl, hs, hb⟩
theorem rlex_err (l : List UInt8) (p : Nat) (er : Int) (w : World) (h : lexTop l = .err p er) (hl : l.length ≤ 9223372036854775807) :
    Calls Try.prog 12 #[.string ⟨l.toArray⟩] w fun e w' => e = .returned (.tuple #[.slice none 0 0, .int .i64 p, .int .i64 er]) ∧ Below w.heap.size w w' := by
  refine (rlex_any l w hl).mono fun e w' ⟨hb, hp⟩ => ?_
  rw [h] at hp
  exact ⟨hp, hb⟩
theorem texts_small (ts : List Tok) (h : ts.length ≤ 100) (ht : ∀ t ∈ ts, t.text.length ≤ 100) (k : Nat) : (joinP (texts (ts.take k))).length ≤ 20000 := by
  have h1 := join_len (texts (ts.take k))
  have hsum : ∀ ts : List Tok, (∀ t ∈ ts, t.text.length ≤ 100) → ((texts ts).map List.length).sum ≤ ts.length * 100 ∧ (texts ts).length ≤ ts.length := by
    intro ts
    induction ts with
    | nil => intro _; simp [texts]
    | cons t ts ih =>
      intro ht
      have h0 := ht t (by simp)
      have := ih (fun u hu => ht u (List.mem_cons_of_mem _ hu))
      simp only [texts, List.filter_cons] at this ⊢
      split
      · simp only [List.map_cons, List.sum_cons, List.length_cons] at this ⊢
        omega
      · simp only [List.length_cons]
        omega
  have h2 := hsum (ts.take k) (fun t hm => ht t (List.mem_of_mem_take hm))
  have h3 : (ts.take k).length ≤ 100 := by simp; omega
  omega
def allShort (ts : List Tok) (k : Nat) : Prop := ∀ j (h : j < ts.length), j < k → ts[j].text.length ≤ 100
theorem toks_count (t : List UInt8) (ht : t.length ≤ 900) (ts : List Tok) (hx : lexP 0 t = .toks ts) : ts.length ≤ 901 := by
  obtain ⟨us, rfl, hall, hsum⟩ := lexP_shape t 0 ts hx
  have hcnt : ∀ us : List Tok, (∀ t ∈ us, TokOk t) → us.length ≤ (us.map (fun t => t.text.length)).sum := by
    intro us
    induction us with
    | nil => simp
    | cons a us ih =>
      intro hall
      have h0 := nextP_len (hall a (by simp))
      have := ih (fun t ht => hall t (List.mem_cons_of_mem _ ht))
      simp only [List.length_cons, List.map_cons, List.sum_cons] at this ⊢
      omega
  have := hcnt us hall
  simp
  omega

set_option maxRecDepth 100000 in
set_option maxHeartbeats 4000000 in
theorem tells_walk (a : ByteArray) (A : Option Addr) (n c : Nat) (ts : List Tok) (w : World) (ha : a.size ≤ maxLen) (hn : n ≤ 9223372036854775807) (hS : Sl w A n 4 (ts.flatMap tokC)) (hts : ∀ t ∈ ts, t.text.length ≤ 9223372036854775807) :
    Calls Try.prog 3 #[.string a, .slice A n c] w fun e w' => e = .returned (.bool true) ∧ Below w.heap.size w w' := by
  obtain ⟨⟨l⟩⟩ := a
  have hl : l.length ≤ 9223372036854775807 := by simpa [maxLen, ByteArray.size] using ha
  clear ha
  have ht : (l.take 900).length ≤ 900 := by simp; omega
  have HT := Lib.hid (lexTop_small _ ht)
  generalize hz : l.take 900 = t at *
  have HZ := Lib.hid hz
  have hlx : ts.length = n := by have := hS.1; rw [tokC_len] at this; omega
  have HLX := Lib.hid hlx
  have HTS := Lib.hid hts
  clear hz hlx hts
  by_cases h100 : n ≤ 100
  · have hd0 : decide (100 < n) = false := by simp; omega
    have hd1 : decide (100 < (n : Int)) = false := by simp; omega
    go_enter Try.func3, Try.ntmps3
    go_wp2_with fail
    refine (small_any _).mono ?_
    rintro e w1 ⟨rfl, hb1⟩
    have hS1 := hS.below hb1
    go_wp2_with fail
    go_loop [6] (fun i => ∃ k : Nat, k ≤ n ∧ i = .int .i64 k ∧ Hid (allShort ts k)) (fun i => n - (intOf i).toNat)
    case atStart => exact ⟨0, by omega, rfl, fun j _ h => absurd h (by omega)⟩
    case round =>
      obtain ⟨k, hk, rfl, hsh⟩ := hrel
      by_cases hlt : k < n
      · obtain ⟨b, o, x, rfl, hb0, hX, hc0, hc1, hc2, hc3⟩ := hS1.tok k hlt
        have hxl := HTS.out x (List.mem_of_getElem? hX)
        have HX := Lib.hid hX
        clear hX
        by_cases hx : x.text.length ≤ 100
        · go_wp2_with fail
          refine ⟨⟨k + 1, by omega, by go_num, fun j hj hjk => ?_⟩, by simp [intOf]; omega⟩
          rcases Nat.lt_or_ge j k with h | h
          · exact hsh.out j hj h
          · obtain rfl : j = k := by omega
            have := HX.out
            rw [List.getElem?_eq_getElem hj] at this
            rw [Option.some.inj this]
            exact hx
        · go_wp2_with fail
          go_ret
          exact ⟨rfl, hb1⟩
      · have hshort : ∀ t ∈ ts, t.text.length ≤ 100 := fun t hm => by
          obtain ⟨j, hj, rfl⟩ := List.getElem_of_mem hm
          exact hsh.out j hj (by have := HLX.out; omega)
        have hsm := texts_small ts (by have := HLX.out; omega) hshort
        have htp : (textP ts).length ≤ 140737488355328 := by
          have := hsm ts.length
          rw [List.take_length] at this
          have e : textP ts = joinP (texts ts) := rfl
          rw [e]
          omega
        have HB := Lib.hid (fun k => show bytesUpto ts k from by have := hsm k; unfold bytesUpto; omega)
        have HSH := Lib.hid (show ∀ t ∈ ts, t.text.length ≤ 1000000 from fun t hm => by have := hshort t hm; omega)
        clear hsm hshort hsh
        cases hx : lexP 0 t with
        | err p er =>
          have HX := Lib.hid (HT.out.trans hx)
          clear hx
          go_wp2_with fail
          refine (cut_any l _ hl).mono ?_
          rintro e w2 ⟨rfl, rfl⟩
          rw [HZ.out]
          go_wp2_with fail
          refine (lex_err t p er _ HX.out (by omega)).mono ?_
          rintro e w3 ⟨rfl, hb3⟩
          go_wp2_with fail
          refine (rlex_err t p er _ HX.out (by omega)).mono ?_
          rintro e w4 ⟨rfl, hb4⟩
          go_wp2_with fail
          refine (number_any t _ (by omega)).mono ?_
          rintro e w5 ⟨rfl, rfl⟩
          go_wp2_with fail
          refine (rnumber_any t _ (by omega)).mono ?_
          rintro e w5 ⟨rfl, rfl⟩
          go_wp2_with fail
          refine (same_any none none 0 0 0 0 [] [] _ ⟨by simp, fun h => absurd h (by omega)⟩ ⟨by simp, fun h => absurd h (by omega)⟩ (by omega) (by omega)).mono ?_
          rintro e w6 ⟨rfl, hb6⟩
          rw [decide_eq_true rfl]
          go_wp2_with fail
          refine (word_any t _ (by omega)).mono ?_
          rintro e w7 ⟨rfl, rfl⟩
          go_wp2_with fail
          refine (rword_any t _ (by omega)).mono ?_
          rintro e w7 ⟨rfl, rfl⟩
          go_wp2_with fail
          have hS6 := ((hS1.below hb3).below hb4).below hb6
          refine (text_any A n c ts _ hS6 (by omega) htp).mono ?_
          rintro e w7 ⟨rfl, hb7⟩
          go_wp2_with fail
          refine (rtext_any A n c ts _ (hS6.below hb7) (by omega) HSH.out HB.out).mono ?_
          rintro e w8 ⟨rfl, rfl⟩
          go_wp2_with fail
          go_ret
          exact ⟨rfl, bt (bt (bt (bt hb1 hb3) hb4) hb6) hb7⟩
        | toks us =>
          have hcu := toks_count t ht us hx
          have HX := Lib.hid (HT.out.trans hx)
          clear hx
          go_wp2_with fail
          refine (cut_any l _ hl).mono ?_
          rintro e w2 ⟨rfl, rfl⟩
          rw [HZ.out]
          go_wp2_with fail
          refine (lex_ok t us _ HX.out (by omega)).mono ?_
          rintro e w3 ⟨A1, c1, rfl, hA1, hb3⟩
          go_wp2_with fail
          refine (rlex_ok t us _ HX.out (by omega)).mono ?_
          rintro e w4 ⟨A2, c2, rfl, hA2, hb4⟩
          go_wp2_with fail
          refine (number_any t _ (by omega)).mono ?_
          rintro e w5 ⟨rfl, rfl⟩
          go_wp2_with fail
          refine (rnumber_any t _ (by omega)).mono ?_
          rintro e w5 ⟨rfl, rfl⟩
          go_wp2_with fail
          refine (same_any A1 A2 us.length us.length c1 c2 us us _ (hA1.below hb4) hA2 (by omega) (by omega)).mono ?_
          rintro e w6 ⟨rfl, hb6⟩
          rw [decide_eq_true rfl]
          go_wp2_with fail
          refine (word_any t _ (by omega)).mono ?_
          rintro e w7 ⟨rfl, rfl⟩
          go_wp2_with fail
          refine (rword_any t _ (by omega)).mono ?_
          rintro e w7 ⟨rfl, rfl⟩
          go_wp2_with fail
          have hS6 := ((hS1.below hb3).below hb4).below hb6
          refine (text_any A n c ts _ hS6 (by omega) htp).mono ?_
          rintro e w7 ⟨rfl, hb7⟩
          go_wp2_with fail
          refine (rtext_any A n c ts _ (hS6.below hb7) (by omega) HSH.out HB.out).mono ?_
          rintro e w8 ⟨rfl, rfl⟩
          go_wp2_with fail
          go_ret
          exact ⟨rfl, bt (bt (bt (bt hb1 hb3) hb4) hb6) hb7⟩
  · go_enter Try.func3, Try.ntmps3
    go_wp2_with fail
    refine (small_any _).mono ?_
    rintro e w1 ⟨rfl, hb1⟩
    go_wp2_with fail
    go_ret
    exact ⟨rfl, hb1⟩
end Go.Proofs.Ytdmecoagiboieaa

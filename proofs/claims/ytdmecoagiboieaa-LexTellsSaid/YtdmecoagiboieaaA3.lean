/-
  The contract of next (layer 11): the token at the beginning of a string that is not empty.
-/
import Derived.Test.YtdmecoagiboieaaA2
namespace Go.Proofs.Ytdmecoagiboieaa
open Go.RowKit
attribute [local go_sem] byteI extE ext0 extAny

def tokV (t : Tok) : Value := .agg #[.int .i64 t.kind, .string ⟨t.text.toArray⟩, .int .i64 t.n, .int .i64 t.pos]
def nextVal : Except Int Tok → Value
  | .ok t => .tuple #[tokV t, .int .i64 0]
  | .error e => .tuple #[tokV ⟨0, [], 0, 0⟩, .int .i64 e]

theorem take_span_word (c : UInt8) (r : List UInt8) (h : isLetter c.toNat = true) :
    wordB ((c :: r).take (spanN isAlnum (c :: r))) = decide (spanN isAlnum (c :: r) ≤ 20) := by
  have hp : isAlnum c.toNat = true := by simp [isAlnum, h]
  have ht := take_span_all isAlnum (c :: r)
  have hs := spanN_le isAlnum (c :: r)
  rw [spanN_cons, if_pos hp] at ht hs ⊢
  simp only [List.take_succ_cons, List.length_cons] at ht hs ⊢
  have ht' : allB isAlnum (List.take (spanN isAlnum r) r) = true := by simp only [allB, List.all_cons, hp, Bool.true_and] at ht ⊢; exact ht
  simp only [wordB, h, ht', Bool.true_and, Bool.and_true, List.length_take]
  rw [Nat.min_eq_left (by omega), Bool.eq_iff_iff]; simp; omega

set_option maxHeartbeats 1000000 in
theorem next_any (c : UInt8) (r : List UInt8) (w : World) (hl : r.length < 9223372036854775807) :
    Calls Try.prog 24 #[.string ⟨(c :: r).toArray⟩] w fun e w' => e = .returned (nextVal (nextP (c :: r))) ∧ Below w.heap.size w w' := by
  have hs := spanN_le isAlnum (c :: r)
  have hs2 := spanN_le isDigit (c :: r)
  simp only [List.length_cons] at hs hs2
  cases hc : isLetter c.toNat
  · have HC := Lib.hid hc
    clear hc
    cases hd : isDigit c.toNat
    · have HD := Lib.hid hd
      clear hd
      by_cases h59 : c.toNat = 59
      · have hres : nextP (c :: r) = .ok ⟨2, [59], 0, 0⟩ := by simp only [nextP, HC.out, HD.out]; simp [h59]
        have HR := Lib.hid hres
        have hb : ((c.toNat : Int) == 59) = true := by simp; omega
        clear hres h59
        go_enter Try.func24, Try.ntmps24
        go_wp2_with fail
        refine (letter_any _ _).mono ?_
        rintro e w' ⟨rfl, rfl⟩
        rw [HC.out]
        go_wp2_with fail
        refine (digit_any _ _).mono ?_
        rintro e w' ⟨rfl, rfl⟩
        rw [HD.out]
        go_wp2_with fail
        refine bodyPost_ret (v := .tuple #[tokV ⟨2, [59], 0, 0⟩, .int .i64 0]) (by simp [results, Try.results24, go_sem]; rfl) rfl ⟨by rw [HR.out]; rfl, (Below.refl _ _).alloc (Nat.le_refl _) _⟩
      · have hres : nextP (c :: r) = .error 10 := by simp [nextP, HC.out, HD.out, h59]
        have HR := Lib.hid hres
        have hb : ((c.toNat : Int) == 59) = false := by simp; omega
        clear hres h59
        go_enter Try.func24, Try.ntmps24
        go_wp2_with fail
        refine (letter_any _ _).mono ?_
        rintro e w' ⟨rfl, rfl⟩
        rw [HC.out]
        go_wp2_with fail
        refine (digit_any _ _).mono ?_
        rintro e w' ⟨rfl, rfl⟩
        rw [HD.out]
        go_wp2_with fail
        refine bodyPost_ret (v := .tuple #[tokV ⟨0, [], 0, 0⟩, .int .i64 10]) (by simp [results, Try.results24, go_sem]; rfl) rfl ⟨by rw [HR.out]; rfl, (Below.refl _ _).alloc (Nat.le_refl _) _⟩
    · have HD := Lib.hid hd
      clear hd
      cases hok : numOk ((c :: r).take (spanN isDigit (c :: r)))
      · have hres : nextP (c :: r) = .error 3 := by simp [nextP, HC.out, HD.out, hok]
        have HR := Lib.hid hres
        have HO := Lib.hid hok
        clear hres hok
        go_enter Try.func24, Try.ntmps24
        go_wp2_with fail
        refine (letter_any _ _).mono ?_
        rintro e w' ⟨rfl, rfl⟩
        rw [HC.out]
        go_wp2_with fail
        refine (digit_any _ _).mono ?_
        rintro e w' ⟨rfl, rfl⟩
        rw [HD.out]
        go_wp2_with fail
        refine (span_any (c :: r) isDigit 26 _ (by simp; omega) cf26 digit_any).mono ?_
        rintro e w' ⟨rfl, rfl⟩
        generalize hn : spanN isDigit (c :: r) = n at *
        have HN := Lib.hid hn
        clear hn
        go_wp2_with fail
        refine (number_any _ _ (by simp; omega)).mono ?_
        rintro e w' ⟨rfl, rfl⟩
        rw [HO.out]
        go_wp2_with fail
        refine bodyPost_ret (v := .tuple #[tokV ⟨0, [], 0, 0⟩, .int .i64 3]) (by simp [results, Try.results24, go_sem]; rfl) rfl ⟨by rw [HR.out]; rfl, (Below.refl _ _).alloc (Nat.le_refl _) _⟩
      · have hres : nextP (c :: r) = .ok ⟨1, (c :: r).take (spanN isDigit (c :: r)), numGo 0 ((c :: r).take (spanN isDigit (c :: r))), 0⟩ := by simp [nextP, HC.out, HD.out, hok]
        have HR := Lib.hid hres
        have HO := Lib.hid hok
        have hor : numOr ((c :: r).take (spanN isDigit (c :: r))) = numGo 0 ((c :: r).take (spanN isDigit (c :: r))) := by simp [numOr, hok]
        have HOR := Lib.hid hor
        clear hres hok hor
        go_enter Try.func24, Try.ntmps24
        go_wp2_with fail
        refine (letter_any _ _).mono ?_
        rintro e w' ⟨rfl, rfl⟩
        rw [HC.out]
        go_wp2_with fail
        refine (digit_any _ _).mono ?_
        rintro e w' ⟨rfl, rfl⟩
        rw [HD.out]
        go_wp2_with fail
        refine (span_any (c :: r) isDigit 26 _ (by simp; omega) cf26 digit_any).mono ?_
        rintro e w' ⟨rfl, rfl⟩
        generalize hn : spanN isDigit (c :: r) = n at *
        have HN := Lib.hid hn
        clear hn
        go_wp2_with fail
        refine (number_any _ _ (by simp; omega)).mono ?_
        rintro e w' ⟨rfl, rfl⟩
        rw [HO.out, HOR.out]
        generalize hz : numGo 0 (List.take n (c :: r)) = z at *
        go_wp2_with fail
        refine bodyPost_ret (v := .tuple #[tokV ⟨1, (c :: r).take n, z, 0⟩, .int .i64 0]) (by simp [results, Try.results24, go_sem]; rfl) rfl ⟨by rw [HR.out]; rfl, (Below.refl _ _).alloc (Nat.le_refl _) _⟩
  · have HC := Lib.hid hc
    have HW := Lib.hid (take_span_word c r hc)
    clear hc
    by_cases h20 : spanN isAlnum (c :: r) ≤ 20
    · have hres : nextP (c :: r) = .ok ⟨0, (c :: r).take (spanN isAlnum (c :: r)), 0, 0⟩ := by simp [nextP, HC.out, h20]
      have HR := Lib.hid hres
      clear hres
      go_enter Try.func24, Try.ntmps24
      go_wp2_with fail
      refine (letter_any _ _).mono ?_
      rintro e w' ⟨rfl, rfl⟩
      rw [HC.out]
      go_wp2_with fail
      refine (span_any (c :: r) isAlnum 32 _ (by simp; omega) cf32 alnum2_any).mono ?_
      rintro e w' ⟨rfl, rfl⟩
      generalize hn : spanN isAlnum (c :: r) = n at *
      have HN := Lib.hid hn
      clear hn
      go_wp2_with fail
      refine (word_any _ _ (by simp; omega)).mono ?_
      rintro e w' ⟨rfl, rfl⟩
      rw [HW.out, decide_eq_true h20]
      go_wp2_with fail
      refine bodyPost_ret (v := .tuple #[tokV ⟨0, (c :: r).take n, 0, 0⟩, .int .i64 0]) (by simp [results, Try.results24, go_sem]; rfl) rfl ⟨by rw [HR.out]; rfl, (Below.refl _ _).alloc (Nat.le_refl _) _⟩
    · have hres : nextP (c :: r) = .error 11 := by simp [nextP, HC.out, h20]
      have HR := Lib.hid hres
      clear hres
      go_enter Try.func24, Try.ntmps24
      go_wp2_with fail
      refine (letter_any _ _).mono ?_
      rintro e w' ⟨rfl, rfl⟩
      rw [HC.out]
      go_wp2_with fail
      refine (span_any (c :: r) isAlnum 32 _ (by simp; omega) cf32 alnum2_any).mono ?_
      rintro e w' ⟨rfl, rfl⟩
      generalize hn : spanN isAlnum (c :: r) = n at *
      have HN := Lib.hid hn
      clear hn
      go_wp2_with fail
      refine (word_any _ _ (by simp; omega)).mono ?_
      rintro e w' ⟨rfl, rfl⟩
      rw [HW.out, decide_eq_false h20]
      go_wp2_with fail
      refine bodyPost_ret (v := .tuple #[tokV ⟨0, [], 0, 0⟩, .int .i64 11]) (by simp [results, Try.results24, go_sem]; rfl) rfl ⟨by rw [HR.out]; rfl, (Below.refl _ _).alloc (Nat.le_refl _) _⟩
end Go.Proofs.Ytdmecoagiboieaa

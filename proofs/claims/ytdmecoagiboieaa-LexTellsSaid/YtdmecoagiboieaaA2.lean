/-
  Contracts of Word and Number of layer 11.
-/
import Derived.Test.YtdmecoagiboieaaA1
namespace Go.Proofs.Ytdmecoagiboieaa
open Go.RowKit

theorem byte0 (c : UInt8) (r : List UInt8) (h : 0 < (⟨(c :: r).toArray⟩ : ByteArray).size) : (⟨(c :: r).toArray⟩ : ByteArray)[0] = c := rfl

theorem byteI (l : List UInt8) (i : Nat) (h : i < (⟨l.toArray⟩ : ByteArray).size) : (⟨l.toArray⟩ : ByteArray)[i] = l[i]'h := rfl
theorem extAny (l : List UInt8) (a b : Nat) : (⟨l.toArray⟩ : ByteArray).extract a b = ⟨((l.take b).drop a).toArray⟩ := by
  apply ByteArray.ext
  simp [ByteArray.data_extract, List.drop_take]
theorem ext0 (l : List UInt8) (b : Nat) : (⟨l.toArray⟩ : ByteArray).extract 0 b = ⟨(l.take b).toArray⟩ := by rw [extAny]; rfl
theorem extE (l : List UInt8) (a : Nat) : (⟨l.toArray⟩ : ByteArray).extract a l.length = ⟨(l.drop a).toArray⟩ := by rw [extAny, List.take_length]
attribute [local go_sem] byteI
theorem wordB_eq (c : UInt8) (r : List UInt8) (h : isLetter c.toNat = true) (hr : r.length < 20) : wordB (c :: r) = decide (spanN isAlnum (c :: r) = r.length + 1) := by
  have := spanN_all isAlnum (c :: r)
  simp only [List.length_cons] at this
  rw [Bool.eq_iff_iff]
  simp only [decide_eq_true_eq, this]
  simp [wordB, h, hr, allB, isAlnum]

set_option maxHeartbeats 400000 in
theorem word_any (l : List UInt8) (w : World) (hl : l.length ≤ 9223372036854775807) :
    Calls Try.prog 16 #[.string ⟨l.toArray⟩] w fun e w' => e = .returned (.bool (wordB l)) ∧ w = w' := by
  cases l with
  | nil =>
    go_enter Try.func16, Try.ntmps16
    go_wp2_with fail
    go_ret
    exact ⟨rfl, rfl⟩
  | cons c r =>
    simp only [List.length_cons] at hl
    cases hc : isLetter c.toNat
    · have HC := Lib.hid hc
      clear hc
      go_enter Try.func16, Try.ntmps16
      go_wp2_with fail
      refine (letter_any _ _).mono ?_
      rintro e w' ⟨rfl, rfl⟩
      rw [HC.out]
      go_wp2_with fail
      go_ret
      exact ⟨ret_bool (by simp [wordB, HC.out]), rfl⟩
    · have HC := Lib.hid hc
      clear hc
      have hs := spanN_le isAlnum (c :: r)
      simp only [List.length_cons] at hs
      by_cases hr : r.length < 20
      · go_enter Try.func16, Try.ntmps16
        go_wp2_with fail
        refine (letter_any _ _).mono ?_
        rintro e w' ⟨rfl, rfl⟩
        rw [HC.out]
        go_wp2_with fail
        refine (span_any (c :: r) isAlnum 29 _ (by simp; omega) cf29 alnum_any).mono ?_
        rintro e w' ⟨rfl, rfl⟩
        go_wp2_with fail
        go_ret
        exact ⟨ret_bool (by rw [wordB_eq c r HC.out hr, Bool.eq_iff_iff]; simp; omega), rfl⟩
      · go_enter Try.func16, Try.ntmps16
        go_wp2_with fail
        refine (letter_any _ _).mono ?_
        rintro e w' ⟨rfl, rfl⟩
        rw [HC.out]
        go_wp2_with fail
        go_ret
        exact ⟨ret_bool (by simp [wordB]; omega), rfl⟩

theorem digitN (c : UInt8) (h : isDigit c.toNat = true) : 48 ≤ c.toNat ∧ c.toNat ≤ 57 := by simp [isDigit] at h; omega

theorem num_no {l : List UInt8} (h : 1099511627776 < numGo 0 l) : Ending.returned (.tuple #[.int .i64 (numOr l), .bool (numOk l)]) = .returned (.tuple #[.int .i64 0, .bool false]) := by
  have h1 : numOk l = false := by
    cases l with
    | nil => rfl
    | cons c r => simp [numOk]; omega
  simp [numOr, h1]
theorem num_yes {c : UInt8} {r : List UInt8} (hd : allB isDigit (c :: r) = true) (h0 : c.toNat ≠ 48 ∨ r = []) (hl : r.length < 13) (h : numGo 0 (c :: r) ≤ 1099511627776) :
    Ending.returned (.tuple #[.int .i64 (numOr (c :: r)), .bool (numOk (c :: r))]) = .returned (.tuple #[.int .i64 (numGo 0 (c :: r)), .bool true]) := by
  have h1 : numOk (c :: r) = true := by
    rcases h0 with h0 | h0
    · simp [numOk, hd, h0, hl, h]
    · subst h0; simp only [numOk, hd]; simp [h]
  simp [numOr, h1]
set_option maxHeartbeats 1000000 in
theorem number_any (l : List UInt8) (w : World) (hl : l.length ≤ 9223372036854775807) :
    Calls Try.prog 13 #[.string ⟨l.toArray⟩] w fun e w' => e = .returned (.tuple #[.int .i64 (numOr l), .bool (numOk l)]) ∧ w = w' := by
  cases l with
  | nil =>
    go_enter Try.func13, Try.ntmps13
    go_wp2_with fail
    go_ret2
    exact ⟨rfl, rfl⟩
  | cons c r =>
    simp only [List.length_cons] at hl
    have hs := spanN_le isDigit (c :: r)
    have ha := spanN_all isDigit (c :: r)
    simp only [List.length_cons] at hs ha
    cases hc : allB isDigit (c :: r)
    · have hno : numOk (c :: r) = false := by simp [numOk, hc]
      have hor : numOr (c :: r) = 0 := by simp [numOr, hno]
      have HC := Lib.hid hc
      have HNO := Lib.hid hno
      have HOR := Lib.hid hor
      have hne : spanN isDigit (c :: r) < r.length + 1 := by rw [hc] at ha; simp at ha; omega
      clear hc hno hor ha
      go_enter Try.func13, Try.ntmps13
      go_wp2_with fail
      refine (span_any (c :: r) isDigit 26 _ (by simp; omega) cf26 digit_any).mono ?_
      rintro e w' ⟨rfl, rfl⟩
      go_wp2_with fail
      go_ret2
      exact ⟨by rw [HNO.out, HOR.out]; rfl, rfl⟩
    · have HC := Lib.hid hc
      have he : spanN isDigit (c :: r) = r.length + 1 := ha.2 hc
      have HE := Lib.hid he
      clear ha hc he
      by_cases h48 : c = 48
      · subst h48
        cases r with
        | nil =>
          go_enter Try.func13, Try.ntmps13
          go_wp2_with fail
          refine (span_any [48] isDigit 26 _ (by simp) cf26 digit_any).mono ?_
          rintro e w' ⟨rfl, rfl⟩
          rw [HE.out]
          go_wp2_with fail
          go_loop [4, 31] (fun n i => ∃ k : Nat, k ≤ 1 ∧ i = .int .i64 k ∧ n = .int .i64 0) (fun _ i => 1 - (intOf i).toNat)
          case atStart => exact ⟨0, Nat.zero_le _, rfl, rfl⟩
          case round =>
            obtain ⟨k, hk, rfl, rfl⟩ := hrel
            by_cases hlt : k < 1
            · obtain rfl : k = 0 := by omega
              go_wp2_with fail
              exact ⟨⟨1, by omega, by go_num, rfl⟩, by simp [intOf]⟩
            · go_wp2_with fail
              go_ret2
              exact ⟨rfl, rfl⟩
        | cons d r =>
          have hno : numOk (48 :: d :: r) = false := by simp [numOk]
          have hor : numOr (48 :: d :: r) = 0 := by simp [numOr, hno]
          have HNO := Lib.hid hno
          have HOR := Lib.hid hor
          clear hno hor
          go_enter Try.func13, Try.ntmps13
          go_wp2_with fail
          refine (span_any _ isDigit 26 _ (by simp at *; omega) cf26 digit_any).mono ?_
          rintro e w' ⟨rfl, rfl⟩
          rw [HE.out]
          go_wp2_with fail
          go_ret2
          exact ⟨by rw [HNO.out, HOR.out]; rfl, rfl⟩
      · have hcn : c.toNat ≠ 48 := fun h => h48 (by apply UInt8.toNat_inj.1; simpa using h)
        have hcb : ((c.toNat : Int) == 48) = false := by simp; omega
        by_cases h13 : r.length < 13
        · have hb := numGo_bound (c :: r) HC.out
          have HB := Lib.hid hb
          clear hb h48
          go_enter Try.func13, Try.ntmps13
          go_wp2_with fail
          refine (span_any _ isDigit 26 _ (by simp at *; omega) cf26 digit_any).mono ?_
          rintro e w' ⟨rfl, rfl⟩
          rw [HE.out]
          go_wp2_with fail
          go_loop [4, 31] (fun n i => ∃ k : Nat, k ≤ (r.length + 1) ∧ i = .int .i64 k ∧ n = .int .i64 (numGo 0 ((c :: r).take k))) (fun _ i => (r.length + 1) - (intOf i).toNat)
          case atStart => exact ⟨0, Nat.zero_le _, rfl, rfl⟩
          case round =>
            obtain ⟨k, hk, rfl, rfl⟩ := hrel
            have hb := HB.out k (by simp; omega)
            have hp := pow_le13 k (by omega)
            have hb1 := hb.1
            have hb2 : numGo 0 ((c :: r).take k) < 10000000000000 := by omega
            clear hb hp
            by_cases hlt : k < (r.length + 1)
            · have hd := allB_get HC.out k (by simp; omega)
              have hdn := digitN _ hd
              have hd1 := hdn.1
              have hd2 := hdn.2
              have HS := Lib.hid (numGo_snoc ((c :: r).take k) 0 ((c :: r)[k]'(by simp; omega)))
              have HT := Lib.hid (take_snoc (c :: r) k (by simp; omega))
              clear hd hdn
              generalize hz : numGo 0 ((c :: r).take k) = z at *
              have HZ := Lib.hid hz
              clear hz
              go_wp2_with fail
              exact ⟨⟨k + 1, by omega, by go_num, by rw [HT.out, HS.out]⟩, by simp [intOf]; omega⟩
            · have ht : (c :: r).take k = c :: r := List.take_of_length_le (by simp; omega)
              have HT := Lib.hid ht
              clear ht
              generalize hz : numGo 0 ((c :: r).take k) = z at *
              have HZ := Lib.hid hz
              clear hz
              go_wp2_with fail
              all_goals
                go_ret2
                have hz := HZ.out
                rw [HT.out] at hz
              · exact ⟨by rw [num_no (by rw [hz]; assumption)]; rfl, rfl⟩
              · exact ⟨by rw [num_yes HC.out (Or.inl hcn) (by simp at *; omega) (by rw [hz]; assumption), hz]; rfl, rfl⟩
        · have hno : numOk (c :: r) = false := by simp [numOk, h13]
          have hor : numOr (c :: r) = 0 := by simp [numOr, hno]
          have HNO := Lib.hid hno
          have HOR := Lib.hid hor
          clear hno hor h48
          go_enter Try.func13, Try.ntmps13
          go_wp2_with fail
          refine (span_any _ isDigit 26 _ (by simp at *; omega) cf26 digit_any).mono ?_
          rintro e w' ⟨rfl, rfl⟩
          rw [HE.out]
          go_wp2_with fail
          go_ret2
          exact ⟨by rw [HNO.out, HOR.out]; rfl, rfl⟩
end Go.Proofs.Ytdmecoagiboieaa

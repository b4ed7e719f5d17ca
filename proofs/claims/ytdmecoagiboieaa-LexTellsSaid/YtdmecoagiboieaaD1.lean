/-
  Contracts of the reference of layer 11: Word and Number.
-/
import Derived.Test.YtdmecoagiboieaaA2
import Derived.Test.YtdmecoagiboieaaPf
namespace Go.Proofs.Ytdmecoagiboieaa
open Go.RowKit
attribute [local go_sem] byteI extE ext0 extAny

def restOk (r : List UInt8) (k : Nat) : Prop := ∀ j (h : j < r.length), j + 1 < k → isAlnum (r[j].toNat) = true
theorem rword_no {c : UInt8} {r : List UInt8} {k : Nat} (hk : k < r.length + 1) (hk1 : 1 ≤ k) (h : isAlnum ((c :: r)[k].toNat) = false) : wordB (c :: r) = false := by
  have : allB isAlnum r = false := by
    rw [Bool.eq_false_iff]
    intro ha
    have h1 := allB_get ha (k - 1) (by omega)
    have e : (c :: r)[k] = r[k - 1] := by
      obtain ⟨m, rfl⟩ : ∃ m, k = m + 1 := ⟨k - 1, by omega⟩
      rfl
    rw [e, h1] at h
    cases h
  simp [wordB, this]
theorem rword_yes {c : UInt8} {r : List UInt8} (hl : isLetter c.toNat = true) (h20 : r.length < 20) (h : restOk r (r.length + 1)) : wordB (c :: r) = true := by
  have : allB isAlnum r = true := by
    simp only [allB, List.all_eq_true]
    intro x hx
    obtain ⟨j, hj, rfl⟩ := List.getElem_of_mem hx
    exact h j hj (by omega)
  simp [wordB, this, hl, h20]

set_option maxHeartbeats 1000000 in
theorem rword_any (l : List UInt8) (w : World) (hl : l.length ≤ 9223372036854775807) :
    Calls Try.prog 17 #[.string ⟨l.toArray⟩] w fun e w' => e = .returned (.bool (wordB l)) ∧ w = w' := by
  cases l with
  | nil =>
    go_enter Try.func17, Try.ntmps17
    go_wp2_with fail
    go_ret
    exact ⟨rfl, rfl⟩
  | cons c r =>
    simp only [List.length_cons] at hl
    by_cases h20 : r.length < 20
    · cases hc : isLetter c.toNat
      · have HC := Lib.hid hc
        clear hc
        go_enter Try.func17, Try.ntmps17
        go_wp2_with fail
        refine (rletter_any _ _).mono ?_
        rintro e w' ⟨rfl, rfl⟩
        rw [HC.out]
        go_wp2_with fail
        go_ret
        exact ⟨ret_bool (by simp [wordB, HC.out]), rfl⟩
      · have HC := Lib.hid hc
        clear hc
        have hd0 : decide ((r.length : Int) + 1 < 1) = false := by simp; omega
        have hd1 : decide (20 < (r.length : Int) + 1) = false := by simp; omega
        go_enter Try.func17, Try.ntmps17
        go_wp2_with fail
        refine (rletter_any _ _).mono ?_
        rintro e w' ⟨rfl, rfl⟩
        rw [HC.out]
        go_wp2_with fail
        go_loop [3] (fun v => ∃ k : Nat, v = .int .i64 k ∧ 1 ≤ k ∧ k ≤ r.length + 1 ∧ Hid (restOk r k)) (fun v => r.length + 1 - (intOf v).toNat)
        case atStart => exact ⟨1, rfl, by omega, by omega, fun j _ h => absurd h (by omega)⟩
        case round =>
          obtain ⟨k, rfl, hk1, hk2, hok⟩ := hrel
          by_cases hlt : k < r.length + 1
          · cases hb : isLetter ((c :: r)[k].toNat)
            · have HB := Lib.hid hb
              clear hb
              cases hdg : isDigit ((c :: r)[k].toNat)
              · have HD := Lib.hid hdg
                clear hdg
                go_wp2_with fail
                refine (rletter_any _ _).mono ?_
                rintro e w' ⟨rfl, rfl⟩
                rw [HB.out]
                go_wp2_with fail
                refine (rdigit_any _ _).mono ?_
                rintro e w' ⟨rfl, rfl⟩
                rw [HD.out]
                go_wp2_with fail
                go_ret
                exact ⟨ret_bool (by rw [rword_no hlt hk1 (by simp only [isAlnum, HB.out, HD.out]; rfl)]), rfl⟩
              · have HD := Lib.hid hdg
                clear hdg
                go_wp2_with fail
                refine (rletter_any _ _).mono ?_
                rintro e w' ⟨rfl, rfl⟩
                rw [HB.out]
                go_wp2_with fail
                refine (rdigit_any _ _).mono ?_
                rintro e w' ⟨rfl, rfl⟩
                rw [HD.out]
                go_wp2_with fail
                exact ⟨⟨k + 1, by go_num, by omega, by omega, fun j hj hjk => (Nat.lt_or_ge (j + 1) k).elim (fun h => hok.out j hj h) (fun h => by (obtain rfl : k = j + 1 := by omega); have := HD.out; simp only [List.getElem_cons_succ] at this; simp [isAlnum, this])⟩, by simp [intOf]; omega⟩
            · have HB := Lib.hid hb
              clear hb
              go_wp2_with fail
              refine (rletter_any _ _).mono ?_
              rintro e w' ⟨rfl, rfl⟩
              rw [HB.out]
              go_wp2_with fail
              exact ⟨⟨k + 1, by go_num, by omega, by omega, fun j hj hjk => (Nat.lt_or_ge (j + 1) k).elim (fun h => hok.out j hj h) (fun h => by (obtain rfl : k = j + 1 := by omega); have := HB.out; simp only [List.getElem_cons_succ] at this; simp [isAlnum, this])⟩, by simp [intOf]; omega⟩
          · go_wp2_with fail
            go_ret
            exact ⟨ret_bool (by rw [rword_yes HC.out h20 (fun j hj h => hok.out j hj (by omega))]), rfl⟩
    · go_enter Try.func17, Try.ntmps17
      go_wp2_with fail
      go_ret
      exact ⟨ret_bool (by simp [wordB]; omega), rfl⟩

set_option maxHeartbeats 1000000 in
theorem rnumber_any (l : List UInt8) (w : World) (hl : l.length ≤ 9223372036854775807) :
    Calls Try.prog 14 #[.string ⟨l.toArray⟩] w fun e w' => e = .returned (.tuple #[.int .i64 (numOr l), .bool (numOk l)]) ∧ w = w' := by
  go_enter Try.func14, Try.ntmps14
  go_wp2_with fail
  go_loop [4, 5] (fun n i => ∃ k : Nat, ∃ z : Int, k ≤ l.length ∧ i = .int .i64 k ∧ n = .int .i64 z ∧ 0 ≤ z ∧ z ≤ 10995116277769 ∧ Hid (z = numGo 0 (l.take k)) ∧ Hid (allB isDigit (l.take k) = true)) (fun _ i => l.length - (intOf i).toNat)
  case atStart => exact ⟨0, 0, by omega, rfl, rfl, by omega, by omega, rfl, rfl⟩
  case round =>
    obtain ⟨k, z, hk, rfl, rfl, hz0, hz1, HZ, HA⟩ := hrel
    by_cases hlt : k < l.length
    · cases hd : isDigit (l[k].toNat)
      · have HD := Lib.hid hd
        have HB := Lib.hid (num_bad_digit l k hlt hd)
        clear hd
        go_wp2_with fail
        refine (rdigit_any _ _).mono ?_
        rintro e w' ⟨rfl, rfl⟩
        rw [HD.out]
        go_wp2_with fail
        go_ret2
        exact ⟨by rw [HB.out.1, HB.out.2]; rfl, rfl⟩
      · have HD := Lib.hid hd
        have hdn := digitN _ hd
        obtain ⟨hd1, hd2⟩ := hdn
        clear hd
        by_cases hbig : 1099511627776 < z
        · have HB := Lib.hid (num_big l k (by rw [← HZ.out]; exact hbig) HA.out)
          go_wp2_with fail
          refine (rdigit_any _ _).mono ?_
          rintro e w' ⟨rfl, rfl⟩
          rw [HD.out]
          go_wp2_with fail
          go_ret2
          exact ⟨by rw [HB.out.1, HB.out.2]; rfl, rfl⟩
        · go_wp2_with fail
          refine (rdigit_any _ _).mono ?_
          rintro e w' ⟨rfl, rfl⟩
          rw [HD.out]
          go_wp2_with fail
          refine ⟨⟨k + 1, 10 * z + ((l[k].toNat : Int) - 48), by omega, by go_num, ?_, by omega, by omega, ?_, ?_⟩, by simp [intOf]; omega⟩
          · congr 1; omega
          · show _ = _
            rw [take_snoc l k hlt, numGo_snoc, ← HZ.out]
          · show _ = _
            have h1 := HA.out
            rw [take_snoc l k hlt]
            simp only [allB, List.all_append, List.all_cons, List.all_nil, Bool.and_true, Bool.and_eq_true] at h1 ⊢
            exact ⟨h1, HD.out⟩
    · have htk : l.take k = l := List.take_of_length_le (by omega)
      rw [htk] at HZ HA
      clear htk
      cases l with
      | nil =>
        go_wp2_with fail
        go_ret2
        exact ⟨rfl, rfl⟩
      | cons c r =>
        simp only [List.length_cons] at hk hlt hl
        by_cases h48 : c = 48
        · subst h48
          cases r with
          | nil =>
            have hz : z = 0 := HZ.out
            subst hz
            go_wp2_with fail
            go_ret2
            exact ⟨rfl, rfl⟩
          | cons d r =>
            have HB := Lib.hid (num_zero (d :: r) (by simp))
            simp only [List.length_cons] at hk hlt hl
            go_wp2_with fail
            go_ret2
            exact ⟨by rw [HB.out.1, HB.out.2]; rfl, rfl⟩
        · have hcn : c.toNat ≠ 48 := fun h => h48 (by apply UInt8.toNat_inj.1; simpa using h)
          have hcb : ((c.toNat : Int) == 48) = false := by simp; omega
          by_cases hbig : 1099511627776 < z
          · have HB := Lib.hid (num_big (c :: r) (r.length + 1) (by rw [List.take_of_length_le (by simp), ← HZ.out]; exact hbig) (by rw [List.take_of_length_le (by simp)]; exact HA.out))
            clear h48 hcn
            go_wp2_with fail
            all_goals
              go_ret2
              exact ⟨by rw [HB.out.1, HB.out.2]; rfl, rfl⟩
          · have HB := Lib.hid (num_good c r HA.out (Or.inl h48) (by rw [← HZ.out]; omega))
            clear h48 hcn
            go_wp2_with fail
            all_goals
              go_ret2
              exact ⟨by rw [HB.out.1, HB.out.2, ← HZ.out]; rfl, rfl⟩
end Go.Proofs.Ytdmecoagiboieaa

/-
  The reference's numeral: linguaref01.digits, by hand, in the words of the evaluation on plain data.
-/
import Derived.Test.YtljdbikodogeiaaGreatDoorX1
import Derived.WalkKit
import Derived.WalkSpells
import Derived.WalkLawsBesides
import Derived.Lib.Hide
import Derived.Laws.BytesString
namespace Go.Proofs.YtljdbikodogeiaaGreatDoor
open Go.RowKit
theorem wrap64_in {x : Int} (h1 : -9223372036854775808 ≤ x) (h2 : x ≤ 9223372036854775807) : RowKit.wrap64 x = x := by
  unfold RowKit.wrap64
  omega
theorem tdiv_of {n : Int} (h : n ≤ 0) : n.tdiv 10 = -((n.natAbs / 10 : Nat) : Int) ∧ n.tmod 10 = -((n.natAbs % 10 : Nat) : Int) := by
  obtain ⟨m, rfl⟩ : ∃ m : Nat, n = -(m : Int) := ⟨n.natAbs, by omega⟩
  rw [Int.neg_tdiv, Int.neg_tmod, Int.natAbs_neg, Int.natAbs_natCast]
  exact ⟨rfl, rfl⟩
theorem dig_char {n : Int} (hn : n ≤ 0) : UInt8.ofNat (RowKit.wrap64 (48 - n.tmod 10) % 256).toNat = UInt8.ofNat (48 + n.natAbs % 10) := by
  rw [(tdiv_of hn).2]
  have h2 : n.natAbs % 10 < 10 := Nat.mod_lt _ (by decide)
  generalize n.natAbs % 10 = d at h2
  rw [wrap64_in (by omega) (by omega)]
  congr 1
  omega
theorem nDigits_le (u : Nat) : Lib.nDigits u ≤ u + 1 := by
  induction u using Nat.strongRecOn with
  | _ u ih =>
    by_cases h : u < 10
    · rw [Lib.nDigits_small h]; omega
    · rw [Lib.nDigits_big h]
      have := ih (u / 10) (by omega)
      omega
theorem push_one (c : UInt8) : ByteArray.empty.push c = ⟨[c].toArray⟩ := rfl
set_option maxRecDepth 100000 in
set_option maxHeartbeats 400000 in
theorem digits_any (dr : Prop) (k : Nat) : ∀ (n : Int) (w : World), n.natAbs = k → n ≤ 0 → -9223372036854775808 ≤ n →
    Calls Tryz.prog 100 #[.int .i64 n] w fun e w' => e = .returned (.string ⟨(Lib.decDigits k).toArray⟩) ∧ BelowD dr w.heap.size w w' := by
  induction k using Nat.strongRecOn with
  | _ k ih =>
    intro n w hk hn h0
    have IH := Lib.hid ih
    clear ih
    have HK := Lib.hid hk
    clear hk
    have H0 := Lib.hid h0
    clear h0
    have HN := Lib.hid hn
    clear hn
    by_cases hs : -10 < n
    · go_enter Tryz.func100, Tryz.ntmps100
      go_wp2_with fail
      rw [run_convert_bytes_string _ _ _ 5 _ _ _ Tryz.underlying133 Tryz.underlying5 Tryz.underlying9, run_bytesToString _ _ _ _ [RowKit.wrap64 (48 - n.tmod 10) % 256] (by simp [go_sem])]
      go_wp2_with fail
      go_ret
      have hk := HK.out
      have hn := HN.out
      refine ⟨?_, belowD_alloc _ _⟩
      show Ending.returned (.string (ByteArray.empty.push (UInt8.ofNat (RowKit.wrap64 (48 - n.tmod 10) % 256).toNat))) = _
      rw [dig_char hn, hk, push_one, Lib.decDigits, dif_pos (show k < 10 by omega), Nat.mod_eq_of_lt (show k < 10 by omega)]
    · go_enter Tryz.func100, Tryz.ntmps100
      go_wp2_with fail
      rw [run_convert_bytes_string _ _ _ 5 _ _ _ Tryz.underlying133 Tryz.underlying5 Tryz.underlying9, run_bytesToString _ _ _ _ [RowKit.wrap64 (48 - n.tmod 10) % 256] (by simp [go_sem])]
      go_wp2_with fail
      refine (IH.out (k / 10) (by have := HK.out; omega) _ _ (by rw [(tdiv_of HN.out).1, wrap64_in (by have := H0.out; omega) (by omega)]; have := HK.out; omega) (by rw [(tdiv_of HN.out).1, wrap64_in (by have := H0.out; omega) (by omega)]; omega) (by rw [(tdiv_of HN.out).1, wrap64_in (by have := H0.out; omega) (by omega)]; have := H0.out; omega)).mono ?_
      rintro e w' ⟨rfl, hb⟩
      have HB := Lib.hid hb
      clear hb
      have hlen : ¬ 9223372036854775807 < (Lib.decDigits (k / 10)).length + 1 := by
        rw [Lib.decDigits_length]
        have := nDigits_le (k / 10)
        have := HK.out
        have := H0.out
        omega
      go_wp2_with fail
      go_ret
      have hk := HK.out
      have hn := HN.out
      refine ⟨?_, (belowD_alloc _ _).trans (HB.out.mono (by simp))⟩
      show Ending.returned (.string (_ ++ ByteArray.empty.push (UInt8.ofNat (RowKit.wrap64 (48 - n.tmod 10) % 256).toNat))) = _
      rw [dig_char hn, hk, push_one]
      conv => rhs; rw [Lib.decDigits, dif_neg (show ¬ k < 10 by omega)]
      rfl
/-- linguaref01.digits -/
noncomputable def ref01_digits (n_ : Int) : Option ByteArray :=
  (chkO (decide (-9223372036854775808 ≤ n_) && decide (n_ ≤ 0))).bind fun _ => some ⟨(Lib.decDigits n_.natAbs).toArray⟩
theorem ref01_digits_fn {dr : Prop} {n_ : Int} {r : ByteArray} (h : ref01_digits n_ = some r) : Fn dr Tryz.prog 100 [VI n_] (VS r) := by
  obtain ⟨hc, h⟩ := chkE_ h
  injection h with h
  subst h
  simp only [Bool.and_eq_true, decide_eq_true_eq] at hc
  refine ⟨Tryz.call100, fun w A vals hI hA hr => ?_⟩
  obtain ⟨v, vs', hv, hx, hnil⟩ := hr.cons_inv
  have := hnil.nil_inv
  subst this
  have hvals : vals = #[v] := by apply Array.ext'; simpa using hv
  subst hvals
  cases hx with
  | d hx =>
    cases hx with
    | v _ _ =>
      refine (digits_any dr n_.natAbs n_ w rfl hc.2 hc.1).mono ?_
      rintro e w' ⟨rfl, hb⟩
      exact ⟨_, A, [none], rfl, hb, fun b hA' => ⟨Nat.lt_of_lt_of_le (hA b hA') hb.size, Or.inl hA'⟩, ⟨none, rfl, .v _ rfl, rfl⟩, by simp [Apart], fun b hb => by simp at hb⟩
end Go.Proofs.YtljdbikodogeiaaGreatDoor

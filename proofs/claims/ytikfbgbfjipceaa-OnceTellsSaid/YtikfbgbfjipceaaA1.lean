/-
  Contracts of layer 32: Right and Floor of the program, Right of the reference.
-/
import Derived.Test.YtikfbgbfjipceaaMem
import Derived.Test.YtikfbgbfjipceaaPa
namespace Go.Proofs.Ytikfbgbfjipceaa
open Go.RowKit

def pairC (x : Rg) : List Value := [.int .i64 x.1, .int .i64 x.2]
def listV (low : Int) (A : Option Addr) (n c : Nat) : Value := .agg #[.int .i64 low, .slice A n c]
theorem pair_len (l : List Rg) : (l.flatMap pairC).length = l.length * 2 := flat_len _ 2 (fun _ => rfl) l
theorem Sl.len2 {w : World} {A : Option Addr} {n : Nat} {rs : List Rg} (h : Sl w A n 2 (rs.flatMap pairC)) : rs.length = n := by have := h.1; rw [pair_len] at this; omega
/-- the two cells of a range of a slice -/
theorem Sl.pair {w : World} {A : Option Addr} {n : Nat} {rs : List Rg} (h : Sl w A n 2 (rs.flatMap pairC)) (i : Nat) (hi : i < n) : ∃ (b o : Nat) (x : Rg), A = some ⟨b, o, none⟩ ∧ b < w.heap.size ∧ rs[i]? = some x ∧
    w.cell? ⟨b, o + i * 2, none⟩ = some (.int .i64 x.1) ∧ w.cell? ⟨b, o + i * 2 + 1, none⟩ = some (.int .i64 x.2) := by
  have hl := h.len2
  obtain ⟨b, o, e, hlt, hc⟩ := h.2 (by omega)
  have hi' : i < rs.length := by omega
  refine ⟨b, o, rs[i], e, hlt, List.getElem?_eq_getElem hi', ?_, ?_⟩
  · exact hc (i * 2 + 0) _ (flat_get pairC 2 (fun _ => rfl) rs i 0 hi' (by omega))
  · exact hc (i * 2 + 1) _ (flat_get pairC 2 (fun _ => rfl) rs i 1 hi' (by omega))

theorem take_snocR {rs : List Rg} {k : Nat} {x : Rg} (h : rs[k]? = some x) : rs.take (k + 1) = rs.take k ++ [x] := by
  obtain ⟨hk, rfl⟩ := List.getElem?_eq_some_iff.1 h
  rw [List.take_succ_eq_append_getElem hk]
theorem chain_at_bad {low : Int} {rs : List Rg} {k : Nat} {x : Rg} (h : rs[k]? = some x) (hb : ¬ (lastI low (rs.take k) < x.1 ∧ x.1 < x.2)) : chainB low rs = false := by
  have hk := (List.getElem?_eq_some_iff.1 h).1
  have e : rs = rs.take k ++ x :: rs.drop (k + 1) := by
    obtain ⟨hk, rfl⟩ := List.getElem?_eq_some_iff.1 h
    rw [← List.drop_eq_getElem_cons hk, List.take_append_drop]
  rw [Bool.eq_false_iff]
  intro hc
  rw [e, chain_append, Bool.and_eq_true] at hc
  simp only [chainB, Bool.and_eq_true, decide_eq_true_eq] at hc
  exact hb hc.2.1
theorem chain_at_good {low : Int} {rs : List Rg} {k : Nat} {x : Rg} (h : rs[k]? = some x) (hc : chainB low (rs.take k) = true) (h1 : lastI low (rs.take k) < x.1) (h2 : x.1 < x.2) : chainB low (rs.take (k + 1)) = true ∧ lastI low (rs.take (k + 1)) = x.2 := by
  rw [take_snocR h, chain_append, last_append]
  simp [chainB, lastI, hc, h1, h2]

theorem right_bad {low : Int} {rs : List Rg} (h : chainB low rs = false) : rightB low rs = false := by simp [rightB, h]
theorem right_fin {low z : Int} {rs : List Rg} {k n : Nat} (hl : rs.length = n) (hk : ¬ k < n) (hz : z = lastI low (rs.take k)) (hc : chainB low (rs.take k) = true) : rightB low rs = (decide (0 ≤ low) && decide (low ≤ 1099511627776) && decide (z ≤ 1099511627776)) := by
  have e : rs.take k = rs := List.take_of_length_le (by omega)
  rw [e] at hz hc
  simp [rightB, hc, hz]
set_option maxHeartbeats 1000000 in
theorem right_any (low : Int) (A : Option Addr) (n c : Nat) (rs : List Rg) (w : World) (hS : Sl w A n 2 (rs.flatMap pairC)) (hn : n ≤ 9223372036854775807) :
    Calls Try.prog 12 #[listV low A n c] w fun e w' => e = .returned (.bool (rightB low rs)) ∧ Below w.heap.size w w' := by
  have HL := Lib.hid hS.len2
  unfold listV
  go_enter Try.func12, Try.ntmps12
  go_wp2_with fail
  go_loopw [3, 11] (fun v i wr => ∃ (k : Nat) (z : Int), k ≤ n ∧ i = .int .i64 k ∧ v = .int .i64 z ∧ Hid (z = lastI low (rs.take k)) ∧ Hid (chainB low (rs.take k) = true) ∧ Box w #[.int .i64 low, .slice A n c] 25 wr) (fun _ i _ => n - (intOf i).toNat)
  case atStart => exact ⟨0, low, by omega, rfl, rfl, rfl, rfl, Box.start _ _ _⟩
  case round =>
    obtain ⟨k, z, hk, rfl, rfl, HZ, HC, hbox⟩ := hrel
    have hbel := hbox.below
    have hsz := hbox.size
    have hl0 := hbox.cell 0 (.int .i64 low)
    by_cases hlt : k < n
    · obtain ⟨b, o, x, rfl, hb0, hX, hc0, hc1⟩ := (hS.below hbel).pair k hlt
      have HX := Lib.hid hX
      clear hX
      by_cases h1 : z < x.1
      · by_cases h2 : x.1 < x.2
        · have hg := chain_at_good HX.out HC.out (by rw [← HZ.out]; exact h1) h2
          have HG := Lib.hid hg
          clear hg
          go_wp2_with fail
          exact ⟨⟨k + 1, x.2, by omega, by go_num, rfl, HG.out.2.symm, HG.out.1, hbox.alloc _⟩, by simp [intOf]; omega⟩
        · have HB := Lib.hid (right_bad (chain_at_bad (low := low) HX.out (fun h => h2 h.2)))
          go_wp2_with fail
          go_ret
          exact ⟨ret_bool (by rw [HB.out]), ba hbel _⟩
      · have HB := Lib.hid (right_bad (chain_at_bad (low := low) HX.out (fun h => h1 (by rw [HZ.out]; exact h.1))))
        go_wp2_with fail
        go_ret
        exact ⟨ret_bool (by rw [HB.out]), ba hbel _⟩
    · have HF := Lib.hid (right_fin HL.out hlt HZ.out HC.out)
      go_wp2_with fail
      all_goals
        go_ret
        refine ⟨ret_bool ?_, hbel⟩
        rw [HF.out]
        simp [*]
        try omega
theorem floor_any (low : Int) (A : Option Addr) (n c : Nat) (rs : List Rg) (w : World) (hS : Sl w A n 2 (rs.flatMap pairC)) (hn : n ≤ 9223372036854775807) :
    Calls Try.prog 15 #[listV low A n c] w fun e w' => e = .returned (.int .i64 (if rightB low rs then low else -1)) ∧ Below w.heap.size w w' := by
  cases hr : rightB low rs
  all_goals
    have HR := Lib.hid hr
    clear hr
    unfold listV
    go_enter Try.func15, Try.ntmps15
    go_wp2_with fail
    refine (right_any low A n c rs _ (hS.alloc _) hn).mono ?_
    rintro e w1 ⟨rfl, hb1⟩
    rw [HR.out]
    have hbox := (Box.start w #[.int .i64 low, .slice A n c] 25).next hb1
    have hl0 := hbox.cell 0 (.int .i64 low)
    have hsz := hbox.size
    go_wp2_with fail
    go_ret
    exact ⟨rfl, hbox.below⟩

set_option maxHeartbeats 2000000 in
theorem rright_any (low : Int) (A : Option Addr) (n c : Nat) (rs : List Rg) (w : World) (hS : Sl w A n 2 (rs.flatMap pairC)) (hn : n ≤ 9223372036854775807) :
    Calls Try.prog 10 #[.int .i64 low, .slice A n c] w fun e w' => e = .returned (.bool (rightB low rs)) ∧ Below w.heap.size w w' := by
  have HL := Lib.hid hS.len2
  by_cases h0 : 0 ≤ low ∧ low ≤ 1099511627776
  · obtain ⟨h1, h2⟩ := h0
    have hd1 : decide (low < 0) = false := by simp; omega
    have hd2 : decide (1099511627776 < low) = false := by simp; omega
    go_enter Try.func10, Try.ntmps10
    go_wp2_with fail
    go_loopw [0, 5] (fun v i wr => ∃ (k nq : Nat) (z : Int), k ≤ n ∧ i = .int .i64 k ∧ v = .int .i64 z ∧ z ≤ 1099511627776 ∧ Hid (z = lastI low (rs.take k)) ∧ Hid (chainB low (rs.take k) = true) ∧ wr = w.drewN nq) (fun _ i _ => n - (intOf i).toNat)
    case atStart => exact ⟨0, 0, low, by omega, rfl, rfl, h2, rfl, rfl, rfl⟩
    case round =>
      obtain ⟨k, nq, z, hk, rfl, rfl, hzm, HZ, HC, rfl⟩ := hrel
      by_cases hlt : k < n
      · obtain ⟨b, o, x, rfl, hb0, hX, hc0, hc1⟩ := hS.pair k hlt
        have HX := Lib.hid hX
        clear hX
        by_cases c1 : z < x.1
        · have g1 : decide (x.1 ≤ z) = false := by simp; omega
          by_cases c2 : x.1 < x.2
          · have g2 : decide (x.2 ≤ x.1) = false := by simp; omega
            have hg := chain_at_good HX.out HC.out (by rw [← HZ.out]; exact c1) c2
            have HG := Lib.hid hg
            clear hg
            by_cases c3 : x.2 ≤ 1099511627776
            · have g3 : decide (1099511627776 < x.2) = false := by simp; omega
              go_wp2_with fail
              go_quiet (fail)
              go_wp2_with fail
              exact ⟨⟨k + 1, _, x.2, by omega, by go_num, rfl, c3, HG.out.2.symm, HG.out.1, rfl⟩, by simp [intOf]; omega⟩
            · have g3 : decide (1099511627776 < x.2) = true := by simp; omega
              have HB : Hid (rightB low rs = false) := by
                show rightB low rs = false
                cases hc : chainB low rs
                · exact right_bad hc
                · have := chain_take_last rs low hc (k + 1)
                  rw [HG.out.2] at this
                  have : ¬ lastI low rs ≤ 1099511627776 := by omega
                  simp [rightB, this]
              go_wp2_with fail
              go_quiet (fail)
              go_wp2_with fail
              go_ret
              exact ⟨ret_bool (by rw [HB.out]), bd (bd (Below.refl _ _))⟩
          · have g2 : decide (x.2 ≤ x.1) = true := by simp; omega
            have HB := Lib.hid (right_bad (chain_at_bad (low := low) HX.out (fun h => c2 h.2)))
            go_wp2_with fail
            go_quiet (fail)
            go_wp2_with fail
            go_ret
            exact ⟨ret_bool (by rw [HB.out]), bd (bd (Below.refl _ _))⟩
        · have g1 : decide (x.1 ≤ z) = true := by simp; omega
          have HB := Lib.hid (right_bad (chain_at_bad (low := low) HX.out (fun h => c1 (by rw [HZ.out]; exact h.1))))
          go_wp2_with fail
          go_quiet (fail)
          go_wp2_with fail
          go_ret
          exact ⟨ret_bool (by rw [HB.out]), bd (bd (Below.refl _ _))⟩
      · have HF := Lib.hid (right_fin HL.out hlt HZ.out HC.out)
        go_wp2_with fail
        go_ret
        refine ⟨ret_bool ?_, bd (Below.refl _ _)⟩
        rw [HF.out]
        simp [*]
  · have HB : Hid (rightB low rs = false) := by
      show rightB low rs = false
      cases hc : rightB low rs
      · rfl
      · simp only [rightB, Bool.and_eq_true, decide_eq_true_eq] at hc
        exact absurd ⟨hc.1.1.2, hc.1.2⟩ h0
    by_cases h1 : low < 0
    · clear h0
      go_enter Try.func10, Try.ntmps10
      go_wp2_with fail
      go_ret
      exact ⟨ret_bool (by rw [HB.out]), Below.refl _ _⟩
    · have h2 : 1099511627776 < low := by omega
      clear h0
      go_enter Try.func10, Try.ntmps10
      go_wp2_with fail
      go_ret
      exact ⟨ret_bool (by rw [HB.out]), Below.refl _ _⟩
end Go.Proofs.Ytikfbgbfjipceaa

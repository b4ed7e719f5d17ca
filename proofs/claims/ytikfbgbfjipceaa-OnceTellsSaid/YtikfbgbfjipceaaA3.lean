/-
  Contracts of layer 32: Has of the program and of the reference; the reference's Same; the laws' same, has, list.
-/
import Derived.Test.YtikfbgbfjipceaaA2
namespace Go.Proofs.Ytikfbgbfjipceaa
open Go.RowKit

theorem any_out (rs : List Rg) : ∀ (last x : Int), chainB last rs = true → x < last → rs.any (fun r => decide (r.1 ≤ x) && decide (x < r.2)) = false := by
  induction rs with
  | nil => intro _ _ _ _; rfl
  | cons r rs ih =>
    intro last x h hx
    simp only [chainB, Bool.and_eq_true, decide_eq_true_eq] at h
    have h1 : decide (r.1 ≤ x) = false := by simp; omega
    simp only [List.any_cons, h1, Bool.false_and, Bool.false_or]
    exact ih r.2 x h.2 (by omega)
theorem in_at (rs : List Rg) : ∀ (low x : Int), chainB low rs = true → rs.any (fun r => decide (r.1 ≤ x) && decide (x < r.2)) = (match rs[atN rs x]? with | some r => decide (r.1 ≤ x) | none => false) := by
  induction rs with
  | nil => intro _ _ _; rfl
  | cons r rs ih =>
    intro low x h
    simp only [chainB, Bool.and_eq_true, decide_eq_true_eq] at h
    by_cases hx : r.2 ≤ x
    · have e : atN (r :: rs) x = atN rs x + 1 := by simp [atN, hx]
      have h1 : decide (x < r.2) = false := by simp; omega
      rw [e, List.getElem?_cons_succ, ← ih r.2 x h.2]
      simp [h1]
    · have hx' : decide (r.2 ≤ x) = false := by simpa using hx
      have e : atN (r :: rs) x = 0 := by simp only [atN, List.takeWhile_cons, hx']; rfl
      have h1 : decide (x < r.2) = true := by simp; omega
      rw [e, List.getElem?_cons_zero]
      simp only [List.any_cons, h1, Bool.and_true]
      rw [any_out rs r.2 x h.2 (by omega)]
      simp
theorem atN_le (rs : List Rg) (x : Int) : atN rs x ≤ rs.length := (List.takeWhile_sublist _).length_le

set_option maxHeartbeats 1000000 in
theorem has_any (low x : Int) (A : Option Addr) (n c : Nat) (rs : List Rg) (w : World) (hS : Sl w A n 2 (rs.flatMap pairC)) (hn : n ≤ 1000000) :
    Calls Try.prog 13 #[listV low A n c, .int .i64 x] w fun e w' => e = .returned (.bool (hasB low rs x)) ∧ Below w.heap.size w w' := by
  have HL := Lib.hid hS.len2
  cases hr : rightB low rs
  · have HR := Lib.hid hr
    clear hr
    unfold listV
    go_enter Try.func13, Try.ntmps13
    go_wp2_with fail
    refine (right_any low A n c rs _ (hS.alloc _) (by omega)).mono ?_
    rintro e w1 ⟨rfl, hb1⟩
    rw [HR.out]
    have hbox := (Box.start w #[.int .i64 low, .slice A n c] 25).next hb1
    go_wp2_with fail
    go_ret
    exact ⟨ret_bool (by simp [hasB, HR.out]), hbox.below⟩
  · have HR := Lib.hid hr
    have hch : chainB low rs = true := by simp only [rightB, Bool.and_eq_true] at hr; exact hr.1.1.1
    have HC := Lib.hid hch
    have HI := Lib.hid (in_at rs low x hch)
    have hal := atN_le rs x
    rw [HL.out] at hal
    clear hr hch
    unfold listV
    go_enter Try.func13, Try.ntmps13
    go_wp2_with fail
    refine (right_any low A n c rs _ (hS.alloc _) (by omega)).mono ?_
    rintro e w1 ⟨rfl, hb1⟩
    rw [HR.out]
    have hbox := (Box.start w #[.int .i64 low, .slice A n c] 25).next hb1
    have hl0 := hbox.cell 0 (.int .i64 low)
    have hl1 := hbox.cell 1 (.slice A n c)
    have hsz := hbox.size
    go_wp2_with fail
    refine (at_any low x A n c rs _ (hS.below hbox.below) hn HC.out).mono ?_
    rintro e w2 ⟨rfl, hb2⟩
    have hbox2 := hbox.next hb2
    clear hl0 hl1 hsz
    have hl0 := hbox2.cell 0 (.int .i64 low)
    have hl1 := hbox2.cell 1 (.slice A n c)
    have hsz := hbox2.size
    have hbel := hbox2.below
    have hS2 := hS.below hbel
    clear hbox hbox2 hb1 hb2
    generalize hk : atN rs x = k at *
    have HK := Lib.hid hk
    clear hk
    by_cases hlow : x < low
    · go_wp2_with fail
      go_ret
      exact ⟨ret_bool (by simp [hasB, HR.out, inB, hlow]), hbel⟩
    · by_cases hkn : k < n
      · obtain ⟨b, o, r, rfl, hb0, hX, hc0, hc1⟩ := hS2.pair k hkn
        have HX := Lib.hid hX
        clear hX
        go_wp2_with fail
        go_ret
        refine ⟨ret_bool ?_, hbel⟩
        have := HI.out
        rw [HX.out] at this
        simp only at this
        rw [hasB, HR.out, inB, this]
        simp
        try omega
      · go_wp2_with fail
        go_ret
        refine ⟨ret_bool ?_, hbel⟩
        have := HI.out
        rw [List.getElem?_eq_none (by rw [HL.out]; omega)] at this
        simp only at this
        rw [hasB, HR.out, inB, this]
        simp
        try omega

def noneIn (rs : List Rg) (x : Int) (k : Nat) : Prop := ∀ i r, i < k → rs[i]? = some r → ¬ (r.1 ≤ x ∧ x < r.2)
set_option maxHeartbeats 1000000 in
theorem rhas_any (low x : Int) (A : Option Addr) (n c : Nat) (rs : List Rg) (w : World) (hS : Sl w A n 2 (rs.flatMap pairC)) (hn : n ≤ 1000000) :
    Calls Try.prog 14 #[.int .i64 low, .slice A n c, .int .i64 x] w fun e w' => e = .returned (.bool (hasB low rs x)) ∧ Below w.heap.size w w' := by
  have HL := Lib.hid hS.len2
  cases hr : rightB low rs
  · have HR := Lib.hid hr
    clear hr
    go_enter Try.func14, Try.ntmps14
    go_wp2_with fail
    refine (rright_any low A n c rs _ hS (by omega)).mono ?_
    rintro e w1 ⟨rfl, hb1⟩
    rw [HR.out]
    go_wp2_with fail
    go_ret
    exact ⟨ret_bool (by simp [hasB, HR.out]), hb1⟩
  · have HR := Lib.hid hr
    clear hr
    by_cases hlow : x < low
    · go_enter Try.func14, Try.ntmps14
      go_wp2_with fail
      refine (rright_any low A n c rs _ hS (by omega)).mono ?_
      rintro e w1 ⟨rfl, hb1⟩
      rw [HR.out]
      go_wp2_with fail
      go_ret
      exact ⟨ret_bool (by simp [hasB, HR.out, inB, hlow]), hb1⟩
    · have hdl : decide (x < low) = false := by simp; omega
      go_enter Try.func14, Try.ntmps14
      go_wp2_with fail
      refine (rright_any low A n c rs _ hS (by omega)).mono ?_
      rintro e w1 ⟨rfl, hb1⟩
      rw [HR.out]
      have hS1 := hS.below hb1
      go_wp2_with fail
      go_loop [7] (fun i => ∃ k : Nat, k ≤ n ∧ i = .int .i64 k ∧ Hid (noneIn rs x k)) (fun i => n - (intOf i).toNat)
      case atStart => exact ⟨0, by omega, rfl, fun i _ h => absurd h (by omega)⟩
      case round =>
        obtain ⟨k, hk, rfl, hno⟩ := hrel
        by_cases hlt : k < n
        · obtain ⟨b, o, r, rfl, hb0, hX, hc0, hc1⟩ := hS1.pair k hlt
          have HX := Lib.hid hX
          clear hX
          by_cases h1 : r.1 ≤ x
          · by_cases h2 : x < r.2
            · go_wp2_with fail
              go_ret
              refine ⟨ret_bool ?_, hb1⟩
              have : rs.any (fun r => decide (r.1 ≤ x) && decide (x < r.2)) = true := List.any_eq_true.2 ⟨r, List.mem_of_getElem? HX.out, by simp [h1, h2]⟩
              rw [hasB, HR.out, inB, this]
              simp
            · go_wp2_with fail
              refine ⟨⟨k + 1, by omega, by go_num, fun i q hi hq => ?_⟩, by simp [intOf]; omega⟩
              rcases Nat.lt_or_ge i k with h | h
              · exact hno.out i q h hq
              · obtain rfl : i = k := by omega
                rw [HX.out] at hq
                obtain rfl := Option.some.inj hq
                omega
          · go_wp2_with fail
            refine ⟨⟨k + 1, by omega, by go_num, fun i q hi hq => ?_⟩, by simp [intOf]; omega⟩
            rcases Nat.lt_or_ge i k with h | h
            · exact hno.out i q h hq
            · obtain rfl : i = k := by omega
              rw [HX.out] at hq
              obtain rfl := Option.some.inj hq
              omega
        · go_wp2_with fail
          go_ret
          refine ⟨ret_bool ?_, hb1⟩
          have : rs.any (fun r => decide (r.1 ≤ x) && decide (x < r.2)) = false := by
            rw [Bool.eq_false_iff]
            intro h
            obtain ⟨r, hm, hr⟩ := List.any_eq_true.1 h
            obtain ⟨i, hi, rfl⟩ := List.getElem_of_mem hm
            have := hno.out i _ (by have := HL.out; omega) (List.getElem?_eq_getElem hi)
            simp at hr
            exact this hr
          rw [hasB, HR.out, inB, this]
          simp [hlow]

theorem eg46 : Try.prog.eqGuardType Try.prog.depth 46 = false := by kernel_rfl
theorem neq_pair (x y : Rg) (W : World) : (binOp .neq 46 (.agg #[.int .i64 x.1, .int .i64 x.2]) (.agg #[.int .i64 y.1, .int .i64 y.2])).run Try.prog W = .ok (.bool (!decide (x = y))) W := by
  obtain ⟨a, b⟩ := x
  obtain ⟨c, d⟩ := y
  have key : (Op.equalIn 10000 46 (.agg #[.int .i64 a, .int .i64 b]) (.agg #[.int .i64 c, .int .i64 d])).run Try.prog W = .ok (decide (a = c ∧ b = d)) W := by
    rw [show (10000 : Nat) = 9998 + 1 + 1 from rfl, Op.equalIn]
    simp [run_underlying Try.underlying46, go_sem]
    rw [show List.range' 0 2 = [0, 1] from rfl]
    by_cases h1 : a = c <;> by_cases h2 : b = d <;> simp [List.forIn_cons, h1, h2, go_sem]
  simp [go_sem, key]
end Go.Proofs.Ytikfbgbfjipceaa

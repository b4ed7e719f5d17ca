/-
  Contracts of the small functions of layer 11: letter, digit, blank, span, and the reference's; each leaves the world alone.
-/
import Derived.Test.YtdmecoagiboieaaRows
import Derived.Test.YtdmecoagiboieaaPa
import Derived.WalkKit
import Derived.WalkSpells
import Derived.WalkLawsBesides
import Derived.Lib.Hide
namespace Go.Proofs.Ytdmecoagiboieaa
open Go.RowKit

theorem ret_bool {a b : Bool} (h : a = b) : Ending.returned (.bool a) = .returned (.bool b) := by rw [h]
theorem ret_int {k : IntKind} {a b : Int} (h : a = b) : Ending.returned (.int k a) = .returned (.int k b) := by rw [h]

theorem letter_any (c : Int) (w : World) : Calls Try.prog 28 #[.int .u8 c] w fun e w' => e = .returned (.bool (isLetter c)) ∧ w = w' := by
  go_enter Try.func28, Try.ntmps28
  go_wp2
  all_goals (go_ret; exact ⟨ret_bool (by simp [isLetter]; omega), rfl⟩)
theorem digit_any (c : Int) (w : World) : Calls Try.prog 26 #[.int .u8 c] w fun e w' => e = .returned (.bool (isDigit c)) ∧ w = w' := by
  go_enter Try.func26, Try.ntmps26
  go_wp2
  all_goals (go_ret; exact ⟨ret_bool (by simp [isDigit]; omega), rfl⟩)
theorem blank_any (c : Int) (w : World) : Calls Try.prog 23 #[.int .u8 c] w fun e w' => e = .returned (.bool (isBlank c)) ∧ w = w' := by
  go_enter Try.func23, Try.ntmps23
  go_wp2
  all_goals (go_ret; exact ⟨ret_bool (by simp [isBlank, *]), rfl⟩)
theorem rletter_any (c : Int) (w : World) : Calls Try.prog 30 #[.int .u8 c] w fun e w' => e = .returned (.bool (isLetter c)) ∧ w = w' := by
  go_enter Try.func30, Try.ntmps30
  go_wp2
  all_goals (go_ret; exact ⟨ret_bool (by simp [isLetter]; omega), rfl⟩)
theorem rdigit_any (c : Int) (w : World) : Calls Try.prog 27 #[.int .u8 c] w fun e w' => e = .returned (.bool (isDigit c)) ∧ w = w' := by
  go_enter Try.func27, Try.ntmps27
  go_wp2
  all_goals (go_ret; exact ⟨ret_bool (by simp [isDigit]; omega), rfl⟩)
theorem rblank_any (c : Int) (w : World) : Calls Try.prog 21 #[.int .u8 c] w fun e w' => e = .returned (.bool (isBlank c)) ∧ w = w' := by
  go_enter Try.func21, Try.ntmps21
  go_wp2
  all_goals (go_ret; exact ⟨ret_bool (by (try simp [isBlank, *]); (try (cases (c == 9) <;> cases (c == 10) <;> cases (c == 32) <;> rfl))), rfl⟩)
theorem alnum_any (c : Int) (w : World) : Calls Try.prog 29 #[.int .u8 c] w fun e w' => e = .returned (.bool (isAlnum c)) ∧ w = w' := by
  cases h : isLetter c
  all_goals
    have H := Lib.hid h
    clear h
    go_enter Try.func29, Try.ntmps29
    go_wp2_with (first | (go_at_call 28; refine (letter_any _ _).mono ?_; rintro e w' ⟨rfl, rfl⟩; rw [H.out]) | (go_at_call 26; refine (digit_any _ _).mono ?_; rintro e w' ⟨rfl, rfl⟩))
    go_ret
    exact ⟨ret_bool (by simp [isAlnum, H.out]), rfl⟩
theorem alnum2_any (c : Int) (w : World) : Calls Try.prog 32 #[.int .u8 c] w fun e w' => e = .returned (.bool (isAlnum c)) ∧ w = w' := by
  cases h : isLetter c
  all_goals
    have H := Lib.hid h
    clear h
    go_enter Try.func32, Try.ntmps32
    go_wp2_with (first | (go_at_call 28; refine (letter_any _ _).mono ?_; rintro e w' ⟨rfl, rfl⟩; rw [H.out]) | (go_at_call 26; refine (digit_any _ _).mono ?_; rintro e w' ⟨rfl, rfl⟩))
    go_ret
    exact ⟨ret_bool (by simp [isAlnum, H.out]), rfl⟩
theorem cf23 (args : Array Value) (w : World) : Sem.run Try.prog (callFunc 23 args) w = .ok (.enter 23 args) w := by simp [go_sem]
theorem cf26 (args : Array Value) (w : World) : Sem.run Try.prog (callFunc 26 args) w = .ok (.enter 26 args) w := by simp [go_sem]
theorem cf29 (args : Array Value) (w : World) : Sem.run Try.prog (callFunc 29 args) w = .ok (.enter 29 args) w := by simp [go_sem]
theorem cf32 (args : Array Value) (w : World) : Sem.run Try.prog (callFunc 32 args) w = .ok (.enter 32 args) w := by simp [go_sem]
set_option maxHeartbeats 400000 in
theorem span_any (l : List UInt8) (p : Int → Bool) (k : Nat) (w : World) (hl : l.length ≤ 9223372036854775807)
   (hcf : ∀ (args : Array Value) (w : World), Sem.run Try.prog (callFunc k args) w = .ok (.enter k args) w)
   (hp : ∀ (c : Int) (w : World), Calls Try.prog k #[.int .u8 c] w fun e w' => e = .returned (.bool (p c)) ∧ w = w') :
   Calls Try.prog 22 #[.string ⟨l.toArray⟩, .func (.func k) #[] #[]] w fun e w' => e = .returned (.int .i64 (spanN p l)) ∧ w = w' := by
  have HP := Lib.hid hp
  clear hp
  go_enter Try.func22, Try.ntmps22
  go_wp2_with fail
  go_loop [5] (fun n => ∃ i : Nat, i ≤ l.length ∧ n = .int .i64 i ∧ Hid (∀ j (h : j < l.length), j < i → p (l[j].toNat) = true)) (fun n => l.length - (intOf n).toNat)
  case atStart => exact ⟨0, Nat.zero_le _, rfl, fun j h hj => absurd hj (by omega)⟩
  case round =>
    obtain ⟨i, hi, rfl, HI⟩ := hrel
    by_cases hlt : i < l.length
    · cases hpi : p (l[i].toNat)
      all_goals
        have HPI := Lib.hid hpi
        clear hpi
        go_wp2_with fail
        refine (HP.out _ _).mono ?_
        rintro e w' ⟨rfl, rfl⟩
        rw [show ({ data := l.toArray } : ByteArray)[i] = l[i] from rfl, HPI.out]
        go_wp2_with fail
      · go_ret
        exact ⟨ret_int (by rw [spanN_eq p l i HI hi (fun h => HPI.out)]), rfl⟩
      · go_round
        case rel => exact ⟨i + 1, by omega, by go_num, fun j h hj => (Nat.lt_or_ge j i).elim (fun h' => HI.out j h h') (fun h' => by (have e : j = i := by omega); subst e; exact HPI.out)⟩
        case measure => simp [intOf]; omega
    · go_wp2_with fail
      go_ret
      exact ⟨ret_int (by rw [spanN_eq p l i HI hi (fun h => absurd h hlt)]), rfl⟩
end Go.Proofs.Ytdmecoagiboieaa

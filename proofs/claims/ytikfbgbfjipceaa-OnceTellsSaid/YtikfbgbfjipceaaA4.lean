/-
  Contracts of layer 32: the reference's Same; the laws' same, has, list.
-/
import Derived.Test.YtikfbgbfjipceaaA3
namespace Go.Proofs.Ytikfbgbfjipceaa
open Go.RowKit

def sameUpto (xs ys : List Rg) (k : Nat) : Prop := ∀ j, j < k → xs[j]? = ys[j]?
set_option maxHeartbeats 1000000 in
theorem rsame_any (A A' : Option Addr) (n n' c c' : Nat) (xs ys : List Rg) (w : World) (ha : Sl w A n 2 (xs.flatMap pairC)) (hb : Sl w A' n' 2 (ys.flatMap pairC)) (hn : n ≤ 9223372036854775807) (hn' : n' ≤ 9223372036854775807) :
    Calls Try.prog 11 #[.slice A n c, .slice A' n' c'] w fun e w' => e = .returned (.bool (decide (xs = ys))) ∧ Below w.heap.size w w' := by
  have hlx := ha.len2
  have hly := hb.len2
  by_cases hnn : n = n'
  · subst hnn
    have HLX := Lib.hid hlx
    have HLY := Lib.hid hly
    clear hlx hly
    go_enter Try.func11, Try.ntmps11
    go_wp2_with fail
    go_loopw [5] (fun i wr => ∃ k : Nat, k ≤ n ∧ i = .int .i64 k ∧ Hid (sameUpto xs ys k) ∧ ∃ nq, wr = w.drewN nq) (fun i _ => n - (intOf i).toNat)
    case atStart => exact ⟨0, by omega, rfl, fun j h => absurd h (by omega), 0, rfl⟩
    case round =>
      obtain ⟨k, hk, rfl, hs, nq, rfl⟩ := hrel
      by_cases hlt : k < n
      · obtain ⟨b, o, t, rfl, hb0, hX, hc0, hc1⟩ := ha.pair k hlt
        obtain ⟨b', o', t', rfl, hb0', hY, hc0', hc1'⟩ := hb.pair k hlt
        have HX := Lib.hid hX
        have HY := Lib.hid hY
        clear hX hY
        have eg := eg46
        by_cases he : t = t'
        · have hq : ∀ W, (binOp .neq 46 (.agg #[.int .i64 t.1, .int .i64 t.2]) (.agg #[.int .i64 t'.1, .int .i64 t'.2])).run Try.prog W = .ok (.bool false) W := fun W => by rw [neq_pair]; simp [he]
          have HE := Lib.hid he
          clear he
          go_wp2_with fail
          go_quiet (fail)
          go_wp2_with fail
          refine ⟨⟨k + 1, by omega, by go_num, fun j hj => ?_, _, rfl⟩, by simp [intOf]; omega⟩
          rcases Nat.lt_or_ge j k with h | h
          · exact hs.out j h
          · obtain rfl : j = k := by omega
            rw [HX.out, HY.out, HE.out]
        · have hq : ∀ W, (binOp .neq 46 (.agg #[.int .i64 t.1, .int .i64 t.2]) (.agg #[.int .i64 t'.1, .int .i64 t'.2])).run Try.prog W = .ok (.bool true) W := fun W => by rw [neq_pair]; simp [he]
          have HE := Lib.hid he
          clear he
          go_wp2_with fail
          go_quiet (fail)
          go_wp2_with fail
          go_ret
          refine ⟨ret_bool ?_, bd (bd (Below.refl _ _))⟩
          have : xs ≠ ys := fun h => HE.out (by have h1 := HX.out; have h2 := HY.out; rw [h, h2] at h1; exact (Option.some.inj h1).symm)
          simp [this]
      · go_wp2_with fail
        go_ret
        refine ⟨ret_bool ?_, bd (Below.refl _ _)⟩
        have : xs = ys := List.ext_getElem? (fun i => by
          rcases Nat.lt_or_ge i k with h | h
          · exact hs.out i h
          · rw [List.getElem?_eq_none (by have := HLX.out; omega), List.getElem?_eq_none (by have := HLY.out; omega)])
        simp [this]
  · have hbn : ((n : Int) != (n' : Int)) = true := by simp; omega
    have hne : xs ≠ ys := fun h => hnn (by rw [← hlx, ← hly, h])
    have HN := Lib.hid hne
    clear hlx hly hnn hne
    go_enter Try.func11, Try.ntmps11
    go_wp2_with fail
    go_ret
    exact ⟨ret_bool (by simp [HN.out]), Below.refl _ _⟩
set_option maxHeartbeats 1000000 in
theorem same_any (la lb : Int) (A A' : Option Addr) (n n' c c' : Nat) (xs ys : List Rg) (w : World) (ha : Sl w A n 2 (xs.flatMap pairC)) (hb : Sl w A' n' 2 (ys.flatMap pairC)) (hn : n ≤ 9223372036854775807) (hn' : n' ≤ 9223372036854775807) :
    Calls Try.prog 17 #[listV la A n c, listV lb A' n' c'] w fun e w' => e = .returned (.bool (decide (la = lb ∧ xs = ys))) ∧ Below w.heap.size w w' := by
  unfold listV
  by_cases h : la = lb
  · have hb1 : (la == lb) = true := by simpa using h
    have HH := Lib.hid h
    clear h
    go_enter Try.func17, Try.ntmps17
    go_wp2_with fail
    refine (rsame_any A A' n n' c c' xs ys _ ((ha.alloc _).alloc _) ((hb.alloc _).alloc _) hn hn').mono ?_
    rintro e w1 ⟨rfl, hbb⟩
    go_wp2_with fail
    go_ret
    exact ⟨ret_bool (by simp [HH.out]), bt (ba (below_alloc _ _) _) hbb⟩
  · have hb1 : (la == lb) = false := by simpa using h
    have HH := Lib.hid h
    clear h
    go_enter Try.func17, Try.ntmps17
    go_wp2_with fail
    go_ret
    exact ⟨ret_bool (by simp [HH.out]), ba (below_alloc _ _) _⟩
theorem list_any (low : Int) (A : Option Addr) (n c : Nat) (w : World) :
    Calls Try.prog 18 #[.int .i64 low, .slice A n c] w fun e w' => e = .returned (listV low A n c) ∧ Below w.heap.size w w' := by
  unfold listV
  go_enter Try.func18, Try.ntmps18
  go_wp2_with fail
  exact bodyPost_ret (v := .agg #[.int .i64 low, .slice A n c]) (by simp [results, Try.results18, go_sem]) rfl ⟨rfl, below_alloc _ _⟩

def u16C (x : Int) : Value := .int .u16 x
theorem u16_len (l : List Int) : (l.map u16C).length = l.length * 1 := by simp
def notYet (l : List Int) (x : Int) (k : Nat) : Prop := ∀ j, j < k → l[j]? ≠ some x
set_option maxHeartbeats 1000000 in
theorem hasL_any (A : Option Addr) (n c : Nat) (l : List Int) (x : Int) (w : World) (hS : Sl w A n 1 (l.map u16C)) (hn : n ≤ 9223372036854775807) :
    Calls Try.prog 16 #[.slice A n c, .int .u16 x] w fun e w' => e = .returned (.bool (l.contains x)) ∧ w = w' := by
  have hl : l.length = n := by have := hS.1; simpa using this
  have HL := Lib.hid hl
  clear hl
  go_enter Try.func16, Try.ntmps16
  go_wp2_with fail
  go_loop [5] (fun i => ∃ k : Nat, k ≤ n ∧ i = .int .i64 k ∧ Hid (notYet l x k)) (fun i => n - (intOf i).toNat)
  case atStart => exact ⟨0, by omega, rfl, fun j h => absurd h (by omega)⟩
  case round =>
    obtain ⟨k, hk, rfl, hno⟩ := hrel
    by_cases hlt : k < n
    · obtain ⟨b, o, rfl, hb0, hc⟩ := hS.at_ k hlt
      obtain ⟨u, hu, hcell⟩ := hc 0 (by omega)
      simp only [Nat.mul_one, Nat.add_zero, List.getElem?_map, Option.map_eq_some_iff] at hu hcell
      obtain ⟨z, hz, rfl⟩ := hu
      simp only [u16C] at hcell
      have HZ := Lib.hid hz
      clear hz hc
      by_cases he : z = x
      · have g : (z == x) = true := by simpa using he
        have HE := Lib.hid he
        clear he
        go_wp2_with fail
        go_ret
        refine ⟨ret_bool ?_, rfl⟩
        have := List.mem_of_getElem? HZ.out
        rw [HE.out] at this
        simp [this]
      · have g : (z == x) = false := by simpa using he
        have HE := Lib.hid he
        clear he
        go_wp2_with fail
        refine ⟨⟨k + 1, by omega, by go_num, fun j hj => ?_⟩, by simp [intOf]; omega⟩
        rcases Nat.lt_or_ge j k with h | h
        · exact hno.out j h
        · obtain rfl : j = k := by omega
          rw [HZ.out]
          intro h
          exact HE.out (Option.some.inj h)
    · go_wp2_with fail
      go_ret
      refine ⟨ret_bool ?_, rfl⟩
      have : x ∉ l := fun h => by
        obtain ⟨j, hj, he⟩ := List.getElem_of_mem h
        exact hno.out j (by have := HL.out; omega) (by rw [List.getElem?_eq_getElem hj, he])
      simp [this]
end Go.Proofs.Ytikfbgbfjipceaa

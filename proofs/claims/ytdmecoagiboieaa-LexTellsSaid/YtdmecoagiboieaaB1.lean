/-
  Contracts of the functions of layer 11 that read lists of tokens: Same, Like.
-/
import Derived.Test.YtdmecoagiboieaaA4
import Derived.Deep.QuietTactic
import Derived.BigQuiet
namespace Go.Proofs.Ytdmecoagiboieaa
open Go.RowKit

/-- a slice whose address is A, of n elements of 'size' cells, reads as the cells xs -/
def Sl (w : World) (A : Option Addr) (n size : Nat) (xs : List Value) : Prop :=
  xs.length = n * size ∧ (0 < n → ∃ b o, A = some ⟨b, o, none⟩ ∧ b < w.heap.size ∧ ∀ j u, xs[j]? = some u → w.cell? ⟨b, o + j, none⟩ = some u)

theorem Sl.below {w w' : World} {A : Option Addr} {n size : Nat} {xs : List Value} (h : Sl w A n size xs) (hb : Below w.heap.size w w') : Sl w' A n size xs :=
  ⟨h.1, fun hn => by
    obtain ⟨b, o, e, hlt, hc⟩ := h.2 hn
    exact ⟨b, o, e, Nat.lt_of_lt_of_le hlt hb.size, fun j u hu => (hb.cell (p := ⟨b, o + j, none⟩) hlt).trans (hc j u hu)⟩⟩
theorem tokC_len (ts : List Tok) : (ts.flatMap tokC).length = ts.length * 4 := by
  induction ts with
  | nil => rfl
  | cons t ts ih => simp [tokC, ih]; omega
theorem tokC_get (ts : List Tok) (i j : Nat) (hi : i < ts.length) (hj : j < 4) : (ts.flatMap tokC)[i * 4 + j]? = (tokC ts[i])[j]? := by
  induction ts generalizing i with
  | nil => simp at hi
  | cons t ts ih =>
    have hl : (tokC t).length = 4 := rfl
    cases i with
    | zero => simp only [List.flatMap_cons, Nat.zero_mul, Nat.zero_add, List.getElem_cons_zero]; rw [List.getElem?_append_left (by omega)]
    | succ i =>
      simp only [List.flatMap_cons, List.getElem_cons_succ]
      rw [List.getElem?_append_right (by omega), hl, show (i + 1) * 4 + j - 4 = i * 4 + j by omega]
      exact ih i (by simpa using hi)
/-- the four cells of a token of a slice -/
theorem Sl.tok {w : World} {A : Option Addr} {n : Nat} {ts : List Tok} (h : Sl w A n 4 (ts.flatMap tokC)) (i : Nat) (hi : i < n) : ∃ (b o : Nat) (t : Tok), A = some ⟨b, o, none⟩ ∧ b < w.heap.size ∧ ts[i]? = some t ∧
    w.cell? ⟨b, o + i * 4, none⟩ = some (.int .i64 t.kind) ∧ w.cell? ⟨b, o + i * 4 + 1, none⟩ = some (.string ⟨t.text.toArray⟩) ∧
    w.cell? ⟨b, o + i * 4 + 2, none⟩ = some (.int .i64 t.n) ∧ w.cell? ⟨b, o + i * 4 + 3, none⟩ = some (.int .i64 t.pos) := by
  have hl : ts.length = n := by have := h.1; rw [tokC_len] at this; omega
  obtain ⟨b, o, e, hlt, hc⟩ := h.2 (by omega)
  have hi' : i < ts.length := by omega
  refine ⟨b, o, ts[i], e, hlt, List.getElem?_eq_getElem hi', ?_, ?_, ?_, ?_⟩
  · exact hc (i * 4 + 0) _ (tokC_get ts i 0 hi' (by omega))
  · exact hc (i * 4 + 1) _ (tokC_get ts i 1 hi' (by omega))
  · exact hc (i * 4 + 2) _ (tokC_get ts i 2 hi' (by omega))
  · exact hc (i * 4 + 3) _ (tokC_get ts i 3 hi' (by omega))

theorem eg25 : Try.prog.eqGuardType Try.prog.depth 25 = false := by kernel_rfl
theorem Tok.eq_iff (t t' : Tok) : t = t' ↔ (t.kind = t'.kind ∧ t.text = t'.text ∧ t.n = t'.n ∧ t.pos = t'.pos) := by
  cases t; cases t'; simp
theorem neq_tok (t t' : Tok) (W : World) : (binOp .neq 25 (.agg #[.int .i64 t.kind, .string ⟨t.text.toArray⟩, .int .i64 t.n, .int .i64 t.pos]) (.agg #[.int .i64 t'.kind, .string ⟨t'.text.toArray⟩, .int .i64 t'.n, .int .i64 t'.pos])).run Try.prog W = .ok (.bool (!decide (t = t'))) W := by
  simp [go_sem]
  by_cases h1 : t.kind = t'.kind <;> by_cases h2 : t.text = t'.text <;> by_cases h3 : t.n = t'.n <;> by_cases h4 : t.pos = t'.pos <;> simp [Tok.eq_iff, h1, h2, h3, h4, go_sem]
def sameUpto (xs ys : List Tok) (k : Nat) : Prop := ∀ j, j < k → xs[j]? = ys[j]?

set_option maxHeartbeats 1000000 in
theorem same_any (A A' : Option Addr) (n n' c c' : Nat) (xs ys : List Tok) (w : World) (ha : Sl w A n 4 (xs.flatMap tokC)) (hb : Sl w A' n' 4 (ys.flatMap tokC)) (hn : n ≤ 9223372036854775807) (hn' : n' ≤ 9223372036854775807) :
    Calls Try.prog 15 #[.slice A n c, .slice A' n' c'] w fun e w' => e = .returned (.bool (decide (xs = ys))) ∧ Below w.heap.size w w' := by
  have hlx : xs.length = n := by have := ha.1; rw [tokC_len] at this; omega
  have hly : ys.length = n' := by have := hb.1; rw [tokC_len] at this; omega
  by_cases hnn : n = n'
  · subst hnn
    have HLX := Lib.hid hlx
    have HLY := Lib.hid hly
    clear hlx hly
    go_enter Try.func15, Try.ntmps15
    go_wp2_with fail
    go_loopw [5] (fun i wr => ∃ k : Nat, k ≤ n ∧ i = .int .i64 k ∧ Hid (sameUpto xs ys k) ∧ ∃ nq, wr = w.drewN nq) (fun i _ => n - (intOf i).toNat)
    case atStart => exact ⟨0, by omega, rfl, fun j h => absurd h (by omega), 0, rfl⟩
    case round =>
      obtain ⟨k, hk, rfl, hs, nq, rfl⟩ := hrel
      by_cases hlt : k < n
      · obtain ⟨b, o, t, rfl, hb0, HX, hc0, hc1, hc2, hc3⟩ := ha.tok k hlt
        obtain ⟨b', o', t', rfl, hb0', HY, hc0', hc1', hc2', hc3'⟩ := hb.tok k hlt
        have HX := Lib.hid HX
        have HY := Lib.hid HY
        have eg := eg25
        by_cases he : t = t'
        · have hq : ∀ W, (binOp .neq 25 (.agg #[.int .i64 t.kind, .string ⟨t.text.toArray⟩, .int .i64 t.n, .int .i64 t.pos]) (.agg #[.int .i64 t'.kind, .string ⟨t'.text.toArray⟩, .int .i64 t'.n, .int .i64 t'.pos])).run Try.prog W = .ok (.bool false) W := fun W => by rw [neq_tok]; simp [he]
          have HE := Lib.hid he
          clear he
          go_wp2_with fail
          go_quiet (fail)
          go_wp2_with fail
          refine ⟨⟨k + 1, by omega, by go_num, fun j hj => ?_, _, rfl⟩, by simp [intOf]; omega⟩
          rcases Nat.lt_or_ge j k with h | h
          · exact hs.out j h
          · obtain rfl : j = k := by omega
            rw [HX.out, HY.out, HE.out]
        · have hq : ∀ W, (binOp .neq 25 (.agg #[.int .i64 t.kind, .string ⟨t.text.toArray⟩, .int .i64 t.n, .int .i64 t.pos]) (.agg #[.int .i64 t'.kind, .string ⟨t'.text.toArray⟩, .int .i64 t'.n, .int .i64 t'.pos])).run Try.prog W = .ok (.bool true) W := fun W => by rw [neq_tok]; simp [he]
          have HE := Lib.hid he
          clear he
          go_wp2_with fail
          go_quiet (fail)
          go_wp2_with fail
          go_ret
          refine ⟨ret_bool ?_, ?_⟩
          · have : xs ≠ ys := fun h => HE.out (by have h1 := HX.out; have h2 := HY.out; rw [h, h2] at h1; exact (Option.some.inj h1).symm)
            simp [this]
          · exact ⟨rfl, rfl, rfl, Nat.le_refl _, fun _ _ => rfl⟩
      · go_wp2_with fail
        go_ret
        refine ⟨ret_bool ?_, ⟨rfl, rfl, rfl, Nat.le_refl _, fun _ _ => rfl⟩⟩
        have : xs = ys := List.ext_getElem? (fun i => by
          rcases Nat.lt_or_ge i k with h | h
          · exact hs.out i h
          · rw [List.getElem?_eq_none (by have := HLX.out; omega), List.getElem?_eq_none (by have := HLY.out; omega)])
        simp [this]
  · have hbn : ((n : Int) != (n' : Int)) = true := by simp; omega
    have hne : xs ≠ ys := fun h => hnn (by rw [← hlx, ← hly, h])
    have HN := Lib.hid hne
    clear hlx hly hnn hne
    go_enter Try.func15, Try.ntmps15
    go_wp2_with fail
    go_ret
    exact ⟨ret_bool (by simp [HN.out]), Below.refl _ _⟩
end Go.Proofs.Ytdmecoagiboieaa

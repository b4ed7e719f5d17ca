/-
  Lex's contract as the laws use it, and the contract of small: the examples of layer 11 have the documented results.
-/
import Derived.Test.YtdmecoagiboieaaB3
namespace Go.Proofs.Ytdmecoagiboieaa
open Go.RowKit
attribute [local go_sem] byteI extE ext0 extAny

theorem Sl.of_own {w : World} {base E size n : Nat} {v : Value} {xs : List Value} (h : w.ownsRow base E size v n xs) : ∃ A c, v = .slice A n c ∧ Sl w A n size xs ∧ n ≤ c ∧ n ≤ maxLen := by
  rcases h.2 with ⟨rfl, rfl⟩ | ⟨g, cap, cur, rfl, hb, hh, hnc, hcm, hcs, ht⟩
  · exact ⟨none, 0, rfl, ⟨h.1, fun h => absurd h (by omega)⟩, by omega, by simp [maxLen]⟩
  · refine ⟨some ⟨g, 0, none⟩, cap, rfl, ⟨h.1, fun _ => ⟨g, 0, rfl, lt_of_block hh, fun j u hu => ?_⟩⟩, hnc, by omega⟩
    have hc := h.cells (g := g) rfl j u hu
    have e : (⟨g, 0, none⟩ : Addr).add j = ⟨g, 0 + j, none⟩ := by
      unfold Addr.add
      by_cases hj : j = 0
      · subst hj; rfl
      · simp [hj]
    rw [e] at hc
    exact hc
theorem lex_ok (l : List UInt8) (ts : List Tok) (w : World) (h : lexTop l = .toks ts) (hl : l.length ≤ 9223372036854775807) :
    Calls Try.prog 11 #[.string ⟨l.toArray⟩] w fun e w' => ∃ A c, e = .returned (.tuple #[.slice A ts.length c, .int .i64 0, .int .i64 0]) ∧ Sl w' A ts.length 4 (ts.flatMap tokC) ∧ Below w.heap.size w w' := by
  refine (lex_any l w hl).mono fun e w' ⟨hb, hp⟩ => ?_
  rw [h] at hp
  obtain ⟨v, rfl, ho⟩ := hp
  obtain ⟨A, c, rfl, hs, _⟩ := Sl.of_own ho
  exact ⟨A, c, rfl, hs, hb⟩
theorem lex_err (l : List UInt8) (p : Nat) (er : Int) (w : World) (h : lexTop l = .err p er) (hl : l.length ≤ 9223372036854775807) :
    Calls Try.prog 11 #[.string ⟨l.toArray⟩] w fun e w' => e = .returned (.tuple #[.slice none 0 0, .int .i64 p, .int .i64 er]) ∧ Below w.heap.size w w' := by
  refine (lex_any l w hl).mono fun e w' ⟨hb, hp⟩ => ?_
  rw [h] at hp
  exact ⟨hp, hb⟩

theorem below_alloc (w : World) (o : Obj) : Below w.heap.size w (w.alloc o) := (Below.refl _ _).alloc (Nat.le_refl _) _
theorem Sl.alloc {w : World} {A : Option Addr} {n size : Nat} {xs : List Value} (h : Sl w A n size xs) (o : Obj) : Sl (w.alloc o) A n size xs := h.below (below_alloc w o)
theorem Sl.new (w : World) (cs : Array Value) (T n size : Nat) (xs : List Value) (h : xs = cs.toList) (hn : xs.length = n * size) : Sl (w.alloc (.cells cs T)) (some ⟨w.heap.size, 0, none⟩) n size xs := by
  refine ⟨hn, fun _ => ⟨w.heap.size, 0, rfl, by simp, fun j u hu => ?_⟩⟩
  rw [Nat.zero_add, cell_of_row _ _ _ cs T (0, 0) (heap_alloc_new w _)]
  subst h
  simpa using hu
theorem bt {a b c : World} (h : Below a.heap.size a b) (k : Below b.heap.size b c) : Below a.heap.size a c := h.trans (k.mono h.size)
def small1 : List Tok := [⟨0, [120], 0, 0⟩, ⟨2, [59], 0, 2⟩, ⟨1, [49, 50], 12, 3⟩, ⟨0, [97], 0, 5⟩, ⟨3, [], 0, 6⟩]
def small4 : List Tok := [⟨0, [97], 0, 0⟩, ⟨2, [59], 0, 1⟩, ⟨0, [98], 0, 2⟩, ⟨2, [59], 0, 4⟩, ⟨3, [], 0, 5⟩]
theorem s1 : lexTop [120, 32, 59, 49, 50, 97] = .toks small1 := by decide +kernel
theorem s2 : lexTop [97, 49, 59, 59, 48, 48, 55] = .err 4 3 := by decide +kernel
theorem s3 : lexTop [97, 32, 58] = .err 2 10 := by decide +kernel
theorem s4 : lexTop [97, 59, 98, 32, 59] = .toks small4 := by decide +kernel
theorem s5 : textP small4 = [97, 32, 59, 32, 98, 32, 59] := by decide +kernel
theorem s6 : numOk [49, 50] = true ∧ numOr [49, 50] = 12 ∧ numOk [48, 49, 50] = false ∧ numOr [48, 49, 50] = 0 ∧ wordB [97, 49] = true ∧ wordB [49, 97] = false := by decide +kernel

set_option maxRecDepth 100000 in
set_option maxHeartbeats 2000000 in
theorem small_any (w : World) : Calls Try.prog 9 #[] w fun e w' => e = .returned (.bool true) ∧ Below w.heap.size w w' := by
  go_enter Try.func9, Try.ntmps9
  go_wp2_with fail
  refine (lex_ok [120, 32, 59, 49, 50, 97] small1 _ s1 (by decide)).mono ?_
  rintro e w1 ⟨A1, c1, rfl, hS1, hb1⟩
  go_wp2_with fail
  refine (lex_err [97, 49, 59, 59, 48, 48, 55] 4 3 _ s2 (by decide)).mono ?_
  rintro e w2 ⟨rfl, hb2⟩
  go_wp2_with fail
  refine (lex_err [97, 32, 58] 2 10 _ s3 (by decide)).mono ?_
  rintro e w3 ⟨rfl, hb3⟩
  go_wp2_with fail
  refine (lex_ok [97, 59, 98, 32, 59] small4 _ s4 (by decide)).mono ?_
  rintro e w4 ⟨A4, c4, rfl, hS4, hb4⟩
  go_wp2_with fail
  refine (number_any [49, 50] _ (by decide)).mono ?_
  rintro e w5 ⟨rfl, rfl⟩
  rw [s6.1, s6.2.1]
  go_wp2_with fail
  refine (number_any [48, 49, 50] _ (by decide)).mono ?_
  rintro e w6 ⟨rfl, rfl⟩
  rw [s6.2.2.1, s6.2.2.2.1]
  go_wp2_with fail
  refine (same_any A1 (some ⟨w4.heap.size, 0, none⟩) small1.length 5 c1 5 small1 small1 _ (((hS1.below hb2).below hb3).below hb4 |>.alloc _) (Sl.new _ _ _ _ _ _ rfl rfl) (by decide) (by decide)).mono ?_
  rintro e w7 ⟨rfl, hb7⟩
  rw [decide_eq_true rfl]
  go_wp2_with fail
  refine (text_any A4 small4.length c4 small4 _ ((hS4.alloc _).below hb7) (by decide) (by decide)).mono ?_
  rintro e w8 ⟨rfl, hb8⟩
  rw [s5]
  go_wp2_with fail
  refine (word_any [97, 49] _ (by decide)).mono ?_
  rintro e w9 ⟨rfl, rfl⟩
  rw [s6.2.2.2.2.1]
  go_wp2_with fail
  refine (word_any [49, 97] _ (by decide)).mono ?_
  rintro e w9 ⟨rfl, rfl⟩
  rw [s6.2.2.2.2.2]
  go_wp2_with fail
  go_ret
  exact ⟨rfl, bt (bt (bt (bt (bt (bt hb1 hb2) hb3) hb4) (below_alloc _ _)) hb7) hb8⟩
end Go.Proofs.Ytdmecoagiboieaa

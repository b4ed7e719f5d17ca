/-
  Contracts of slices.Clone, slices.Delete, slices.Insert at lists of ranges.
-/
import Derived.Test.YtikfbgbfjipceaaA4
namespace Go.Proofs.Ytikfbgbfjipceaa
open Go.RowKit

theorem info46 : (Try.prog.info? 46).map (fun i => (i.zero, i.size, i.bytes)) = some (some (.agg #[.int .i64 0, .int .i64 0]), 2, 16) := by kernel_rfl
theorem pair_one (l : List Rg) : ∀ u ∈ l.flatMap pairC, u.oneCell' = true := by
  intro u hu
  obtain ⟨x, _, hx⟩ := List.mem_flatMap.1 hu
  simp only [pairC, List.mem_cons, List.not_mem_nil, or_false] at hx
  rcases hx with rfl | rfl <;> rfl

theorem eq_nil (a : Option Addr) (n c : Nat) (W : World) : (binOp .eql 22 (.slice a n c) (.slice none 0 0)).run Try.prog W = .ok (.bool a.isNone) W := by
  exact Lib.run_eql_slice_nil (P := Try.prog) W 22 46 a n c 0 0 Try.underlying22
theorem own_empty (w : World) : (w.alloc (.cells #[] 46)).ownsRow w.heap.size 46 2 (.slice (some ⟨w.heap.size, 0, none⟩) 0 0) 0 [] :=
  ⟨by simp, Or.inr ⟨w.heap.size, 0, #[], rfl, Nat.le_refl _, heap_alloc_new w _, by omega, by simp [maxLen], by simp, by simp⟩⟩
set_option maxHeartbeats 1000000 in
theorem clone_any (A : Option Addr) (n c : Nat) (rs : List Rg) (w : World) (hS : Sl w A n 2 (rs.flatMap pairC)) (hn : n ≤ 1000000) (hA : A = none → n = 0 ∧ c = 0) :
    Calls Try.prog 19 #[.slice A n c] w fun e w' => ∃ v, e = .returned v ∧ w'.ownsRow w.heap.size 46 2 v n (rs.flatMap pairC) ∧ Below w.heap.size w w' := by
  obtain ⟨i0, hi0, hz0, hz1, hz2⟩ := info_parts info46
  cases A with
  | none =>
    obtain ⟨rfl, rfl⟩ := hA rfl
    have hrs : rs = [] := List.eq_nil_of_length_eq_zero hS.len2
    subst hrs
    have hq := eq_nil none 0 0
    simp only [Option.isNone_none] at hq
    go_enter Try.func19, Try.ntmps19
    go_wp2_with fail
    go_ret
    exact ⟨_, rfl, World.ownsRow_nil _ _ _ _, Below.refl _ _⟩
  | some a =>
    have hnews : ∀ j u, (rs.flatMap pairC)[j]? = some u → (w.alloc (.cells #[] 46)).cell? (a.add j) = some u := by
      intro j u hu
      have hpos : 0 < n := by
        rcases Nat.eq_zero_or_pos n with h | h
        · subst h
          have : rs = [] := List.eq_nil_of_length_eq_zero hS.len2
          subst this
          simp at hu
        · exact h
      obtain ⟨b, o, e, hlt, hc⟩ := (hS.alloc (.cells #[] 46)).2 hpos
      injection e with e
      subst e
      rw [add_eq]
      exact hc j u hu
    have HN := Lib.hid hnews
    have HS := Lib.hid hS
    have hq := eq_nil (some a) n c
    simp only [Option.isNone_some] at hq
    clear hnews hS hA
    go_enter Try.func19, Try.ntmps19
    go_wp2_with (at_builtin; refine wpList_append_own _ rfl (.tmp 5) (.tmp 6) 22 rfl w.heap.size 46 i0 _ 2 16 Try.underlying22 hi0 hz0 hz1 hz2 rfl (by decide) (.slice (some ⟨w.heap.size, 0, none⟩) 0 0) 0 [] rfl (own_empty w) a n c (rs.flatMap pairC) rfl HS.out.1 HN.out (pair_one rs) (by simp only [maxLen]; omega) (by omega) (by simp) ?_; intro v1 w1 hown1 hg1 _)
    go_ret
    refine ⟨v1, rfl, by simpa using hown1, ?_⟩
    exact (below_alloc w _).grown hg1 (by simp) (by simp [Value.ownBlock])
end Go.Proofs.Ytikfbgbfjipceaa

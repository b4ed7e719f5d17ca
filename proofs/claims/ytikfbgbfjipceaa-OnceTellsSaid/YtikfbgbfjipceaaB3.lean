/-
  The contract of slices.Insert at lists of ranges, for one element.
-/
import Derived.Test.YtikfbgbfjipceaaB2
namespace Go.Proofs.Ytikfbgbfjipceaa
open Go.RowKit

set_option maxRecDepth 100000 in
set_option maxHeartbeats 1000000 in
theorem insert_end (v : Value) (n gv base : Nat) (xs : List Rg) (x : Rg) (w : World) (hown : w.ownsRow base 46 2 v n (xs.flatMap pairC)) (hb : base ≤ w.heap.size) (hn : n ≤ 1000000) (hx : Sl w (some ⟨gv, 0, none⟩) 1 2 (pairC x)) :
    Calls Try.prog 22 #[v, .int .i64 n, .slice (some ⟨gv, 0, none⟩) 1 1] w fun e w' => ∃ v', e = .returned v' ∧ w'.ownsRow base 46 2 v' (n + 1) ((xs ++ [x]).flatMap pairC) ∧ w.grownBy w' v.ownBlock := by
  obtain ⟨i0, hi0, hz0, hz1, hz2⟩ := info_parts info46
  have hxc : ∀ j u, (pairC x)[j]? = some u → w.cell? ((⟨gv, 0, none⟩ : Addr).add j) = some u := by
    intro j u hu
    obtain ⟨b, o, e, _, hc⟩ := hx.2 (by omega)
    injection e with e
    injection e with e1 e2
    subst e1; subst e2
    rw [add_eq]
    exact hc j u hu
  have HX := Lib.hid hxc
  have hone : ∀ u ∈ pairC x, u.oneCell' = true := by
    have := pair_one [x]
    simpa using this
  have H1 := Lib.hid hone
  have HO := Lib.hid hown
  clear hxc hone
  rcases hown.2 with ⟨rfl, rfl⟩ | ⟨g, cap, cur, rfl, hbg, hh, hnc, hcm, hcs, ht⟩
  · clear hown
    go_enter Try.func22, Try.ntmps22
    go_wp2_with (at_builtin; refine wpList_append_own _ rfl (.tmp 23) (.tmp 24) 22 rfl base 46 i0 _ 2 16 Try.underlying22 hi0 hz0 hz1 hz2 rfl (by decide) (.slice none 0 0) 0 _ rfl HO.out ⟨gv, 0, none⟩ 1 1 (pairC x) rfl rfl HX.out H1.out (by simp [maxLen]) (by omega) hb ?_; intro v1 w1 hown1 hg1 _)
    go_ret
    refine ⟨v1, rfl, ?_, hg1⟩
    simpa [List.flatMap_append] using hown1
  · unfold maxLen at hcm
    clear hown hh hcs ht
    by_cases hcn : cap = n
    · subst hcn
      go_enter Try.func22, Try.ntmps22
      go_wp2_with (at_builtin; refine wpList_append_own _ rfl (.tmp 23) (.tmp 24) 22 rfl base 46 i0 _ 2 16 Try.underlying22 hi0 hz0 hz1 hz2 rfl (by decide) (.slice (some ⟨g, 0, none⟩) cap cap) cap _ rfl HO.out ⟨gv, 0, none⟩ 1 1 (pairC x) rfl rfl HX.out H1.out (by simp only [maxLen]; omega) (by omega) hb ?_; intro v1 w1 hown1 hg1 _)
      go_ret
      refine ⟨v1, rfl, ?_, hg1⟩
      simpa [List.flatMap_append] using hown1
    · go_enter Try.func22, Try.ntmps22
      go_wp2_with (at_builtin; refine wpList_append_own _ rfl (.tmp 23) (.tmp 24) 22 rfl base 46 i0 _ 2 16 Try.underlying22 hi0 hz0 hz1 hz2 rfl (by decide) (.slice (some ⟨g, 0, none⟩) n cap) n _ rfl HO.out ⟨gv, 0, none⟩ 1 1 (pairC x) rfl rfl HX.out H1.out (by simp only [maxLen]; omega) (by omega) hb ?_; intro v1 w1 hown1 hg1 _)
      go_ret
      refine ⟨v1, rfl, ?_, hg1⟩
      simpa [List.flatMap_append] using hown1
end Go.Proofs.Ytikfbgbfjipceaa

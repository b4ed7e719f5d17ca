/-
  The contract of the reference's Lex (layer 11).
-/
import Derived.Test.YtdmecoagiboieaaD2
import Derived.Test.YtdmecoagiboieaaA4
namespace Go.Proofs.Ytdmecoagiboieaa
open Go.RowKit
attribute [local go_sem] byteI extE ext0 extAny

theorem at_blank {a : Nat} {l : List UInt8} (h : a < l.length) (hb : isBlank (l[a].toNat) = true) : lexP a (l.drop a) = lexP (a + 1) (l.drop (a + 1)) := by
  rw [drop_cons h]; exact lexP_blank _ _ _ hb
theorem at_err {a : Nat} {l : List UInt8} {e : Int} (h : a < l.length) (hb : isBlank (l[a].toNat) = false) (hn : nextP (l.drop a) = .error e) : lexP a (l.drop a) = .err a e := by
  rw [drop_cons h] at hn ⊢; exact lexP_err _ _ _ _ hb hn
theorem at_tok {a : Nat} {l : List UInt8} {t : Tok} (h : a < l.length) (hb : isBlank (l[a].toNat) = false) (hn : nextP (l.drop a) = .ok t) :
    lexP a (l.drop a) = (lexP (a + t.text.length) (l.drop (a + t.text.length))).cons { t with pos := (a : Int) } := by
  have h0 : l.drop (a + t.text.length) = (l.drop a).drop t.text.length := by rw [List.drop_drop]
  rw [h0]
  rw [drop_cons h] at hn ⊢
  exact lexP_tok _ _ _ _ hb hn

set_option maxHeartbeats 2000000 in
theorem rlex_any (l : List UInt8) (w : World) (hl : l.length ≤ 9223372036854775807) :
    Calls Try.prog 12 #[.string ⟨l.toArray⟩] w fun e w' => LexPost w w' (lexTop l) e := by
  obtain ⟨i0, hi0, hz0, hz1, hz2⟩ := info_parts info25
  by_cases h2 : l.length ≤ 2000
  · have hres : lexTop l = lexP 0 l := by simp [lexTop, h2]
    rw [hres]
    clear hres
    go_enter Try.func12, Try.ntmps12
    go_wp2_with fail
    go_loopw [5, 6] (fun v i wr => LexRel l w v i wr) (fun _ i _ => l.length + 1 - (intOf i).toNat)
    case atStart => exact ⟨0, [], by omega, rfl, by simp, World.ownsRow_nil _ _ _ _, Below.refl _ _, by simp [Res.pre, Hid]; cases lexP 0 l <;> rfl⟩
    case round =>
      obtain ⟨a, ts, ha, rfl, hta, hown, hbel, hh⟩ := hrel
      have hw1 := hbel.size
      by_cases hlt : a < l.length
      · cases hb : isBlank (l[a].toNat)
        · have HB := Lib.hid hb
          clear hb
          have hne : l.drop a ≠ [] := by simp; omega
          go_wp2_with fail
          refine (rblank_any _ _).mono ?_
          rintro e w' ⟨rfl, rfl⟩
          rw [HB.out]
          go_wp2_with fail
          refine (token_any l a _ h2 hlt).mono ?_
          rintro e w1 ⟨rfl, hb1⟩
          cases hn : nextP (l.drop a) with
          | error er =>
            have her := nextP_err hne hn
            have hb2 : (er != 0) = true := by simp; omega
            have HNX := Lib.hid hn
            clear hn her hne
            simp only [tokenVal, tokV]
            go_wp2_with fail
            go_ret3
            refine ⟨(below_trans' hbel hbel.size hb1).alloc (Nat.le_trans hbel.size hb1.size) _, ?_⟩
            rw [hh.out, at_err hlt HB.out HNX.out]
            exact rfl
          | ok t =>
            have hlen := nextP_len hn
            have hl1 := hlen.1
            have hl2 : t.text.length ≤ l.length - a := by simpa using hlen.2
            have HNX := Lib.hid hn
            clear hn hne hlen
            simp only [tokenVal, tokV]
            have hw2 := hb1.size
            go_wp2_with (at_builtin; refine wpList_append_own _ rfl (.tmp 32) (.tmp 34) 22 rfl w.heap.size 25 i0 _ 4 40 Try.underlying22 hi0 hz0 hz1 hz2 rfl (by decide) u5 ts.length _ rfl (((own_below hown hb1).alloc _).alloc _) ⟨w1.heap.size + 1, 0, none⟩ 1 1 (tokC { t with pos := a }) rfl rfl (cells_new2 _ _ _ _ _ rfl) (tok_one _) (by simp only [maxLen]; omega) (by omega) (by simp; omega) ?_; intro v2 w2 hown2 hg2 _; have hc2 := cell_kept (i := 1) hown hw2 hg2; have ⟨HO, HBE⟩ := rel_app2 hown hbel hb1 hown2 hg2; clear hown2 hg2)
            refine ⟨⟨a + t.text.length, ts ++ [{ t with pos := a }], by omega, by simp, by simp; omega, HO, HBE, ?_⟩, by simp [intOf]; omega⟩
            show lexP 0 l = _
            rw [hh.out, at_tok hlt HB.out HNX.out, Res.pre_cons]
        · have HB := Lib.hid hb
          clear hb
          go_wp2_with fail
          refine (rblank_any _ _).mono ?_
          rintro e w' ⟨rfl, rfl⟩
          rw [HB.out]
          go_wp2_with fail
          refine ⟨⟨a + 1, ts, by omega, by go_num, by omega, hown, hbel, ?_⟩, by simp [intOf]; omega⟩
          show lexP 0 l = _
          rw [hh.out, at_blank hlt HB.out]
      · have hal : a = l.length := by omega
        have HAL := Lib.hid hal
        clear hal
        go_wp2_with (at_builtin; refine wpList_append_own _ rfl (.tmp 41) (.tmp 45) 22 rfl w.heap.size 25 i0 _ 4 40 Try.underlying22 hi0 hz0 hz1 hz2 rfl (by decide) u5 ts.length _ rfl (hown.alloc _) ⟨wr.heap.size, 0, none⟩ 1 1 (tokC ⟨3, [], 0, l.length⟩) rfl rfl (cells_new _ _ _ _ rfl) (tok_one _) (by simp only [maxLen]; omega) (by omega) (by simp; omega) ?_; intro v1 w1 hown1 hg1 _; have ⟨HO, HBE⟩ := rel_app hown hbel hown1 hg1; clear hown1 hg1)
        go_ret3
        refine ⟨HBE, ?_⟩
        rw [hh.out, List.drop_of_length_le (by have := HAL.out; omega), lexP_nil, HAL.out]
        exact ⟨v1, rfl, HO⟩
  · have hres : lexTop l = .err 0 6 := by simp [lexTop, h2]
    rw [hres]
    clear hres
    go_enter Try.func12, Try.ntmps12
    go_wp2_with fail
    go_ret3
    exact ⟨Below.refl _ _, rfl⟩
end Go.Proofs.Ytdmecoagiboieaa

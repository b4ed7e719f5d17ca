/-
  Contracts of the functions of layer 11 that read lists of tokens: Like, cut.
-/
import Derived.Test.YtdmecoagiboieaaB1
namespace Go.Proofs.Ytdmecoagiboieaa
open Go.RowKit
attribute [local go_sem] byteI extE ext0 extAny

def likeT (t t' : Tok) : Prop := t.kind = t'.kind ∧ t.text = t'.text ∧ t.n = t'.n
instance (t t' : Tok) : Decidable (likeT t t') := by unfold likeT; infer_instance
def likeB : List Tok → List Tok → Bool
  | [], [] => true
  | t :: l, t' :: l' => decide (likeT t t') && likeB l l'
  | _, _ => false
theorem likeB_iff : ∀ (l l' : List Tok), likeB l l' = true ↔ l.length = l'.length ∧ ∀ j (h : j < l.length) (h' : j < l'.length), likeT l[j] l'[j]
  | [], [] => by simp [likeB]
  | [], _ :: _ => by simp [likeB]
  | _ :: _, [] => by simp [likeB]
  | t :: l, t' :: l' => by
    simp only [likeB, Bool.and_eq_true, decide_eq_true_eq, likeB_iff l l', List.length_cons]
    constructor
    · rintro ⟨h0, hl, h⟩
      refine ⟨by omega, fun j hj hj' => ?_⟩
      cases j with
      | zero => exact h0
      | succ j => exact h j (by omega) (by omega)
    · rintro ⟨hl, h⟩
      exact ⟨h 0 (by omega) (by omega), by omega, fun j hj hj' => h (j + 1) (by omega) (by omega)⟩
def likeUpto (xs ys : List Tok) (k : Nat) : Prop := ∀ j (h : j < xs.length) (h' : j < ys.length), j < k → likeT xs[j] ys[j]

set_option maxHeartbeats 2000000 in
theorem like_any (A A' : Option Addr) (n n' c c' : Nat) (xs ys : List Tok) (w : World) (ha : Sl w A n 4 (xs.flatMap tokC)) (hb : Sl w A' n' 4 (ys.flatMap tokC)) (hn : n ≤ 9223372036854775807) (hn' : n' ≤ 9223372036854775807) :
    Calls Try.prog 20 #[.slice A n c, .slice A' n' c'] w fun e w' => e = .returned (.bool (likeB xs ys)) ∧ Below w.heap.size w w' := by
  have hlx : xs.length = n := by have := ha.1; rw [tokC_len] at this; omega
  have hly : ys.length = n' := by have := hb.1; rw [tokC_len] at this; omega
  by_cases hnn : n = n'
  · subst hnn
    have HLX := Lib.hid hlx
    have HLY := Lib.hid hly
    clear hlx hly
    go_enter Try.func20, Try.ntmps20
    go_wp2_with fail
    go_loopw [5] (fun i wr => ∃ k : Nat, k ≤ n ∧ i = .int .i64 k ∧ Hid (likeUpto xs ys k) ∧ ∃ nq, wr = w.drewN nq) (fun i _ => n - (intOf i).toNat)
    case atStart => exact ⟨0, by omega, rfl, fun j _ _ h => absurd h (by omega), 0, rfl⟩
    case round =>
      obtain ⟨k, hk, rfl, hs, nq, rfl⟩ := hrel
      by_cases hlt : k < n
      · obtain ⟨b, o, t, rfl, hb0, HX, hc0, hc1, hc2, hc3⟩ := ha.tok k hlt
        obtain ⟨b', o', t', rfl, hb0', HY, hc0', hc1', hc2', hc3'⟩ := hb.tok k hlt
        have HX := Lib.hid HX
        have HY := Lib.hid HY
        have hno : ¬ likeT t t' → likeB xs ys = false := fun hl => by
          rw [Bool.eq_false_iff, ne_eq, likeB_iff]
          rintro ⟨_, h⟩
          have hx := List.getElem?_eq_some_iff.1 HX.out
          have hy := List.getElem?_eq_some_iff.1 HY.out
          obtain ⟨hx1, hx2⟩ := hx
          obtain ⟨hy1, hy2⟩ := hy
          have := h k hx1 hy1
          rw [hx2, hy2] at this
          exact hl this
        have HNO := Lib.hid hno
        clear hno
        by_cases h1 : t.kind = t'.kind
        · by_cases h2 : t.text = t'.text
          · by_cases h3 : t.n = t'.n
            · have g1 : (t.kind != t'.kind) = false := by simp [h1]
              have g2 : (t.text == t'.text) = true := by simp [h2]
              have g3 : (t.n != t'.n) = false := by simp [h3]
              have HT := Lib.hid (show likeT t t' from ⟨h1, h2, h3⟩)
              clear h1 h2 h3
              go_wp2_with fail
              go_quiet (fail)
              go_wp2_with fail
              refine ⟨⟨k + 1, by omega, by go_num, fun j hj hj' hjk => ?_, _, rfl⟩, by simp [intOf]; omega⟩
              rcases Nat.lt_or_ge j k with h | h
              · exact hs.out j hj hj' h
              · obtain rfl : j = k := by omega
                have hx := HX.out
                have hy := HY.out
                rw [List.getElem?_eq_getElem hj] at hx
                rw [List.getElem?_eq_getElem hj'] at hy
                rw [Option.some.inj hx, Option.some.inj hy]
                exact HT.out
            · have g1 : (t.kind != t'.kind) = false := by simp [h1]
              have g2 : (t.text == t'.text) = true := by simp [h2]
              have g3 : (t.n != t'.n) = true := by simp [h3]
              have HT := Lib.hid (HNO.out (fun h => h3 h.2.2))
              clear h1 h2 h3
              go_wp2_with fail
              go_quiet (fail)
              go_wp2_with fail
              go_ret
              exact ⟨ret_bool (by rw [HT.out]), ⟨rfl, rfl, rfl, Nat.le_refl _, fun _ _ => rfl⟩⟩
          · have g1 : (t.kind != t'.kind) = false := by simp [h1]
            have g2 : (t.text == t'.text) = false := by simp [h2]
            have HT := Lib.hid (HNO.out (fun h => h2 h.2.1))
            clear h1 h2
            go_wp2_with fail
            go_quiet (fail)
            go_wp2_with fail
            go_ret
            exact ⟨ret_bool (by rw [HT.out]), ⟨rfl, rfl, rfl, Nat.le_refl _, fun _ _ => rfl⟩⟩
        · have g1 : (t.kind != t'.kind) = true := by simp [h1]
          have HT := Lib.hid (HNO.out (fun h => h1 h.1))
          clear h1
          go_wp2_with fail
          go_quiet (fail)
          go_wp2_with fail
          go_ret
          exact ⟨ret_bool (by rw [HT.out]), ⟨rfl, rfl, rfl, Nat.le_refl _, fun _ _ => rfl⟩⟩
      · go_wp2_with fail
        go_ret
        refine ⟨ret_bool ?_, ⟨rfl, rfl, rfl, Nat.le_refl _, fun _ _ => rfl⟩⟩
        exact ((likeB_iff xs ys).2 ⟨by rw [HLX.out, HLY.out], fun j hj hj' => hs.out j hj hj' (by have := HLX.out; omega)⟩).symm
  · have hbn : ((n : Int) != (n' : Int)) = true := by simp; omega
    have hne : likeB xs ys = false := by
      rw [Bool.eq_false_iff, ne_eq, likeB_iff]
      rintro ⟨h, _⟩
      omega
    have HN := Lib.hid hne
    clear hlx hly hnn hne
    go_enter Try.func20, Try.ntmps20
    go_wp2_with fail
    go_ret
    exact ⟨ret_bool (by simp [HN.out]), Below.refl _ _⟩

theorem cut_any (l : List UInt8) (w : World) (hl : l.length ≤ 9223372036854775807) :
    Calls Try.prog 10 #[.string ⟨l.toArray⟩] w fun e w' => e = .returned (.string ⟨(l.take 900).toArray⟩) ∧ w = w' := by
  by_cases h : l.length ≤ 900
  · go_enter Try.func10, Try.ntmps10
    go_wp2_with fail
    go_ret
    exact ⟨by rw [List.take_of_length_le h]; rfl, rfl⟩
  · go_enter Try.func10, Try.ntmps10
    go_wp2_with fail
    go_ret
    exact ⟨rfl, rfl⟩
end Go.Proofs.Ytdmecoagiboieaa

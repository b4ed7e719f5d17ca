/-
  The contract of the reference's Text (layer 11).
-/
import Derived.Test.YtdmecoagiboieaaB3
namespace Go.Proofs.Ytdmecoagiboieaa
open Go.RowKit
theorem appL4 (a b : List UInt8) : (⟨a.toArray⟩ : ByteArray) ++ ⟨b.toArray⟩ = ⟨(a ++ b).toArray⟩ := by
  apply ByteArray.ext
  simp
attribute [local go_sem] byteI extE ext0 extAny appL4

theorem joinP_snoc : ∀ (xs : List (List UInt8)) (y : List UInt8), xs ≠ [] → joinP (xs ++ [y]) = joinP xs ++ 32 :: y
  | [], _, h => absurd rfl h
  | [a], y, _ => by simp [joinP]
  | a :: b :: r, y, _ => by
    have := joinP_snoc (b :: r) y (by simp)
    simp only [List.cons_append, joinP] at this ⊢
    rw [this]
    simp
def bytesUpto (ts : List Tok) (k : Nat) : Prop := (joinP (texts (ts.take k))).length ≤ 1000000

set_option maxHeartbeats 1000000 in
theorem rtext_any (A : Option Addr) (n c : Nat) (ts : List Tok) (w : World) (ha : Sl w A n 4 (ts.flatMap tokC)) (hn : n ≤ 1000000) (ht : ∀ t ∈ ts, t.text.length ≤ 1000000) (hlen : ∀ k, bytesUpto ts k) :
    Calls Try.prog 19 #[.slice A n c] w fun e w' => e = .returned (.string ⟨(textP ts).toArray⟩) ∧ w = w' := by
  have hlx : ts.length = n := by have := ha.1; rw [tokC_len] at this; omega
  have HLX := Lib.hid hlx
  have HL := Lib.hid hlen
  have HT := Lib.hid ht
  clear hlx hlen ht
  go_enter Try.func19, Try.ntmps19
  go_wp2_with fail
  go_loop [3, 4, 5] (fun s f i => ∃ (k : Nat) (x : List UInt8) (b : Bool), k ≤ n ∧ i = .int .i64 k ∧ s = .string ⟨x.toArray⟩ ∧ f = .bool b ∧ Hid (x = joinP (texts (ts.take k))) ∧ Hid (b = true ↔ texts (ts.take k) = [])) (fun _ _ i => n - (intOf i).toNat)
  case atStart => exact ⟨0, [], true, by omega, rfl, rfl, rfl, rfl, by simp [Hid, texts]⟩
  case round =>
    obtain ⟨k, x, f, hk, rfl, rfl, rfl, HX, HF⟩ := hrel
    by_cases hlt : k < n
    · obtain ⟨b, o, t, rfl, hb0, hX, hc0, hc1, hc2, hc3⟩ := ha.tok k hlt
      have htl := HT.out t (List.mem_of_getElem? hX)
      have hxl : x.length ≤ 1000000 := by rw [HX.out]; exact HL.out k
      have HS := Lib.hid (texts_snoc ts k t hX)
      clear hX
      by_cases h3 : t.kind = 3
      · have g3 : (t.kind == 3) = true := by simp [h3]
        have hs := HS.out
        rw [if_pos h3, List.append_nil] at hs
        have HS2 := Lib.hid hs
        clear h3 hs HS
        go_wp2_with fail
        refine ⟨⟨k + 1, x, f, by omega, by go_num, rfl, rfl, ?_, ?_⟩, by simp [intOf]; omega⟩
        · show x = _
          rw [HS2.out]; exact HX.out
        · show _ ↔ _
          rw [HS2.out]; exact HF.out
      · have g3 : (t.kind == 3) = false := by simp [h3]
        have hs := HS.out
        rw [if_neg h3] at hs
        have HS2 := Lib.hid hs
        clear h3 hs HS
        cases f
        · have hne : texts (ts.take k) ≠ [] := fun h => by have := HF.out.2 h; cases this
          have HJ := Lib.hid (joinP_snoc _ t.text hne)
          clear hne
          go_wp2_with fail
          refine ⟨⟨k + 1, x ++ 32 :: t.text, false, by omega, by go_num, ?_, rfl, ?_, ?_⟩, by simp [intOf]; omega⟩
          · simp
          · show _ = _
            rw [HS2.out, HJ.out, ← HX.out]
          · show _ ↔ _
            rw [HS2.out]; simp
        · have he : texts (ts.take k) = [] := HF.out.1 rfl
          have HE := Lib.hid he
          clear he
          go_wp2_with fail
          refine ⟨⟨k + 1, x ++ t.text, false, by omega, by go_num, ?_, rfl, ?_, ?_⟩, by simp [intOf]; omega⟩
          · simp
          · show _ = _
            rw [HS2.out, HX.out, HE.out]; simp [joinP]
          · show _ ↔ _
            rw [HS2.out]; simp
    · have htk : ts.take k = ts := List.take_of_length_le (by have := HLX.out; omega)
      have HTK := Lib.hid htk
      clear htk
      go_wp2_with fail
      go_ret
      refine ⟨?_, rfl⟩
      have := HX.out
      rw [HTK.out] at this
      rw [this]
      rfl
end Go.Proofs.Ytdmecoagiboieaa

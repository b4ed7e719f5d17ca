/-
  Plain law of OnceTakes (layer 32).
-/
import Derived.Test.YtikfbgbfjipceaaPe
namespace Go.Proofs.Ytikfbgbfjipceaa
/-- after k numbers -/
structure TkInv (m : Int) (l : List Int) (k : Nat) (low : Int) (rs : List Rg) : Prop where
  right : rightB low rs = true
  seen : ∀ x ∈ l.take k, inB low rs x = true
  few : (l.length : Int) ≤ m → ∀ x, 0 ≤ x → inB low rs x = (l.take k).contains x
  len : rs.length ≤ k
  lim : (rs.length : Int) ≤ m
theorem TkInv.start (m : Int) (hm : 0 ≤ m) (l : List Int) : TkInv m l 0 0 [] := by
  refine ⟨by decide, by simp, fun _ x hx => ?_, by simp, by simpa using hm⟩
  simp [inB]
  exact hx
/-- one number more -/
structure TkOne (m : Int) (l : List Int) (k : Nat) (low : Int) (rs : List Rg) (z : Int) (t : Tk) : Prop where
  inv : TkInv m l (k + 1) t.low t.rs
  ok : hasB low rs z = !t.ok
  fresh : t.ok = true → (l.take k).contains z = false
  few : (l.length : Int) ≤ m → (l.take k).contains z = !t.ok
  bad : t.ok = false → t.low = low ∧ t.rs = rs
  le : low ≤ t.low
  flo : hasB t.low t.rs t.low = false
theorem has_right {low : Int} {rs : List Rg} (h : rightB low rs = true) (x : Int) : hasB low rs x = inB low rs x := by rw [hasB, h]; rfl
theorem TkInv.one {m : Int} {l : List Int} {k : Nat} {low : Int} {rs : List Rg} (h : TkInv m l k low rs) {z : Int} (hz : l[k]? = some z) (h0 : 0 ≤ z) (h1 : z < 65536) (hm : 0 ≤ m) : TkOne m l k low rs z (takeP low rs z m) := by
  have hok := take_ok low rs z m h.right h0 (by omega) hm
  have hf := take_facts low rs z m h.right h0 (by omega) hm
  have hk : k < l.length := (List.getElem?_eq_some_iff.1 hz).1
  have hnx : l.take (k + 1) = l.take k ++ [z] := by
    obtain ⟨hk, rfl⟩ := List.getElem?_eq_some_iff.1 hz
    rw [List.take_succ_eq_append_getElem hk]
  have hin : inB low rs z = !(takeP low rs z m).ok := by rw [hok]; simp
  refine ⟨⟨hf.1, fun x hx => ?_, fun hl x hx => ?_, ?_, ?_⟩, ?_, fun ho => ?_, fun hl => ?_, fun ho => take_bad low rs z m ho, hf.2.1, ?_⟩
  · rw [hf.2.2.1 x]
    rw [hnx, List.mem_append] at hx
    rcases hx with hx | hx
    · rw [h.seen x hx]; rfl
    · simp at hx; subst hx; simp
  · have hlen := h.len
    rw [take_few low rs z m h.right h0 (by omega) (by omega), h.few hl x hx, hnx]
    rw [Bool.eq_iff_iff]
    simp
  · have := take_len low rs z m h.right
    have := h.len
    omega
  · rcases hf.2.2.2 with h2 | h2
    · exact h2
    · rw [(take_bad low rs z m h2).2]; exact h.lim
  · rw [has_right h.right, hin]
  · cases hc : (l.take k).contains z
    · rfl
    · have := h.seen z (by simpa using hc)
      rw [hin, ho] at this
      cases this
  · rw [← h.few hl z h0, hin]
  · rw [has_right hf.1]
    exact chain_low ((right_iff _ _).1 hf.1).1
end Go.Proofs.Ytikfbgbfjipceaa

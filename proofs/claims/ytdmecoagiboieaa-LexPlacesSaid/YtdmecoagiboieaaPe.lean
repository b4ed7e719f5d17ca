/-
  Plain law of layer 11 for LexPlaces: each token stands at its place.
-/
import Derived.Test.YtdmecoagiboieaaPd
namespace Go.Proofs.Ytdmecoagiboieaa

def placesP (t : List UInt8) (e : Nat) : List Tok → Prop
  | [] => e = t.length
  | x :: r => ∃ p : Nat, x.pos = p ∧ e ≤ p ∧ p + x.text.length ≤ t.length ∧ (x.text = [] ↔ r = []) ∧ (x.kind = 3 ↔ r = []) ∧ (x.kind ≠ 1 → x.n = 0) ∧
      (t.take (p + x.text.length)).drop p = x.text ∧ (∀ j (h : j < t.length), e ≤ j → j < p → isBlank (t[j].toNat) = true) ∧ placesP t (p + x.text.length) r
theorem places_ok (t : List UInt8) : ∀ (n : Nat) (pos e : Nat) (ts : List Tok), t.length - pos = n → pos ≤ t.length → e ≤ pos → (∀ j (h : j < t.length), e ≤ j → j < pos → isBlank (t[j].toNat) = true) →
    lexP pos (t.drop pos) = .toks ts → placesP t e ts := by
  intro n
  induction n using Nat.strongRecOn with
  | _ n ih =>
    intro pos e ts hn hp he hbl h
    rcases Nat.lt_or_ge pos t.length with hlt | hge
    · have hd := List.drop_eq_getElem_cons hlt
      rw [hd] at h
      cases hb : isBlank (t[pos].toNat)
      · cases hx : nextP (t[pos] :: t.drop (pos + 1)) with
        | error er => rw [lexP_err _ _ _ _ hb hx] at h; cases h
        | ok x =>
          have hlen := nextP_len hx
          have htx := next_text _ _ hx
          have hk := next_kind _ _ hx
          rw [lexP_tok _ _ _ _ hb hx] at h
          rw [← hd] at h hlen htx
          rw [List.drop_drop] at h
          simp only [List.length_drop] at hlen
          cases hr : lexP (pos + x.text.length) (t.drop (pos + x.text.length)) with
          | err p er => rw [hr] at h; simp [Res.cons] at h
          | toks q =>
            rw [hr] at h
            simp only [Res.cons, Res.toks.injEq] at h
            subst h
            have hq : q ≠ [] := fun h0 => lexP_toks_ne _ _ (h0 ▸ hr)
            refine ⟨pos, rfl, he, by simp only; omega, ?_, ?_, ?_, ?_, hbl, ?_⟩
            · simp only [hq, iff_false]
              intro h0
              rw [h0] at hlen
              simp at hlen
            · simp only [hq, iff_false]
              exact htx.2.2.2
            · intro h1
              rcases hk with hk | hk | hk
              · exact hk.2.1
              · exact absurd hk.1 h1
              · exact hk.2
            · simp only
              rw [List.drop_take, show pos + x.text.length - pos = x.text.length by omega]
              exact htx.1.symm
            · exact ih _ (by omega) (pos + x.text.length) (pos + x.text.length) q rfl (by omega) (Nat.le_refl _) (fun j _ h1 h2 => absurd h1 (by omega)) hr
      · rw [lexP_blank _ _ _ hb] at h
        refine ih _ (by omega) (pos + 1) e ts rfl (by omega) (by omega) (fun j hj h1 h2 => ?_) h
        rcases Nat.lt_or_ge j pos with h3 | h3
        · exact hbl j hj h1 h3
        · obtain rfl : j = pos := by omega
          exact hb
    · have hpe : pos = t.length := by omega
      rw [List.drop_of_length_le hge, lexP_nil] at h
      injection h with h
      subst h
      refine ⟨pos, rfl, he, by simp; omega, by simp, by simp, fun _ => rfl, ?_, hbl, ?_⟩
      · simp
      · simp [placesP, hpe]
end Go.Proofs.Ytdmecoagiboieaa

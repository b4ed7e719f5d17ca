/-
  Plain laws of layer 11: spans of joined and cut strings; what next finds there; the shape of a list of tokens.
-/
import Derived.Test.YtdmecoagiboieaaPb
namespace Go.Proofs.Ytdmecoagiboieaa

theorem spanN_app (p : Int → Bool) (x : List UInt8) (c : UInt8) (y : List UInt8) (h : p c.toNat = false) : spanN p (x ++ c :: y) = spanN p x := by
  induction x with
  | nil => rw [List.nil_append, spanN_cons, h]; rfl
  | cons d x ih => rw [List.cons_append, spanN_cons, spanN_cons, ih]
theorem spanN_take (p : Int → Bool) (l : List UInt8) (k : Nat) : spanN p (l.take k) = min k (spanN p l) := by
  induction l generalizing k with
  | nil => simp [spanN]
  | cons c l ih =>
    cases k with
    | zero => simp [spanN]
    | succ k =>
      rw [List.take_succ_cons, spanN_cons, spanN_cons, ih]
      split <;> omega
theorem blank_alnum {c : Int} (h : isBlank c = true) : isAlnum c = false ∧ isDigit c = false ∧ isLetter c = false := by
  simp only [isBlank, Bool.or_eq_true, beq_iff_eq] at h
  simp only [isAlnum, isLetter, isDigit]
  rcases h with (h | h) | h <;> subst h <;> decide
theorem next_app (x : List UInt8) (c : UInt8) (y : List UInt8) (hx : x ≠ []) (h : isBlank c.toNat = true) : nextP (x ++ c :: y) = nextP x := by
  obtain ⟨h1, h2, h3⟩ := blank_alnum h
  cases x with
  | nil => exact absurd rfl hx
  | cons d x =>
    have e1 : spanN isAlnum (d :: (x ++ c :: y)) = spanN isAlnum (d :: x) := spanN_app _ (d :: x) c y h1
    have e2 : spanN isDigit (d :: (x ++ c :: y)) = spanN isDigit (d :: x) := spanN_app _ (d :: x) c y h2
    have t1 : (d :: (x ++ c :: y)).take (spanN isAlnum (d :: x)) = (d :: x).take (spanN isAlnum (d :: x)) := by
      rw [← List.cons_append, List.take_append_of_le_length (spanN_le _ _)]
    have t2 : (d :: (x ++ c :: y)).take (spanN isDigit (d :: x)) = (d :: x).take (spanN isDigit (d :: x)) := by
      rw [← List.cons_append, List.take_append_of_le_length (spanN_le _ _)]
    simp only [List.cons_append, nextP, e1, e2, t1, t2]
/-- what next finds does not change if what is behind the token is cut off -/
theorem next_take (l : List UInt8) (t : Tok) (h : nextP l = .ok t) (k : Nat) (hk : t.text.length ≤ k) : nextP (l.take k) = .ok t := by
  have hlen := nextP_len h
  cases l with
  | nil => simp [nextP] at h
  | cons c l =>
    cases k with
    | zero => omega
    | succ k =>
      have s1 := spanN_take isAlnum (c :: l) (k + 1)
      have s2 := spanN_take isDigit (c :: l) (k + 1)
      simp only [List.take_succ_cons] at s1 s2 ⊢
      simp only [nextP] at h ⊢
      split at h
      · rename_i hl
        split at h
        · rename_i h20
          injection h with h
          subst h
          simp only [List.length_take] at hk
          have hs := spanN_le isAlnum (c :: l)
          have e : spanN isAlnum (c :: l.take k) = spanN isAlnum (c :: l) := by rw [s1]; omega
          rw [if_pos hl, e, if_pos h20]
          congr 2
          rw [← List.take_succ_cons, List.take_take, Nat.min_eq_left (by omega)]
        · cases h
      · rename_i hl
        split at h
        · rename_i hd
          split at h
          · rename_i hok
            injection h with h
            subst h
            simp only [List.length_take] at hk
            have hs := spanN_le isDigit (c :: l)
            have e : spanN isDigit (c :: l.take k) = spanN isDigit (c :: l) := by rw [s2]; omega
            have e2 : List.take (spanN isDigit (c :: l)) (c :: l.take k) = (c :: l).take (spanN isDigit (c :: l)) := by
              rw [← List.take_succ_cons, List.take_take, Nat.min_eq_left (by omega)]
            rw [if_neg hl, if_pos hd, e, e2, if_pos hok]
          · cases h
        · rename_i hd
          rw [if_neg hl, if_neg hd]
          exact h
/-- text of the token is the beginning of the string, and stands for itself -/
theorem next_text (l : List UInt8) (t : Tok) (h : nextP l = .ok t) : t.text = l.take t.text.length ∧ t.pos = 0 ∧ nextP t.text = .ok t ∧ t.kind ≠ 3 := by
  have hlen := nextP_len h
  have htx : t.text = l.take t.text.length := by
    cases l with
    | nil => simp [nextP] at h
    | cons c l =>
      simp only [nextP] at h
      split at h
      · split at h
        · injection h with h
          subst h
          have hs := spanN_le isAlnum (c :: l)
          simp only [List.length_take, Nat.min_eq_left hs]
        · cases h
      · split at h
        · split at h
          · injection h with h
            subst h
            have hs := spanN_le isDigit (c :: l)
            simp only [List.length_take, Nat.min_eq_left hs]
          · cases h
        · split at h
          · rename_i h59
            injection h with h
            subst h
            have hc : c = 59 := by
              apply UInt8.toNat_inj.1
              simpa using h59
            subst hc
            rfl
          · cases h
  have hn := next_take l t h t.text.length (Nat.le_refl _)
  rw [← htx] at hn
  refine ⟨htx, ?_, hn, ?_⟩
  · cases l with
    | nil => simp [nextP] at h
    | cons c l =>
      simp only [nextP] at h
      repeat' split at h
      all_goals first | (cases h; done) | (injection h with h; subst h; rfl)
  · rcases next_kind l t h with hk | hk | hk <;> omega
theorem next_head (l : List UInt8) (t : Tok) (h : nextP l = .ok t) (c : UInt8) (r : List UInt8) (hl : l = c :: r) : isBlank c.toNat = false := by
  subst hl
  simp only [nextP] at h
  split at h
  · rename_i hc; exact letter_blank hc
  · split at h
    · rename_i hc; exact digit_blank hc
    · split at h
      · rename_i hc
        simp only [beq_iff_eq] at hc
        rw [hc]; decide
      · cases h

/-- the shape of the tokens of a string: tokens that next finds, then the end -/
def TokOk (t : Tok) : Prop := nextP t.text = .ok { t with pos := 0 }
theorem lexP_shape (l : List UInt8) : ∀ (pos : Nat) (ts : List Tok), lexP pos l = .toks ts → ∃ us, ts = us ++ [⟨3, [], 0, ((pos + l.length : Nat) : Int)⟩] ∧ (∀ t ∈ us, TokOk t) ∧ (us.map (fun t => t.text.length)).sum ≤ l.length := by
  have key : ∀ (n : Nat) (l : List UInt8), l.length = n → ∀ (pos : Nat) (ts : List Tok), lexP pos l = .toks ts → ∃ us, ts = us ++ [⟨3, [], 0, ((pos + l.length : Nat) : Int)⟩] ∧ (∀ t ∈ us, TokOk t) ∧ (us.map (fun t => t.text.length)).sum ≤ l.length := by
    intro n
    induction n using Nat.strongRecOn with
    | _ n ih =>
      intro l hl pos ts h
      cases l with
      | nil => rw [lexP_nil] at h; injection h with h; exact ⟨[], by simp [← h], by simp, by simp⟩
      | cons c l =>
        simp only [List.length_cons] at hl
        cases hb : isBlank c.toNat
        · cases hn : nextP (c :: l) with
          | error e => rw [lexP_err _ _ _ _ hb hn] at h; cases h
          | ok t =>
            have hlen := nextP_len hn
            simp only [List.length_cons] at hlen
            have htx := next_text _ _ hn
            rw [lexP_tok _ _ _ _ hb hn] at h
            cases hr : lexP (pos + t.text.length) (List.drop t.text.length (c :: l)) with
            | err p e => rw [hr] at h; simp [Res.cons] at h
            | toks q =>
              rw [hr] at h
              simp only [Res.cons, Res.toks.injEq] at h
              obtain ⟨us, hq, hall, hsum⟩ := ih _ (by simp only [List.length_drop, List.length_cons]; omega) _ rfl _ _ hr
              simp only [List.length_drop, List.length_cons] at hsum hq
              refine ⟨{ t with pos := (pos : Int) } :: us, ?_, ?_, ?_⟩
              · rw [← h, hq]
                simp only [List.cons_append, List.length_cons, List.cons.injEq, true_and]
                congr 3
                omega
              · intro u hu
                rcases List.mem_cons.1 hu with rfl | hu
                · unfold TokOk
                  simp only [htx.2.2.1]
                  congr 1
                  have := htx.2.1
                  cases t; simp at this ⊢; exact this
                · exact hall u hu
              · simp only [List.map_cons, List.sum_cons, List.length_cons]
                omega
        · rw [lexP_blank _ _ _ hb] at h
          obtain ⟨us, hq, hall, hsum⟩ := ih l.length (by omega) l rfl _ _ h
          refine ⟨us, ?_, hall, by simp; omega⟩
          rw [hq]
          simp only [List.length_cons]
          congr 4
          omega
  exact key _ l rfl
end Go.Proofs.Ytdmecoagiboieaa

/-
  Plain laws of layer 11 for LexWords: which strings are words or numbers, by their tokens.
-/
import Derived.Test.YtdmecoagiboieaaPa
namespace Go.Proofs.Ytdmecoagiboieaa

theorem lexP_toks_ne (pos : Nat) (l : List UInt8) : lexP pos l ≠ .toks [] := by
  intro h
  have key : ∀ (f pos : Nat) (l : List UInt8), lexF f pos l ≠ .toks [] := by
    intro f
    induction f with
    | zero => intro pos l h; simp [lexF] at h
    | succ f ih =>
      intro pos l h
      cases l with
      | nil => simp [lexF] at h
      | cons c l =>
        simp only [lexF] at h
        split at h
        · exact ih _ _ h
        · split at h
          · cases h
          · rename_i t _
            cases hr : lexF f (pos + t.text.length) (List.drop t.text.length (c :: l)) <;> rw [hr] at h <;> simp [Res.cons] at h
  exact key _ _ _ h
/-- the first token: blanks, then what next finds -/
theorem first_tok (pos : Nat) (l : List UInt8) (x : Tok) (y : Tok) (r : List Tok) (h : lexP pos l = .toks (x :: y :: r)) :
    ∃ t, nextP (l.drop (spanN isBlank l)) = .ok t ∧ x = { t with pos := ((pos + spanN isBlank l : Nat) : Int) } := by
  rw [lexP_span] at h
  generalize hb : spanN isBlank l = b at *
  cases hd : l.drop b with
  | nil => rw [hd, lexP_nil] at h; simp at h
  | cons c m =>
    have hblank : isBlank c.toNat = false := by
      have hlt : b < l.length := by
        rcases Nat.lt_or_ge b l.length with h' | h'
        · exact h'
        · rw [List.drop_of_length_le h'] at hd; cases hd
      have key : ∀ (m : List UInt8) (n : Nat), spanN isBlank m = n → (h : n < m.length) → isBlank (m[n].toNat) = false := by
        intro m
        induction m with
        | nil => intro n _ h; simp at h
        | cons c m ih =>
          intro n hn h
          rw [spanN_cons] at hn
          by_cases hc : isBlank c.toNat
          · rw [if_pos hc] at hn
            subst hn
            simpa using ih _ rfl (by simpa using h)
          · rw [if_neg hc] at hn
            subst hn
            simpa using hc
      have h1 := key l b hb hlt
      have h2 : l[b] = c := by
        have := List.drop_eq_getElem_cons hlt
        rw [hd] at this
        exact (List.cons.inj this).1.symm
      rw [h2] at h1
      exact h1
    rw [hd] at h
    cases hn : nextP (c :: m) with
    | error e => rw [lexP_err _ _ _ _ hblank hn] at h; cases h
    | ok t =>
      rw [lexP_tok _ _ _ _ hblank hn] at h
      cases hr : lexP (pos + b + t.text.length) (List.drop t.text.length (c :: m)) with
      | err p e => rw [hr] at h; simp [Res.cons] at h
      | toks q =>
        rw [hr] at h
        simp only [Res.cons, Res.toks.injEq, List.cons.injEq] at h
        exact ⟨t, rfl, h.1.symm⟩
theorem letter_blank {c : Int} (h : isLetter c = true) : isBlank c = false := by
  simp [isLetter] at h; simp [isBlank]; omega
theorem digit_blank {c : Int} (h : isDigit c = true) : isBlank c = false := by
  simp [isDigit] at h; simp [isBlank]; omega
theorem digit_letter {c : Int} (h : isDigit c = true) : isLetter c = false := by
  simp [isDigit] at h; simp [isLetter]; omega
theorem word_lex (t : List UInt8) (h : wordB t = true) : lexP 0 t = .toks [⟨0, t, 0, 0⟩, ⟨3, [], 0, t.length⟩] ∧ t.length ≤ 20 := by
  cases t with
  | nil => simp [wordB] at h
  | cons c r =>
    simp only [wordB, Bool.and_eq_true, decide_eq_true_eq] at h
    obtain ⟨⟨hl, hr⟩, ha⟩ := h
    have hsp : spanN isAlnum (c :: r) = r.length + 1 := by
      have : allB isAlnum (c :: r) = true := by
        simp only [allB, List.all_cons] at ha ⊢
        rw [ha]; simp [isAlnum, hl]
      exact (spanN_all _ _).2 this
    have hn : nextP (c :: r) = .ok ⟨0, c :: r, 0, 0⟩ := by
      simp only [nextP, hl, hsp, if_true]
      rw [if_pos (by omega)]
      simp
    refine ⟨?_, by simp; omega⟩
    rw [lexP_tok _ _ _ _ (letter_blank hl) hn]
    simp [lexP_nil, Res.cons]
theorem num_lex (t : List UInt8) (h : numOk t = true) : lexP 0 t = .toks [⟨1, t, numGo 0 t, 0⟩, ⟨3, [], 0, t.length⟩] ∧ 0 ≤ numGo 0 t ∧ numGo 0 t ≤ 1099511627776 := by
  cases t with
  | nil => simp [numOk] at h
  | cons c r =>
    have h' := h
    simp only [numOk, Bool.and_eq_true, decide_eq_true_eq] at h
    obtain ⟨⟨⟨ha, _⟩, _⟩, hv⟩ := h
    have hd : isDigit c.toNat = true := by simp only [allB, List.all_cons, Bool.and_eq_true] at ha; exact ha.1
    have hsp : spanN isDigit (c :: r) = r.length + 1 := (spanN_all _ _).2 ha
    have ht : (c :: r).take (r.length + 1) = c :: r := by simp
    have hn : nextP (c :: r) = .ok ⟨1, c :: r, numGo 0 (c :: r), 0⟩ := by
      simp only [nextP, digit_letter hd, hd, hsp, ht, h', if_true]
      simp
    refine ⟨?_, numGo_nonneg _ _ (by omega) ha, hv⟩
    rw [lexP_tok _ _ _ _ (digit_blank hd) hn]
    simp [lexP_nil, Res.cons]
theorem next_kind (l : List UInt8) (t : Tok) (h : nextP l = .ok t) :
    (t.kind = 0 ∧ t.n = 0 ∧ (t.text = l → wordB l = true)) ∨ (t.kind = 1 ∧ (t.text = l → numOk l = true)) ∨ (t.kind = 2 ∧ t.n = 0) := by
  cases l with
  | nil => simp [nextP] at h
  | cons c r =>
    simp only [nextP] at h
    split at h
    · rename_i hl
      split at h
      · rename_i h20
        injection h with h
        subst h
        refine Or.inl ⟨rfl, rfl, fun ht => ?_⟩
        have hs := spanN_le isAlnum (c :: r)
        have hle : spanN isAlnum (c :: r) = (c :: r).length := by
          have := congrArg List.length ht
          simp only [List.length_take] at this
          omega
        have ha := (spanN_all _ _).1 hle
        simp only [allB, List.all_cons, Bool.and_eq_true] at ha
        simp only [List.length_cons] at hle
        simp only [wordB, hl, allB, ha.2, Bool.true_and, Bool.and_true, decide_eq_true_eq]
        omega
      · cases h
    · split at h
      · split at h
        · rename_i hok
          injection h with h
          subst h
          refine Or.inr (Or.inl ⟨rfl, fun ht => ?_⟩)
          simp only at ht
          rw [ht] at hok
          exact hok
        · cases h
      · split at h
        · injection h with h
          subst h
          exact Or.inr (Or.inr ⟨rfl, rfl⟩)
        · cases h
/-- what LexWords says -/
theorem words_two (t : List UInt8) (x y : Tok) (h : lexP 0 t = .toks [x, y]) :
    wordB t = (decide (x.text = t) && decide (x.kind = 0)) ∧ numOk t = (decide (x.text = t) && decide (x.kind = 1)) ∧ (wordB t = true → t.length ≤ 20) ∧ (numOk t = true → numOr t = x.n ∧ 0 ≤ x.n ∧ x.n ≤ 1099511627776) := by
  obtain ⟨t', hn, hx⟩ := first_tok _ _ _ _ _ h
  have hk := next_kind _ _ hn
  have hlen := nextP_len hn
  have whole : x.text = t → t'.text = t.drop (spanN isBlank t) ∧ t.drop (spanN isBlank t) = t := by
    intro hw
    rw [hx] at hw
    simp only at hw
    rw [hw] at hlen ⊢
    have hb : spanN isBlank t = 0 := by
      have := hlen.2
      have h1 := hlen.1
      simp only [List.length_drop] at this
      omega
    rw [hb]
    exact ⟨rfl, rfl⟩
  have hkx : x.kind = t'.kind := by rw [hx]
  refine ⟨?_, ?_, fun hw => (word_lex t hw).2, fun hn' => ?_⟩
  · rw [Bool.eq_iff_iff]
    simp only [Bool.and_eq_true, decide_eq_true_eq]
    constructor
    · intro hw
      rw [(word_lex t hw).1] at h
      simp only [Res.toks.injEq, List.cons.injEq] at h
      rw [← h.1]
      exact ⟨rfl, rfl⟩
    · rintro ⟨hw, h0⟩
      obtain ⟨h1, h2⟩ := whole hw
      rw [h2] at hk h1
      rcases hk with hk | hk | hk
      · exact hk.2.2 h1
      · omega
      · omega
  · rw [Bool.eq_iff_iff]
    simp only [Bool.and_eq_true, decide_eq_true_eq]
    constructor
    · intro hw
      rw [(num_lex t hw).1] at h
      simp only [Res.toks.injEq, List.cons.injEq] at h
      rw [← h.1]
      exact ⟨rfl, rfl⟩
    · rintro ⟨hw, h0⟩
      obtain ⟨h1, h2⟩ := whole hw
      rw [h2] at hk h1
      rcases hk with hk | hk | hk
      · omega
      · exact hk.2 h1
      · omega
  · have hq := num_lex t hn'
    rw [hq.1] at h
    simp only [Res.toks.injEq, List.cons.injEq] at h
    rw [← h.1]
    simp only [numOr, hn', if_true]
    exact ⟨trivial, hq.2.1, hq.2.2⟩
theorem words_not (t : List UInt8) (h : ∀ x y, lexP 0 t ≠ .toks [x, y]) : wordB t = false ∧ numOk t = false ∧ numOr t = 0 := by
  have h1 : wordB t = false := by
    cases hw : wordB t
    · rfl
    · exact absurd (word_lex t hw).1 (h _ _)
  have h2 : numOk t = false := by
    cases hw : numOk t
    · rfl
    · exact absurd (num_lex t hw).1 (h _ _)
  exact ⟨h1, h2, by simp [numOr, h2]⟩
theorem lexTop_small (t : List UInt8) (h : t.length ≤ 900) : lexTop t = lexP 0 t := by simp [lexTop]; omega
theorem lexP_err_code (t : List UInt8) : ∀ (pos p : Nat) (e : Int), lexP pos t = .err p e → (e = 10 ∨ e = 11 ∨ e = 3) ∧ pos ≤ p ∧ p < pos + t.length := by
  have key : ∀ (f : Nat) (t : List UInt8), t.length < f → ∀ (pos p : Nat) (e : Int), lexF f pos t = .err p e → (e = 10 ∨ e = 11 ∨ e = 3) ∧ pos ≤ p ∧ p < pos + t.length := by
    intro f
    induction f with
    | zero => intro t h; omega
    | succ f ih =>
      intro t hf pos p e h
      cases t with
      | nil => simp [lexF] at h
      | cons c r =>
        simp only [List.length_cons] at hf
        simp only [lexF] at h
        split at h
        · have := ih r (by omega) _ _ _ h
          simp only [List.length_cons]
          omega
        · split at h
          · rename_i e' hn
            injection h with h1 h2
            subst h1; subst h2
            refine ⟨?_, by omega, by simp⟩
            simp only [nextP] at hn
            repeat' split at hn
            all_goals first | (cases hn; done) | (injection hn with hn; omega)
          · rename_i t' hn
            have hl := nextP_len hn
            cases hr : lexF f (pos + t'.text.length) (List.drop t'.text.length (c :: r)) with
            | toks q => rw [hr] at h; simp [Res.cons] at h
            | err p' e' =>
              rw [hr] at h
              simp only [Res.cons, Res.err.injEq] at h
              obtain ⟨rfl, rfl⟩ := h
              have := ih _ (by simp only [List.length_drop, List.length_cons] at hl ⊢; omega) _ _ _ hr
              simp only [List.length_drop, List.length_cons] at this hl ⊢
              omega
  intro pos p e h
  exact key _ t (by omega) pos p e h
end Go.Proofs.Ytdmecoagiboieaa

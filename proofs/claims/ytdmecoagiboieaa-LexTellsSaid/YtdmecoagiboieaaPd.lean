/-
  Plain laws of layer 11 for LexBack, LexJoins, LexErrors.
-/
import Derived.Test.YtdmecoagiboieaaPc
namespace Go.Proofs.Ytdmecoagiboieaa

def Res.preT (ts : List Tok) : Res → Res
  | .toks l => .toks (ts ++ l)
  | .err p e => .err p e
def shiftT (d : Nat) (t : Tok) : Tok := { t with pos := t.pos + (d : Int) }
def Res.shift (d : Nat) : Res → Res
  | .toks l => .toks (l.map (shiftT d))
  | .err p e => .err (p + d) e

theorem lexP_shift (d : Nat) : ∀ (n : Nat) (l : List UInt8), l.length = n → ∀ pos, lexP (pos + d) l = (lexP pos l).shift d := by
  intro n
  induction n using Nat.strongRecOn with
  | _ n ih =>
    intro l hl pos
    cases l with
    | nil => simp [lexP_nil, Res.shift, shiftT]
    | cons c l =>
      simp only [List.length_cons] at hl
      cases hb : isBlank c.toNat
      · cases hn : nextP (c :: l) with
        | error e => rw [lexP_err _ _ _ _ hb hn, lexP_err _ _ _ _ hb hn]; rfl
        | ok t =>
          have hlen := nextP_len hn
          simp only [List.length_cons] at hlen
          rw [lexP_tok _ _ _ _ hb hn, lexP_tok _ _ _ _ hb hn, show pos + d + t.text.length = pos + t.text.length + d by omega,
            ih _ (by simp only [List.length_drop, List.length_cons]; omega) _ rfl]
          cases lexP (pos + t.text.length) (List.drop t.text.length (c :: l)) <;> simp [Res.shift, Res.cons, shiftT]
      · rw [lexP_blank _ _ _ hb, lexP_blank _ _ _ hb, show pos + d + 1 = pos + 1 + d by omega]
        exact ih l.length (by omega) l rfl _

/-- a string, a blank and a string: the tokens of the first without its end, then those of the second -/
theorem lexP_app (c : UInt8) (y : List UInt8) (hc : isBlank c.toNat = true) : ∀ (n : Nat) (x : List UInt8), x.length = n → ∀ pos,
    (∀ p e, lexP pos x = .err p e → lexP pos (x ++ c :: y) = .err p e) ∧
    (∀ us t, lexP pos x = .toks (us ++ [t]) → lexP pos (x ++ c :: y) = (lexP (pos + x.length + 1) y).preT us) := by
  intro n
  induction n using Nat.strongRecOn with
  | _ n ih =>
    intro x hl pos
    cases x with
    | nil =>
      refine ⟨fun p e h => by simp [lexP_nil] at h, fun us t h => ?_⟩
      rw [lexP_nil] at h
      injection h with h
      have hu : us = [] := by
        cases us with
        | nil => rfl
        | cons a us => simp at h
      subst hu
      simp only [List.nil_append, List.length_nil, Nat.add_zero]
      rw [lexP_blank _ _ _ hc]
      cases lexP (pos + 1) y <;> rfl
    | cons d x =>
      simp only [List.length_cons] at hl
      cases hb : isBlank d.toNat
      · have hna := next_app (d :: x) c y (by simp) hc
        simp only [List.cons_append] at hna ⊢
        cases hn : nextP (d :: x) with
        | error e =>
          rw [hn] at hna
          rw [lexP_err _ _ _ _ hb hn, lexP_err _ _ _ _ hb hna]
          exact ⟨fun p e h => h, fun us t h => (by cases h)⟩
        | ok t =>
          rw [hn] at hna
          have hlen := nextP_len hn
          simp only [List.length_cons] at hlen
          rw [lexP_tok _ _ _ _ hb hn, lexP_tok _ _ _ _ hb hna]
          have hdr : List.drop t.text.length (d :: (x ++ c :: y)) = List.drop t.text.length (d :: x) ++ c :: y := by
            rw [← List.cons_append, List.drop_append_of_le_length (by simp only [List.length_cons]; omega)]
          rw [hdr]
          obtain ⟨ih1, ih2⟩ := ih (List.drop t.text.length (d :: x)).length (by simp only [List.length_drop, List.length_cons]; omega) _ rfl (pos + t.text.length)
          cases hr : lexP (pos + t.text.length) (List.drop t.text.length (d :: x)) with
          | err p e =>
            rw [hr] at ih1
            rw [ih1 p e rfl]
            exact ⟨fun p e h => h, fun us t h => (by cases h)⟩
          | toks q =>
            refine ⟨fun p e h => (by cases h), fun us u h => ?_⟩
            simp only [Res.cons, Res.toks.injEq] at h
            have hq : ∃ us', us = { t with pos := (pos : Int) } :: us' ∧ q = us' ++ [u] := by
              cases us with
              | nil =>
                simp only [List.nil_append, List.cons.injEq] at h
                exact absurd (h.2 ▸ hr) (lexP_toks_ne _ _)
              | cons a us => simp only [List.cons_append, List.cons.injEq] at h; exact ⟨us, by rw [h.1], h.2⟩
            obtain ⟨us', rfl, rfl⟩ := hq
            rw [ih2 us' u hr]
            have e : pos + t.text.length + (List.drop t.text.length (d :: x)).length + 1 = pos + (d :: x).length + 1 := by
              simp only [List.length_drop, List.length_cons]; omega
            rw [e]
            cases lexP (pos + (d :: x).length + 1) y <;> simp [Res.preT, Res.cons]
      · simp only [List.cons_append]
        rw [lexP_blank _ _ _ hb, lexP_blank _ _ _ hb]
        obtain ⟨ih1, ih2⟩ := ih x.length (by omega) x rfl (pos + 1)
        refine ⟨ih1, fun us t h => ?_⟩
        rw [ih2 us t h]
        simp only [List.length_cons]
        rw [show pos + 1 + x.length + 1 = pos + (x.length + 1) + 1 by omega]

/-- blanks behind a string -/
theorem lexP_fill (k : Nat) : ∀ (x : List UInt8) (pos : Nat),
    (∀ p e, lexP pos x = .err p e → lexP pos (x ++ List.replicate k 32) = .err p e) ∧
    (∀ us t, lexP pos x = .toks (us ++ [t]) → ∃ t', lexP pos (x ++ List.replicate k 32) = .toks (us ++ [t'])) := by
  have hbl : ∀ (k pos : Nat), lexP pos (List.replicate k 32) = .toks [⟨3, [], 0, ((pos + k : Nat) : Int)⟩] := by
    intro k
    induction k with
    | zero => intro pos; rfl
    | succ k ih =>
      intro pos
      rw [List.replicate_succ, lexP_blank _ _ _ (by decide), ih]
      congr 3
      omega
  intro x pos
  cases k with
  | zero => simp only [List.replicate_zero, List.append_nil]; exact ⟨fun _ _ h => h, fun us t h => ⟨t, h⟩⟩
  | succ k =>
    rw [List.replicate_succ]
    obtain ⟨h1, h2⟩ := lexP_app 32 (List.replicate k 32) (by decide) _ x rfl pos
    refine ⟨h1, fun us t h => ?_⟩
    rw [h2 us t h, hbl]
    exact ⟨_, rfl⟩

/-- an error: what is before it has tokens, and it stands at the beginning of what begins there -/
theorem lexP_cut : ∀ (n : Nat) (l : List UInt8), l.length = n → ∀ (pos p : Nat) (e : Int), lexP pos l = .err p e →
    (∃ ts, lexP pos (l.take (p - pos)) = .toks ts) ∧ pos ≤ p ∧ ∀ q, lexP q (l.drop (p - pos)) = .err q e := by
  intro n
  induction n using Nat.strongRecOn with
  | _ n ih =>
    intro l hl pos p e h
    cases l with
    | nil => simp [lexP_nil] at h
    | cons c l =>
      simp only [List.length_cons] at hl
      cases hb : isBlank c.toNat
      · cases hn : nextP (c :: l) with
        | error e' =>
          rw [lexP_err _ _ _ _ hb hn] at h
          injection h with h1 h2
          subst h1; subst h2
          simp only [Nat.sub_self, List.take_zero, List.drop_zero]
          exact ⟨⟨_, lexP_nil _⟩, Nat.le_refl _, fun q => lexP_err _ _ _ _ hb hn⟩
        | ok t =>
          have hlen := nextP_len hn
          simp only [List.length_cons] at hlen
          rw [lexP_tok _ _ _ _ hb hn] at h
          cases hr : lexP (pos + t.text.length) (List.drop t.text.length (c :: l)) with
          | toks q => rw [hr] at h; simp [Res.cons] at h
          | err p' e' =>
            rw [hr] at h
            simp only [Res.cons, Res.err.injEq] at h
            obtain ⟨rfl, rfl⟩ := h
            obtain ⟨⟨ts, i1⟩, i2, i3⟩ := ih _ (by simp only [List.length_drop, List.length_cons]; omega) _ rfl _ _ _ hr
            have hnt := next_take _ _ hn (p' - pos) (by omega)
            refine ⟨?_, by omega, fun q => ?_⟩
            · obtain ⟨m, hm⟩ : ∃ m, p' - pos = m + 1 := ⟨p' - pos - 1, by omega⟩
              rw [hm] at hnt ⊢
              simp only [List.take_succ_cons] at hnt ⊢
              rw [lexP_tok _ _ _ _ hb hnt]
              have e2 : List.drop t.text.length (c :: l.take m) = (List.drop t.text.length (c :: l)).take (p' - (pos + t.text.length)) := by
                rw [← List.take_succ_cons, ← hm, List.drop_take]
                congr 1
                omega
              rw [e2, i1]
              exact ⟨_, rfl⟩
            · have := i3 q
              rw [List.drop_drop] at this
              rw [show p' - pos = t.text.length + (p' - (pos + t.text.length)) by omega]
              exact this
      · rw [lexP_blank _ _ _ hb] at h
        obtain ⟨⟨ts, i1⟩, i2, i3⟩ := ih l.length (by omega) l rfl _ _ _ h
        obtain ⟨m, hm⟩ : ∃ m, p - pos = m + 1 := ⟨p - pos - 1, by omega⟩
        have hm' : p - (pos + 1) = m := by omega
        rw [hm'] at i1 i3
        rw [hm]
        simp only [List.take_succ_cons, List.drop_succ_cons]
        rw [lexP_blank _ _ _ hb]
        exact ⟨⟨ts, i1⟩, by omega, i3⟩

/-- the text of tokens has the same tokens -/
def likeAll (us ms : List Tok) : Prop := us.map (fun t => (t.kind, t.text, t.n)) = ms.map (fun t => (t.kind, t.text, t.n))
theorem lex_join : ∀ (us : List Tok), (∀ t ∈ us, TokOk t) → ∀ pos, ∃ ms t, lexP pos (joinP (us.map Tok.text)) = .toks (ms ++ [t]) ∧ t.kind = 3 ∧ t.text = [] ∧ t.n = 0 ∧ likeAll us ms
  | [], _, pos => ⟨[], _, lexP_nil pos, rfl, rfl, rfl, rfl⟩
  | [a], h, pos => by
    have ha : nextP a.text = .ok { a with pos := 0 } := h a (by simp)
    have hlen := nextP_len ha
    simp only [List.map_cons, List.map_nil, joinP]
    cases ht : a.text with
    | nil => rw [ht] at hlen; simp at hlen
    | cons c r =>
      have hb := next_head _ _ ha c r ht
      rw [ht] at ha
      rw [lexP_tok _ _ _ _ hb ha]
      simp only [List.drop_length, lexP_nil, Res.cons]
      exact ⟨[_], _, rfl, rfl, rfl, rfl, by simp [likeAll, ht]⟩
  | a :: b :: r, h, pos => by
    have ha : nextP a.text = .ok { a with pos := 0 } := h a (by simp)
    have hlen := nextP_len ha
    obtain ⟨ms, t, hl, h3, h4, h5, hlike⟩ := lex_join (b :: r) (fun t ht => h t (List.mem_cons_of_mem _ ht)) (pos + a.text.length + 1)
    have hap := lexP_app 32 (joinP ((b :: r).map Tok.text)) (by decide) _ a.text rfl pos
    have h1 : ∃ u, lexP pos a.text = .toks ([{ a with pos := (pos : Int) }] ++ [u]) := by
      cases ht : a.text with
      | nil => rw [ht] at hlen; simp at hlen
      | cons c r' =>
        have hb := next_head _ _ ha c r' ht
        have ha' := ha
        rw [ht] at ha'
        rw [lexP_tok _ _ _ _ hb ha']
        simp only [List.drop_length, lexP_nil, Res.cons]
        exact ⟨_, rfl⟩
    obtain ⟨u, h1⟩ := h1
    refine ⟨{ a with pos := (pos : Int) } :: ms, t, ?_, h3, h4, h5, ?_⟩
    · simp only [List.map_cons, joinP] at hap hl ⊢
      rw [hap.2 _ _ h1, hl]
      rfl
    · simp only [likeAll, List.map_cons, List.cons.injEq] at hlike ⊢
      exact ⟨trivial, hlike⟩
theorem join_len : ∀ (xs : List (List UInt8)), (joinP xs).length ≤ (xs.map List.length).sum + xs.length
  | [] => by simp [joinP]
  | [a] => by simp [joinP]
  | a :: b :: r => by
    have := join_len (b :: r)
    simp only [joinP, List.length_append, List.length_cons, List.map_cons, List.sum_cons] at this ⊢
    omega
end Go.Proofs.Ytdmecoagiboieaa

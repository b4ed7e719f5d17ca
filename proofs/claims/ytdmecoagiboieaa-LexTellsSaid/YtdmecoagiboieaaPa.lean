/-
  Plain functions of layer 11 (tokens) over lists of bytes: what a span, a word, a number, a token and the list of tokens are; no program in sight.
-/
namespace Go.Proofs.Ytdmecoagiboieaa

def isLetter (c : Int) : Bool := decide (97 ≤ c) && decide (c ≤ 122)
def isDigit (c : Int) : Bool := decide (48 ≤ c) && decide (c ≤ 57)
def isBlank (c : Int) : Bool := (c == 32) || (c == 9) || (c == 10)
def isAlnum (c : Int) : Bool := isLetter c || isDigit c

def spanN (p : Int → Bool) (l : List UInt8) : Nat := (l.takeWhile (fun c => p c.toNat)).length

/-- the value of a list of digits after those that have the value n -/
def numGo (n : Int) : List UInt8 → Int
  | [] => n
  | c :: l => numGo (10 * n + ((c.toNat : Int) - 48)) l

def allB (p : Int → Bool) (l : List UInt8) : Bool := l.all (fun c => p c.toNat)

def wordB (l : List UInt8) : Bool :=
  match l with
  | [] => false
  | c :: r => isLetter c.toNat && decide (r.length < 20) && allB isAlnum r

def numOk (l : List UInt8) : Bool :=
  match l with
  | [] => false
  | c :: r => allB isDigit (c :: r) && (!(c.toNat == 48) || r.isEmpty) && decide (r.length < 13) && decide (numGo 0 (c :: r) ≤ 1099511627776)

def numOr (l : List UInt8) : Int := if numOk l then numGo 0 l else 0

structure Tok where
  kind : Int
  text : List UInt8
  n : Int
  pos : Int
  deriving DecidableEq, Repr

/-- the token at the beginning (its position is 0), or the error -/
def nextP (l : List UInt8) : Except Int Tok :=
  match l with
  | [] => .error 0
  | c :: _ =>
    if isLetter c.toNat then (if spanN isAlnum l ≤ 20 then .ok ⟨0, l.take (spanN isAlnum l), 0, 0⟩ else .error 11)
    else if isDigit c.toNat then (if numOk (l.take (spanN isDigit l)) then .ok ⟨1, l.take (spanN isDigit l), numGo 0 (l.take (spanN isDigit l)), 0⟩ else .error 3)
    else if c.toNat == 59 then .ok ⟨2, [59], 0, 0⟩
    else .error 10

inductive Res where
  | toks (l : List Tok)
  | err (pos : Nat) (e : Int)
  deriving DecidableEq, Repr

def Res.cons (t : Tok) : Res → Res
  | .toks l => .toks (t :: l)
  | .err p e => .err p e

/-- the tokens of what begins at a position -/
def lexF : Nat → Nat → List UInt8 → Res
  | 0, _, _ => .err 0 0
  | _ + 1, pos, [] => .toks [⟨3, [], 0, pos⟩]
  | f + 1, pos, c :: l =>
    if isBlank c.toNat then lexF f (pos + 1) l
    else match nextP (c :: l) with
      | .error e => .err pos e
      | .ok t => (lexF f (pos + t.text.length) ((c :: l).drop t.text.length)).cons { t with pos := pos }

def lexP (pos : Nat) (l : List UInt8) : Res := lexF (l.length + 1) pos l
def lexTop (l : List UInt8) : Res := if l.length ≤ 2000 then lexP 0 l else .err 0 6

def joinP : List (List UInt8) → List UInt8
  | [] => []
  | [a] => a
  | a :: b :: r => a ++ 32 :: joinP (b :: r)
def textP (l : List Tok) : List UInt8 := joinP ((l.filter (fun t => !(t.kind == 3))).map Tok.text)

theorem spanN_le (p : Int → Bool) (l : List UInt8) : spanN p l ≤ l.length := by unfold spanN; exact (List.takeWhile_sublist _).length_le
theorem spanN_eq (p : Int → Bool) : ∀ (l : List UInt8) (k : Nat), (∀ j (h : j < l.length), j < k → p (l[j].toNat) = true) → (hk : k ≤ l.length) → (∀ h : k < l.length, p (l[k].toNat) = false) → spanN p l = k
  | [], k, _, hk, _ => by simp at hk; subst hk; rfl
  | c :: l, 0, _, _, h => by have := h (by simp); simp at this; simp [spanN, this]
  | c :: l, k + 1, h1, hk, h2 => by
    have h0 := h1 0 (by simp) (by omega)
    have ih := spanN_eq p l k (fun j h hj => by have := h1 (j + 1) (by simp; omega) (by omega); simpa using this) (by simpa using hk) (fun h => by have := h2 (by simp; omega); simpa using this)
    simp at h0
    simp only [spanN] at ih ⊢
    simp [h0, ih]
theorem spanN_cons (p : Int → Bool) (c : UInt8) (l : List UInt8) : spanN p (c :: l) = if p c.toNat then spanN p l + 1 else 0 := by
  simp only [spanN, List.takeWhile_cons]; split <;> simp
theorem spanN_all (p : Int → Bool) (l : List UInt8) : spanN p l = l.length ↔ allB p l = true := by
  induction l with
  | nil => simp [spanN, allB]
  | cons c l ih =>
    rw [spanN_cons]
    have := spanN_le p l
    by_cases h : p c.toNat
    · simp only [h, if_true, List.length_cons, allB, List.all_cons, Bool.true_and]
      rw [show (spanN p l + 1 = l.length + 1) ↔ (spanN p l = l.length) by omega, ih]; rfl
    · simp [h, allB]
theorem take_span_all (p : Int → Bool) (l : List UInt8) : allB p (l.take (spanN p l)) = true := by
  have : l.take (spanN p l) = l.takeWhile (fun c => p c.toNat) := by
    unfold spanN
    exact (List.prefix_iff_eq_take.1 (List.takeWhile_prefix _)).symm
  rw [this, allB]; simp [List.all_takeWhile]
theorem numGo_nonneg : ∀ (l : List UInt8) (n : Int), 0 ≤ n → allB isDigit l = true → 0 ≤ numGo n l
  | [], n, h, _ => h
  | c :: l, n, h, ha => by
    simp [allB, isDigit] at ha
    simp only [numGo]
    exact numGo_nonneg l _ (by omega) (by simp [allB, isDigit]; exact ha.2)
theorem numGo_snoc : ∀ (l : List UInt8) (n : Int) (c : UInt8), numGo n (l ++ [c]) = 10 * numGo n l + ((c.toNat : Int) - 48)
  | [], _, _ => rfl
  | _ :: l, n, c => by simp only [List.cons_append, numGo]; exact numGo_snoc l _ c
theorem allB_get {p : Int → Bool} {l : List UInt8} (h : allB p l = true) (i : Nat) (hi : i < l.length) : p (l[i].toNat) = true := by
  simp only [allB, List.all_eq_true] at h
  exact h _ (List.getElem_mem hi)
theorem take_snoc (l : List UInt8) (k : Nat) (h : k < l.length) : l.take (k + 1) = l.take k ++ [l[k]] := by
  rw [List.take_succ_eq_append_getElem h]
theorem allB_take {p : Int → Bool} {l : List UInt8} (h : allB p l = true) (k : Nat) : allB p (l.take k) = true := by
  simp only [allB, List.all_eq_true] at h ⊢
  exact fun x hx => h x (List.mem_of_mem_take hx)
theorem numGo_bound (l : List UInt8) (hd : allB isDigit l = true) : ∀ k, k ≤ l.length → 0 ≤ numGo 0 (l.take k) ∧ numGo 0 (l.take k) < (10 : Int) ^ k
  | 0, _ => by simp [numGo]
  | k + 1, hk => by
    have ih := numGo_bound l hd k (by omega)
    have hg := allB_get hd k (by omega)
    simp [isDigit] at hg
    rw [take_snoc l k (by omega), numGo_snoc, Int.pow_succ]
    omega
theorem pow_le13 : ∀ k : Nat, k ≤ 13 → (10 : Int) ^ k ≤ 10000000000000 := by decide
theorem nextP_len {l : List UInt8} {t : Tok} (h : nextP l = .ok t) : 0 < t.text.length ∧ t.text.length ≤ l.length := by
  cases l with
  | nil => simp [nextP] at h
  | cons c l =>
    simp only [nextP] at h
    have h1 := spanN_le isAlnum (c :: l)
    have h2 := spanN_le isDigit (c :: l)
    split at h
    · rename_i hl
      have : 0 < spanN isAlnum (c :: l) := by rw [spanN_cons, if_pos (by simp [isAlnum, hl])]; omega
      split at h
      · cases h; simp at h1 ⊢; omega
      · cases h
    · split at h
      · rename_i hd
        have : 0 < spanN isDigit (c :: l) := by rw [spanN_cons, if_pos hd]; omega
        split at h
        · cases h; simp at h2 ⊢; omega
        · cases h
      · split at h
        · cases h; simp
        · cases h
theorem lexF_fuel : ∀ (f g pos : Nat) (l : List UInt8), l.length < f → l.length < g → lexF f pos l = lexF g pos l
  | 0, _, _, _, h, _ => absurd h (by omega)
  | _, 0, _, _, _, h => absurd h (by omega)
  | f + 1, g + 1, pos, [], _, _ => rfl
  | f + 1, g + 1, pos, c :: l, hf, hg => by
    simp only [List.length_cons] at hf hg
    simp only [lexF]
    split
    · exact lexF_fuel f g _ l (by omega) (by omega)
    · split
      · rfl
      · rename_i t ht
        have := nextP_len ht
        simp only [List.length_cons] at this
        rw [lexF_fuel f g _ _ (by simp; omega) (by simp; omega)]
theorem lexP_nil (pos : Nat) : lexP pos [] = .toks [⟨3, [], 0, pos⟩] := rfl
theorem lexP_blank (pos : Nat) (c : UInt8) (l : List UInt8) (h : isBlank c.toNat = true) : lexP pos (c :: l) = lexP (pos + 1) l := by
  simp only [lexP, List.length_cons, lexF, h, if_true]
theorem lexP_err (pos : Nat) (c : UInt8) (l : List UInt8) (e : Int) (h : isBlank c.toNat = false) (hn : nextP (c :: l) = .error e) : lexP pos (c :: l) = .err pos e := by
  simp only [lexP, lexF, h, hn]; simp
theorem lexP_tok (pos : Nat) (c : UInt8) (l : List UInt8) (t : Tok) (h : isBlank c.toNat = false) (hn : nextP (c :: l) = .ok t) :
    lexP pos (c :: l) = (lexP (pos + t.text.length) ((c :: l).drop t.text.length)).cons { t with pos := pos } := by
  have := nextP_len hn
  simp only [List.length_cons] at this
  simp only [lexP, lexF, h, hn, List.length_cons]
  simp only [Bool.false_eq_true, if_false]
  rw [lexF_fuel (l.length + 1) ((List.drop t.text.length (c :: l)).length + 1) _ _ (by simp; omega) (by omega)]
theorem lexP_span : ∀ (l : List UInt8) (pos : Nat), lexP pos l = lexP (pos + spanN isBlank l) (l.drop (spanN isBlank l))
  | [], pos => rfl
  | c :: l, pos => by
    rw [spanN_cons]
    by_cases h : isBlank c.toNat
    · rw [if_pos h, lexP_blank _ _ _ h, lexP_span l (pos + 1)]
      rw [List.drop_succ_cons, show pos + 1 + spanN isBlank l = pos + (spanN isBlank l + 1) by omega]
    · rw [if_neg h]; simp
end Go.Proofs.Ytdmecoagiboieaa

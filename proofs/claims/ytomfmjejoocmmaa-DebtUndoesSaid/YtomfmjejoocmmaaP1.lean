/-
  Debts: their order, lists that are right, what is found and put in order (plain law of layer 44).
-/
import Derived.Test.YtomfmjejoocmmaaG2
import Derived.Test.YtomfmjejoocmmaaEvV
namespace Go.Proofs.Ytomfmjejoocmmaa
open Go.RowKit
theorem seqF_l {A B : Type} {k : A → Option B} {a : A} : seqF (some (Sum.inl a)) k = k a := rfl
theorem seqF_r {A B : Type} {k : A → Option B} {b : B} : seqF (some (Sum.inr b)) k = some b := rfl
theorem bind_s {A B : Type} {k : A → Option B} {a : A} : (some a).bind k = k a := rfl
def cmpI (x y : Int) : Int := if x < y then -1 else if y < x then 1 else 0
theorem cmp_Compare_eq (x y : Int) : cmp_Compare_int x y = some (cmpI x y) := by
  unfold cmp_Compare_int cmp_isNaN_int cmpI
  have h1 : ∀ z : Int, (z != z) = false := fun z => by simp
  simp only [h1, Option.bind_some, cond_false]
  by_cases h : x < y
  · simp [h]
  · by_cases h' : y < x
    · simp [h, h']
    · simp [h, h']
theorem cmp_Or_eq (a b : Int) : cmp_Or_int [a, b] = some (if a ≠ 0 then a else b) := by
  have step : ∀ i : Nat, ∀ x, [a, b][i]? = some x → cmp_Or_int_L1 [a, b] (i : Int) = bif x != 0 then some (.inr (.inr x)) else some (.inl ((i : Int) + 1)) := by
    intro i x hx
    have hi : i < 2 := (List.getElem?_eq_some_iff.1 hx).1
    have hlt : ((i : Int) < ((([a, b] : List Int).length : Nat) : Int)) := by simp only [List.length_cons, List.length_nil]; omega
    unfold cmp_Or_int_L1
    simp only [hlt, decide_true, cond_true]
    rw [bind_some_of (show getI [a, b] (i : Int) = some x by rw [getI_nat]; exact hx), wrap64 (n := (i : Int) + 1) (by omega) (by omega)]
  have s0 := step 0 a rfl
  have s1 := step 1 b rfl
  have s2 : cmp_Or_int_L1 [a, b] 2 = some (.inr (.inl ())) := by
    unfold cmp_Or_int_L1
    rfl
  unfold cmp_Or_int
  by_cases ha : a = 0
  · subst ha
    rw [loopF_next (s' := 1) (by simpa using s0)]
    by_cases hb : b = 0
    · subst hb
      rw [loopF_next (s' := 2) (by simpa using s1), loopF_stop s2]
      rfl
    · have : (b != 0) = true := by simpa using hb
      rw [loopF_stop (b := .inr b) (by simpa [this] using s1)]
      simp [seqF]
  · have : (a != 0) = true := by simpa using ha
    rw [loopF_stop (b := .inr a) (by simpa [this] using s0)]
    simp [seqF, ha]
def d0 : api_Debt := ⟨0, 0⟩
def eqD (a b : api_Debt) : Bool := (a.Event == b.Event) && ((a.Net == b.Net) && true)
theorem foldD (a b : api_Debt) : ((a.Event == b.Event) && ((a.Net == b.Net) && true)) = eqD a b := rfl
theorem eqD_iff {a b : api_Debt} : eqD a b = true ↔ a = b := by
  cases a
  cases b
  simp [eqD]
theorem eqD_false {a b : api_Debt} : eqD a b = false ↔ a ≠ b := by
  rw [← Bool.not_eq_true, eqD_iff]
theorem eqD_refl (a : api_Debt) : eqD a a = true := eqD_iff.2 rfl
def ltD (a b : api_Debt) : Bool := decide (a.Event < b.Event) || (a.Event == b.Event && decide (a.Net < b.Net))
theorem ltD_iff {a b : api_Debt} : ltD a b = true ↔ a.Event < b.Event ∨ (a.Event = b.Event ∧ a.Net < b.Net) := by simp [ltD]
theorem ltD_not {a b : api_Debt} : ltD a b = false ↔ b.Event < a.Event ∨ (a.Event = b.Event ∧ b.Net ≤ a.Net) := by
  rw [← Bool.not_eq_true, ltD_iff]
  omega
theorem ltD_trans {a b c : api_Debt} (h : ltD a b = true) (k : ltD b c = true) : ltD a c = true := by
  rw [ltD_iff] at *
  omega
theorem ltD_irr (a : api_Debt) : ltD a a = false := by
  rw [ltD_not]
  omega
theorem debt_ext {a b : api_Debt} (h1 : a.Event = b.Event) (h2 : a.Net = b.Net) : a = b := by
  cases a
  cases b
  simp_all
theorem ltD_tri (a b : api_Debt) : ltD a b = true ∨ a = b ∨ ltD b a = true := by
  rw [ltD_iff, ltD_iff]
  by_cases h1 : a.Event = b.Event
  · by_cases h2 : a.Net = b.Net
    · exact Or.inr (Or.inl (debt_ext h1 h2))
    · omega
  · omega
def cmpD (a b : api_Debt) : Int := if cmpI a.Event b.Event ≠ 0 then cmpI a.Event b.Event else cmpI a.Net b.Net
theorem compare_eq (a b : api_Debt) : debt_compare a b = some (cmpD a b) := by
  unfold debt_compare cmpD
  rw [cmp_Compare_eq, bind_s, cmp_Compare_eq, bind_s, cmp_Or_eq, bind_s]
theorem cmpD_lt (a b : api_Debt) : decide (cmpD a b < 0) = ltD a b := by
  apply bool_ext
  rw [decide_eq_true_iff, ltD_iff]
  unfold cmpD cmpI
  repeat' split
  all_goals omega
theorem cmpD_zero (a b : api_Debt) : (cmpD a b == 0) = eqD a b := by
  apply bool_ext
  rw [beq_iff_eq, eqD_iff]
  constructor
  · intro h
    unfold cmpD cmpI at h
    refine debt_ext ?_ ?_
    · repeat' split at h
      all_goals omega
    · repeat' split at h
      all_goals omega
  · rintro rfl
    unfold cmpD cmpI
    simp
/-- a list in order, each once -/
def SD (l : List api_Debt) : Prop := l.Pairwise fun a b => ltD a b = true
/-- lists in order are the same if they have the same elements -/
theorem uniq_of {A : Type} {R : A → A → Prop} (has : ∀ x y, R x y → ¬ R y x) : ∀ {a b : List A}, a.Pairwise R → b.Pairwise R → (∀ x, x ∈ a ↔ x ∈ b) → a = b
  | [], [], _, _, _ => rfl
  | [], y :: b, _, _, h => absurd ((h y).2 (by simp)) (by simp)
  | x :: a, [], _, _, h => absurd ((h x).1 (by simp)) (by simp)
  | x :: a, y :: b, ha, hb, h => by
    obtain ⟨ha1, ha2⟩ := List.pairwise_cons.1 ha
    obtain ⟨hb1, hb2⟩ := List.pairwise_cons.1 hb
    have hxy : x = y := by
      rcases List.mem_cons.1 ((h x).1 (by simp)) with e | e
      · exact e
      · rcases List.mem_cons.1 ((h y).2 (by simp)) with e2 | e2
        · exact e2.symm
        · exact absurd (hb1 x e) (has x y (ha1 y e2))
    subst hxy
    congr 1
    refine uniq_of has ha2 hb2 fun z => ⟨fun hz => ?_, fun hz => ?_⟩
    · rcases List.mem_cons.1 ((h z).1 (by simp [hz])) with e | e
      · subst e
        exact absurd (ha1 z hz) (fun h => has z z h h)
      · exact e
    · rcases List.mem_cons.1 ((h z).2 (by simp [hz])) with e | e
      · subst e
        exact absurd (hb1 z hz) (fun h => has z z h h)
      · exact e
theorem ltD_asymm (x y : api_Debt) (h : ltD x y = true) : ¬ ltD y x = true := by
  rw [ltD_iff] at *
  omega
theorem sd_uniq {a b : List api_Debt} (ha : SD a) (hb : SD b) (h : ∀ x, x ∈ a ↔ x ∈ b) : a = b := uniq_of ltD_asymm ha hb h
theorem int_uniq {a b : List Int} (ha : a.Pairwise fun x y => x < y) (hb : b.Pairwise fun x y => x < y) (h : ∀ x, x ∈ a ↔ x ∈ b) : a = b := uniq_of (fun x y h => by omega) ha hb h
def memD (l : List api_Debt) (d : api_Debt) : Bool := l.any fun x => eqD x d
theorem memD_iff {l : List api_Debt} {d : api_Debt} : memD l d = true ↔ d ∈ l := by
  unfold memD
  rw [List.any_eq_true]
  constructor
  · rintro ⟨x, hx, e⟩
    rw [eqD_iff] at e
    rw [← e]
    exact hx
  · intro h
    exact ⟨d, h, eqD_refl d⟩
theorem memD_false {l : List api_Debt} {d : api_Debt} : memD l d = false ↔ d ∉ l := by
  rw [← Bool.not_eq_true, memD_iff]
/-- a debt in its place -/
def putD (l : List api_Debt) (d : api_Debt) : List api_Debt := l.takeWhile (fun x => ltD x d) ++ d :: l.dropWhile fun x => ltD x d
theorem mem_putD {l : List api_Debt} {d x : api_Debt} : x ∈ putD l d ↔ x = d ∨ x ∈ l := by
  unfold putD
  rw [List.mem_append, List.mem_cons]
  have h : x ∈ l ↔ x ∈ l.takeWhile (fun x => ltD x d) ∨ x ∈ l.dropWhile fun x => ltD x d := by
    rw [← List.mem_append, List.takeWhile_append_dropWhile]
  rw [h]
  constructor
  · rintro (h | h | h)
    · exact Or.inr (Or.inl h)
    · exact Or.inl h
    · exact Or.inr (Or.inr h)
  · rintro (h | h | h)
    · exact Or.inr (Or.inl h)
    · exact Or.inl h
    · exact Or.inr (Or.inr h)
theorem putD_len (l : List api_Debt) (d : api_Debt) : (putD l d).length = l.length + 1 := by
  have h := congrArg List.length (List.takeWhile_append_dropWhile (p := fun x => ltD x d) (l := l))
  rw [List.length_append] at h
  unfold putD
  rw [List.length_append, List.length_cons]
  omega
/-- what is behind is not less -/
theorem drop_not {d : api_Debt} : ∀ {l : List api_Debt}, SD l → ∀ x ∈ l.dropWhile (fun x => ltD x d), ltD x d = false
  | [], _, x, hx => by simp at hx
  | y :: l, h, x, hx => by
    obtain ⟨h1, h2⟩ := List.pairwise_cons.1 h
    rw [List.dropWhile_cons] at hx
    cases hy : ltD y d
    · rw [hy] at hx
      simp only [Bool.false_eq_true, if_false] at hx
      rcases List.mem_cons.1 hx with rfl | hx
      · exact hy
      · cases hxd : ltD x d
        · rfl
        · rw [ltD_trans (h1 x hx) hxd] at hy
          cases hy
    · rw [hy] at hx
      simp only [if_true] at hx
      exact drop_not h2 x hx
theorem take_lt {d : api_Debt} : ∀ {l : List api_Debt}, ∀ x ∈ l.takeWhile (fun x => ltD x d), ltD x d = true
  | [], x, hx => by simp at hx
  | y :: l, x, hx => by
    rw [List.takeWhile_cons] at hx
    cases hy : ltD y d
    · rw [hy] at hx
      simp at hx
    · rw [hy] at hx
      simp only [if_true] at hx
      rcases List.mem_cons.1 hx with rfl | hx
      · exact hy
      · exact take_lt x hx
theorem sd_putD {l : List api_Debt} {d : api_Debt} (h : SD l) (hd : d ∉ l) : SD (putD l d) := by
  have hs : SD (l.takeWhile (fun x => ltD x d) ++ l.dropWhile fun x => ltD x d) := by rw [List.takeWhile_append_dropWhile]; exact h
  obtain ⟨h1, h2, h3⟩ := List.pairwise_append.1 hs
  unfold SD putD
  refine List.pairwise_append.2 ⟨h1, List.pairwise_cons.2 ⟨fun x hx => ?_, h2⟩, fun x hx y hy => ?_⟩
  · have hn := drop_not h x hx
    rcases ltD_tri x d with h | h | h
    · rw [h] at hn; cases hn
    · subst h
      exact absurd ((List.dropWhile_sublist _).subset hx) hd
    · exact h
  · rcases List.mem_cons.1 hy with rfl | hy
    · exact take_lt x hx
    · exact h3 x hx y hy
/-- the elements that differ from the one before them, among the first ones -/
def ddP (s : List api_Debt) : Nat → List api_Debt
  | 0 => []
  | m + 1 => ddP s m ++ bif m == 0 || !(eqD (s.getD m d0) (s.getD (m - 1) d0)) then [s.getD m d0] else []
theorem ddP_len (s : List api_Debt) : ∀ m, (ddP s m).length ≤ m
  | 0 => Nat.le_refl _
  | m + 1 => by
    have := ddP_len s m
    rw [ddP, List.length_append]
    cases m == 0 || !(eqD (s.getD m d0) (s.getD (m - 1) d0)) <;> simp <;> omega
theorem ddP_all (s : List api_Debt) : ∀ m, m ≤ s.length → (∀ k, 1 ≤ k → k < m → eqD (s.getD k d0) (s.getD (k - 1) d0) = false) → ddP s m = s.take m
  | 0, _, _ => by simp [ddP]
  | m + 1, hm, h => by
    rw [ddP, ddP_all s m (by omega) (fun k h1 h2 => h k h1 (by omega)), take_succ_getD s d0 (by omega)]
    congr 1
    cases m with
    | zero => rfl
    | succ m =>
      have := h (m + 1) (by omega) (by omega)
      simp only [this]
      rfl
theorem compact_L1 (s : List api_Debt) (hs : s.length ≤ 1000000) (k : Nat) (h1 : 1 ≤ k) (hk : k < s.length) (heq : eqD (s.getD k d0) (s.getD (k - 1) d0) = true) (hp : ddP s k = s.take k) :
    ∃ (q : Nat) (cur : List api_Debt), loopF (slices_Compact_api_Debt_api_Debt_L1 s (k : Int)) ((k : Int), (1 : Int), s) = some (.inl ((q : Int), cur)) ∧ cur.length = s.length ∧ q ≤ s.length ∧ cur.take q = ddP s s.length := by
  refine loopF_inv (body := slices_Compact_api_Debt_api_Debt_L1 s (k : Int)) (s.length - k - 1) (fun i st => ∃ (q : Nat) (cur : List api_Debt), st = ((q : Int), ((i + 1 : Nat) : Int), cur) ∧ cur.length = s.length ∧ q ≤ k + i ∧ cur.take q = ddP s (k + i + 1) ∧ cur.drop (k + i) = s.drop (k + i))
    (fun r => ∃ (q : Nat) (cur : List api_Debt), r = some (.inl ((q : Int), cur)) ∧ cur.length = s.length ∧ q ≤ s.length ∧ cur.take q = ddP s s.length) (fun i st hi hst => ?_) (fun st hst => ?_) ?_
  · obtain ⟨q, cur, rfl, hl, hq, ht, hd⟩ := hst
    left
    have e0 : ((((s.length : Nat) : Int) - (k : Int)).toNat : Int) = ((s.length - k : Nat) : Int) := by omega
    have hlt : decide (((i + 1 : Nat) : Int) < ((s.length - k : Nat) : Int)) = true := decide_eq_true (by omega)
    have h0 : decide ((0 : Int) ≤ ((i + 1 : Nat) : Int)) = true := decide_eq_true (by omega)
    have hw1 : IntKind.i64.wrap (((i + 1 : Nat) : Int) - 1) = (i : Int) := by rw [wrap64 (by omega) (by omega)]; omega
    have hw2 : IntKind.i64.wrap (((i + 1 : Nat) : Int) + 1) = ((i + 1 + 1 : Nat) : Int) := by rw [wrap64 (by omega) (by omega)]; omega
    have hw3 : IntKind.i64.wrap ((q : Int) + 1) = ((q + 1 : Nat) : Int) := by rw [wrap64 (by omega) (by omega)]; omega
    have h2 : decide ((0 : Int) ≤ (i : Int)) = true := decide_eq_true (by omega)
    have h3 : decide ((i : Int) < ((s.length - k : Nat) : Int)) = true := decide_eq_true (by omega)
    have h4 : decide ((0 : Int) ≤ (q : Int)) = true := decide_eq_true (by omega)
    have h5 : decide ((q : Int) < ((cur.length : Nat) : Int)) = true := decide_eq_true (by omega)
    have gd : ∀ j, k + i ≤ j → cur.getD j d0 = s.getD j d0 := by
      intro j hj
      have := congrArg (fun l => l[j - (k + i)]?) hd
      simp only [List.getElem?_drop] at this
      rw [show k + i + (j - (k + i)) = j by omega] at this
      rw [List.getD_eq_getElem?_getD, List.getD_eq_getElem?_getD, this]
    unfold slices_Compact_api_Debt_api_Debt_L1
    simp only [e0, hlt, h0, h2, h3, cond_true, Bool.and_self, chkO_true, Int.toNat_natCast, hw1, hw2]
    rw [getI_in d0 (show k + (i + 1) < cur.length by omega), bind_s, getI_in d0 (show k + i < cur.length by omega), bind_s, gd _ (by omega), gd _ (by omega)]
    have hdd : ddP s (k + (i + 1) + 1) = ddP s (k + i + 1) ++ bif !(eqD (s.getD (k + (i + 1)) d0) (s.getD (k + i) d0)) then [s.getD (k + (i + 1)) d0] else [] := by
      rw [ddP]
      have e1 : (k + (i + 1) == 0) = false := by simp
      rw [e1, Bool.false_or, show k + (i + 1) - 1 = k + i by omega]
      rfl
    simp only [foldD]
    cases hne : !(eqD (s.getD (k + (i + 1)) d0) (s.getD (k + i) d0))
    · simp only [cond_false]
      refine ⟨_, rfl, q, cur, rfl, hl, by omega, ?_, ?_⟩
      · rw [hdd, hne, cond_false, List.append_nil]; exact ht
      · have := congrArg (List.drop 1) hd
        rw [List.drop_drop, List.drop_drop] at this
        exact this
    · simp only [cond_true, h4, h5, Bool.and_self, chkO_true, hw3]
      rw [getI_in d0 (show q < cur.length by omega), bind_s]
      refine ⟨_, rfl, q + 1, _, rfl, by rw [List.length_set]; exact hl, by omega, ?_, ?_⟩
      · rw [hdd, hne, cond_true, ← ht, take_succ_getD _ d0 (by rw [List.length_set]; omega), List.take_set_of_le (Nat.le_refl _)]
        congr 2
        rw [List.getD_eq_getElem?_getD, List.getElem?_set_self (by omega)]
        rfl
      · rw [List.drop_set_of_lt (by omega)]
        have := congrArg (List.drop 1) hd
        rw [List.drop_drop, List.drop_drop] at this
        exact this
  · obtain ⟨q, cur, rfl, hl, hq, ht, hd⟩ := hst
    refine ⟨.inl ((q : Int), cur), ?_, q, cur, rfl, hl, by omega, ?_⟩
    · have e0 : ((((s.length : Nat) : Int) - (k : Int)).toNat : Int) = ((s.length - k : Nat) : Int) := by omega
      have hlt : decide (((s.length - k - 1 + 1 : Nat) : Int) < ((s.length - k : Nat) : Int)) = false := decide_eq_false (by omega)
      unfold slices_Compact_api_Debt_api_Debt_L1
      simp only [e0, hlt, cond_false]
    · rw [ht]
      congr 1
      omega
  · refine ⟨k, s, rfl, rfl, Nat.le_refl _, ?_, rfl⟩
    rw [ddP, hp]
    have e1 : (k == 0) = false := by simp; omega
    simp only [e1, Bool.false_or, heq, Bool.not_true, cond_false, List.append_nil]
theorem compact_short (l : List api_Debt) (h : l.length < 2) : slices_Compact_api_Debt_api_Debt l = some l := by
  unfold slices_Compact_api_Debt_api_Debt
  have : decide (((l.length : Nat) : Int) < 2) = true := by simp; omega
  rw [this]
  rfl
theorem compact_eq (s : List api_Debt) (hs : s.length ≤ 1000000) : slices_Compact_api_Debt_api_Debt s = some (ddP s s.length) := by
  by_cases h2 : s.length < 2
  · rw [compact_short s h2]
    rw [ddP_all s s.length (Nat.le_refl _) fun k h1 hk => by omega, List.take_length]
  · have hd : decide (((s.length : Nat) : Int) < 2) = false := decide_eq_false (by omega)
    have key := loopF_inv (body := slices_Compact_api_Debt_api_Debt_L2 s) (s.length - 1) (fun i st => st = ((i + 1 : Nat) : Int) ∧ ∀ k, 1 ≤ k → k < i + 1 → eqD (s.getD k d0) (s.getD (k - 1) d0) = false)
      (fun r => (r = some (.inl ()) ∧ ddP s s.length = s) ∨ r = some (.inr (ddP s s.length))) (fun i st hi hst => ?_) (fun st hst => ?_) (s0 := (1 : Int)) ⟨rfl, fun k h1 hk => by omega⟩
    · unfold slices_Compact_api_Debt_api_Debt
      rw [hd]
      simp only [cond_false]
      rcases key with ⟨h, e⟩ | h
      · rw [h, seqF_l, e]
      · rw [h, seqF_r]
    · obtain ⟨rfl, hk⟩ := hst
      have hlt : decide (((i + 1 : Nat) : Int) < ((s.length : Nat) : Int)) = true := decide_eq_true (by omega)
      have h0 : decide ((0 : Int) ≤ ((i + 1 : Nat) : Int)) = true := decide_eq_true (by omega)
      have hw1 : IntKind.i64.wrap (((i + 1 : Nat) : Int) - 1) = (i : Int) := by rw [wrap64 (by omega) (by omega)]; omega
      have hw2 : IntKind.i64.wrap (((i + 1 : Nat) : Int) + 1) = ((i + 1 + 1 : Nat) : Int) := by rw [wrap64 (by omega) (by omega)]; omega
      have h2 : decide ((0 : Int) ≤ (i : Int)) = true := decide_eq_true (by omega)
      have h3 : decide ((i : Int) < ((s.length : Nat) : Int)) = true := decide_eq_true (by omega)
      unfold slices_Compact_api_Debt_api_Debt_L2
      simp only [hlt, h0, h2, h3, hw1, hw2, cond_true, Bool.and_self, chkO_true]
      rw [getI_in d0 (show i + 1 < s.length by omega), bind_s, getI_in d0 (show i < s.length by omega), bind_s]
      simp only [foldD]
      cases hne : eqD (s.getD (i + 1) d0) (s.getD i d0)
      · left
        simp only [cond_false, seqF_l]
        refine ⟨_, rfl, rfl, fun k h1 hk' => ?_⟩
        by_cases hki : k < i + 1
        · exact hk k h1 hki
        · have : k = i + 1 := by omega
          subst this
          exact hne
      · right
        obtain ⟨q, cur, he, hl, hq, ht⟩ := compact_L1 s hs (i + 1) (by omega) (by omega) hne (ddP_all s (i + 1) (by omega) hk)
        have c1 : cutO ((i + 1 : Nat) : Int) ((s.length : Nat) : Int) ((s.length : Nat) : Int) = true := by
          unfold cutO
          simp only [Bool.and_eq_true, decide_eq_true_eq]
          omega
        have c2 : cutO (q : Int) ((cur.length : Nat) : Int) ((cur.length : Nat) : Int) = true := by
          unfold cutO
          simp only [Bool.and_eq_true, decide_eq_true_eq]
          omega
        have c3 : cutO (0 : Int) (q : Int) ((cur.length : Nat) : Int) = true := by
          unfold cutO
          simp only [Bool.and_eq_true, decide_eq_true_eq]
          omega
        simp only [cond_true, c1, chkO_true]
        rw [he]
        simp only [seqF_l, c2, c3, chkO_true, seqF_r, Int.sub_zero, Int.toNat_natCast]
        refine ⟨_, rfl, Or.inr ?_⟩
        rw [← ht, List.append_assoc, List.take_left' (by rw [List.length_take]; omega)]
    · obtain ⟨rfl, hk⟩ := hst
      refine ⟨.inl (), ?_, Or.inl ⟨rfl, ?_⟩⟩
      · have hlt : decide (((s.length - 1 + 1 : Nat) : Int) < ((s.length : Nat) : Int)) = false := decide_eq_false (by omega)
        unfold slices_Compact_api_Debt_api_Debt_L2
        simp only [hlt, cond_false]
      · rw [ddP_all s s.length (Nat.le_refl _) fun k h1 hk' => hk k h1 (by omega), List.take_length]
end Go.Proofs.Ytomfmjejoocmmaa

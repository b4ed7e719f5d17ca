/-
  Layer 7, plain law: lists of numbers: what the library's functions do with them.
  Layer 7, plain law: maps as lists; graphs; adding a node.
  Layer 7, plain law: what a graph answers: what is below some nodes.
  Layer 7, plain law: what a graph answers: what comes before, whether two are the same, heads, the order by levels, parts.
  Layer 7, plain law: what a graph answers: heads, the order by levels, parts.
  Layer 7, plain law: the graphs that the laws make.
  Layer 7, plain law: the small example; graphs that say the same.
  Layer 7, plain law: the past of a node, by its parents.
-/
import Derived.Test.YtlgadmholjaljaaG3
import Derived.Test.YtlgadmholjaljaaEvV
namespace Go.Proofs.Ytlgadmholjaljaa
open Go.RowKit
theorem chk_true {b : Bool} (h : b = true) {B : Type} {k : Unit → Option B} : (chkO b).bind k = k () := by rw [h]; rfl
theorem indexF_eq (l : List Int) (hl : l.length ≤ 1000000) (p : Int → Bool) :
    slices_IndexFunc_int_int l (fun w => some (p w)) = some (match l.findIdx? p with | some i => (i : Int) | none => -1) := by
  have key := loopF_inv (body := slices_IndexFunc_int_int_L1 l (fun w => some (p w))) l.length (fun i s => s = (i : Int) ∧ ∀ k, k < i → p (l.getD k (0 : Int)) = false)
    (fun r => r = some (match l.findIdx? p with | some i => .inr (i : Int) | none => .inl ()))
    (by
      rintro i s hi ⟨rfl, hp⟩
      have hlt : decide ((i : Int) < (l.length : Int)) = true := by simp; omega
      unfold slices_IndexFunc_int_int_L1
      simp only [hlt, cond_true]
      rw [bind_some_of (getI_in (0 : Int) hi), bind_some_of rfl]
      cases hpi : p (l.getD i (0 : Int))
      · refine Or.inl ⟨(i : Int) + 1, ?_, rfl, fun k hk => ?_⟩
        · simp only [cond_false]
          rw [wrap64 (by omega) (by omega)]
        · by_cases hki : k = i
          · rw [hki]; exact hpi
          · exact hp k (by omega)
      · refine Or.inr ⟨_, rfl, ?_⟩
        have : l.findIdx? p = some i := by
          rw [List.findIdx?_eq_some_iff_getElem]
          refine ⟨hi, ?_, fun k hk => ?_⟩
          · rw [List.getD_eq_getElem?_getD, List.getElem?_eq_getElem hi] at hpi
            exact hpi
          · have := hp k hk
            rw [List.getD_eq_getElem?_getD, List.getElem?_eq_getElem (by omega)] at this
            simpa using this
        rw [this])
    (by
      rintro s ⟨rfl, hp⟩
      refine ⟨.inl (), ?_, ?_⟩
      · unfold slices_IndexFunc_int_int_L1
        simp only [Int.lt_irrefl, decide_false, cond_false]
      · have : l.findIdx? p = none := by
          rw [List.findIdx?_eq_none_iff]
          intro x hx
          obtain ⟨k, hk, rfl⟩ := List.getElem_of_mem hx
          have := hp k hk
          rw [List.getD_eq_getElem?_getD, List.getElem?_eq_getElem hk] at this
          exact this
        rw [this])
    (s0 := (0 : Int)) ⟨rfl, fun k hk => absurd hk (by omega)⟩
  unfold slices_IndexFunc_int_int
  rw [key]
  cases l.findIdx? p <;> rfl
theorem filter_take_succ (l : List Int) (q : Int → Bool) (i : Nat) (h : i < l.length) : (l.take (i + 1)).filter q = (l.take i).filter q ++ bif q (l.getD i (0 : Int)) then [l.getD i (0 : Int)] else [] := by
  rw [take_succ_getD l (0 : Int) h, List.filter_append]
  generalize l.getD i (0 : Int) = x
  congr 1
theorem deleteF_eq (l : List Int) (hl : l.length ≤ 1000000) (p : Int → Bool) :
    slices_DeleteFunc_int_int l (fun w => some (p w)) = some (l.filter fun w => !p w) := by
  unfold slices_DeleteFunc_int_int
  rw [indexF_eq l hl p, bind_some_of rfl]
  cases hf : l.findIdx? p with
  | none =>
    simp only [beq_self_eq_true, cond_true]
    rw [List.findIdx?_eq_none_iff] at hf
    rw [List.filter_eq_self.2]
    intro x hx
    rw [hf x hx]
    rfl
  | some i0 =>
    rw [List.findIdx?_eq_some_iff_getElem] at hf
    obtain ⟨hi0, hp0, hbef⟩ := hf
    have hne : ((i0 : Int) == -1) = false := by simp <;> omega
    simp only [hne, cond_false]
    have hfirst : (l.take (i0 + 1)).filter (fun w => !p w) = l.take i0 := by
      rw [filter_take_succ l _ i0 hi0]
      have : p (l.getD i0 (0 : Int)) = true := by rw [List.getD_eq_getElem?_getD, List.getElem?_eq_getElem hi0]; exact hp0
      rw [this]
      simp only [Bool.not_true, cond_false, List.append_nil]
      rw [List.filter_eq_self]
      intro x hx
      obtain ⟨k, hk, rfl⟩ := List.getElem_of_mem hx
      simp only [List.length_take] at hk
      rw [List.getElem_take]
      have := hbef k (by omega)
      simpa using this
    have key := loopF_inv (body := slices_DeleteFunc_int_int_L1 (fun w => some (p w))) (l.length - (i0 + 1))
      (fun k s => ∃ (i : Nat) (arr : List Int), s = ((i : Int), ((i0 + 1 + k : Nat) : Int), arr) ∧ arr.length = l.length ∧ i < i0 + 1 + k ∧ arr.take i = (l.take (i0 + 1 + k)).filter (fun w => !p w) ∧ ∀ m, i0 + 1 + k ≤ m → arr.getD m (0 : Int) = l.getD m (0 : Int))
      (fun r => ∃ (i : Nat) (arr : List Int), r = some (.inl ((i : Int), arr)) ∧ arr.length = l.length ∧ i ≤ arr.length ∧ arr.take i = l.filter (fun w => !p w))
      (by
        rintro k s hk ⟨i, arr, rfl, hlen, hij, htk, hrest⟩
        have hj : i0 + 1 + k < l.length := by omega
        have hja : i0 + 1 + k < arr.length := by omega
        left
        unfold slices_DeleteFunc_int_int_L1
        have c1 : decide (((i0 + 1 + k : Nat) : Int) < ((arr.length : Nat) : Int)) = true := by simp; omega
        have c2 : decide ((0 : Int) ≤ ((i0 + 1 + k : Nat) : Int)) = true := by simp; omega
        have c3 : decide ((0 : Int) ≤ (i : Int)) = true := by simp
        have c4 : decide ((i : Int) < ((arr.length : Nat) : Int)) = true := by simp; omega
        simp only [c1, c2, c3, c4, cond_true, Bool.and_self, chkO_true]
        rw [bind_some_of (getI_in (0 : Int) hja), bind_some_of rfl, wrap64 (n := ((i0 + 1 + k : Nat) : Int) + 1) (by omega) (by omega), hrest _ (Nat.le_refl _)]
        have hst := filter_take_succ l (fun w => !p w) (i0 + 1 + k) hj
        cases hpj : p (l.getD (i0 + 1 + k) (0 : Int))
        · simp only [Bool.not_false, cond_true]
          rw [bind_some_of (getI_in (0 : Int) (show i < arr.length by omega)), wrap64 (n := (i : Int) + 1) (by omega) (by omega)]
          refine ⟨_, rfl, i + 1, arr.set i (l.getD (i0 + 1 + k) (0 : Int)), by simp; omega, by simp [hlen], by omega, ?_, fun m hm => ?_⟩
          · rw [show i0 + 1 + (k + 1) = i0 + 1 + k + 1 from rfl, hst, hpj]
            simp only [Bool.not_false, cond_true]
            rw [← htk, take_succ_getD _ (0 : Int) (by simp; omega)]
            simp [List.getD_eq_getElem?_getD, show i < arr.length by omega, List.take_set_of_le]
          · rw [← hrest m (by omega)]
            simp [List.getD_eq_getElem?_getD, show ¬ i = m by omega]
        · simp only [Bool.not_true, cond_false]
          refine ⟨_, rfl, i, arr, by simp; omega, hlen, by omega, ?_, fun m hm => hrest m (by omega)⟩
          rw [show i0 + 1 + (k + 1) = i0 + 1 + k + 1 from rfl, hst, hpj]
          simp only [Bool.not_true, cond_false, List.append_nil]
          exact htk)
      (by
        rintro s ⟨i, arr, rfl, hlen, hij, htk, hrest⟩
        refine ⟨.inl ((i : Int), arr), ?_, i, arr, rfl, hlen, by omega, ?_⟩
        · unfold slices_DeleteFunc_int_int_L1
          have c1 : decide (((i0 + 1 + (l.length - (i0 + 1)) : Nat) : Int) < ((arr.length : Nat) : Int)) = false := by simp; omega
          simp only [c1, cond_false]
        · rw [htk]
          congr 1
          apply List.take_of_length_le
          omega)
      (s0 := ((i0 : Int), IntKind.i64.wrap ((i0 : Int) + 1), l)) ⟨i0, l, by rw [wrap64 (by omega) (by omega)]; rfl, rfl, by omega, hfirst.symm, fun m hm => rfl⟩
    obtain ⟨i, arr, h1, h2, h3, h4⟩ := key
    rw [h1, seqF_inl rfl]
    simp only
    rw [chk_true (by simp [cutO]; omega), chk_true (by simp [cutO]; omega)]
    congr 1
    rw [← h4]
    have e1 : ((i : Int) - 0).toNat = i := by omega
    have e2 : (arr.take i).length = i := by rw [List.length_take]; omega
    rw [e1, Int.toNat_natCast, List.append_assoc, List.take_append_of_le_length (by omega), List.take_of_length_le (by omega)]
def eqD (a b : Int) : Bool := a == b
theorem foldD (a b : Int) : (a == b) = eqD a b := rfl
theorem foldN (a b : Int) : (a != b) = !(eqD a b) := rfl
theorem bind_s {A B : Type} {x : A} {k : A → Option B} : (some x).bind k = k x := rfl
theorem seqF_l {A B : Type} {k : A → Option B} {a : A} : seqF (some (.inl a)) k = k a := rfl
theorem seqF_r {A B : Type} {k : A → Option B} {b : B} : seqF (A := A) (some (.inr b)) k = some b := rfl
def ddP (s : List Int) : Nat → List Int
  | 0 => []
  | m + 1 => ddP s m ++ bif m == 0 || !(eqD (s.getD m (0 : Int)) (s.getD (m - 1) (0 : Int))) then [s.getD m (0 : Int)] else []
theorem ddP_len (s : List Int) : ∀ m, (ddP s m).length ≤ m
  | 0 => Nat.le_refl _
  | m + 1 => by
    have := ddP_len s m
    rw [ddP, List.length_append]
    cases m == 0 || !(eqD (s.getD m (0 : Int)) (s.getD (m - 1) (0 : Int))) <;> simp <;> omega
theorem ddP_all (s : List Int) : ∀ m, m ≤ s.length → (∀ k, 1 ≤ k → k < m → eqD (s.getD k (0 : Int)) (s.getD (k - 1) (0 : Int)) = false) → ddP s m = s.take m
  | 0, _, _ => by simp [ddP]
  | m + 1, hm, h => by
    rw [ddP, ddP_all s m (by omega) (fun k h1 h2 => h k h1 (by omega)), take_succ_getD s (0 : Int) (by omega)]
    congr 1
    cases m with
    | zero => rfl
    | succ m =>
      have := h (m + 1) (by omega) (by omega)
      simp only [this]
      rfl
theorem compact_L1 (s : List Int) (hs : s.length ≤ 1000000) (k : Nat) (h1 : 1 ≤ k) (hk : k < s.length) (heq : eqD (s.getD k (0 : Int)) (s.getD (k - 1) (0 : Int)) = true) (hp : ddP s k = s.take k) :
    ∃ (q : Nat) (cur : List Int), loopF (slices_Compact_int_int_L1 s (k : Int)) ((k : Int), (1 : Int), s) = some (.inl ((q : Int), cur)) ∧ cur.length = s.length ∧ q ≤ s.length ∧ cur.take q = ddP s s.length := by
  refine loopF_inv (body := slices_Compact_int_int_L1 s (k : Int)) (s.length - k - 1) (fun i st => ∃ (q : Nat) (cur : List Int), st = ((q : Int), ((i + 1 : Nat) : Int), cur) ∧ cur.length = s.length ∧ q ≤ k + i ∧ cur.take q = ddP s (k + i + 1) ∧ cur.drop (k + i) = s.drop (k + i))
    (fun r => ∃ (q : Nat) (cur : List Int), r = some (.inl ((q : Int), cur)) ∧ cur.length = s.length ∧ q ≤ s.length ∧ cur.take q = ddP s s.length) (fun i st hi hst => ?_) (fun st hst => ?_) ?_
  · obtain ⟨q, cur, rfl, hl, hq, ht, hd⟩ := hst
    left
    have e0 : ((((s.length : Nat) : Int) - (k : Int)).toNat : Int) = ((s.length - k : Nat) : Int) := by omega
    have hlt : decide (((i + 1 : Nat) : Int) < ((s.length - k : Nat) : Int)) = true := decide_eq_true (by omega)
    have h0 : decide ((0 : Int) ≤ ((i + 1 : Nat) : Int)) = true := decide_eq_true (by omega)
    have hw1 : IntKind.i64.wrap (((i + 1 : Nat) : Int) - 1) = (i : Int) := by rw [wrap64 (by omega) (by omega)]; omega
    have hw2 : IntKind.i64.wrap (((i + 1 : Nat) : Int) + 1) = ((i + 1 + 1 : Nat) : Int) := by rw [wrap64 (by omega) (by omega)]; omega
    have hw3 : IntKind.i64.wrap ((q : Int) + 1) = ((q + 1 : Nat) : Int) := by rw [wrap64 (by omega) (by omega)]; omega
    have h2 : decide ((0 : Int) ≤ (i : Int)) = true := decide_eq_true (by omega)
    have h3 : decide ((i : Int) < ((s.length - k : Nat) : Int)) = true := decide_eq_true (by omega)
    have h4 : decide ((0 : Int) ≤ (q : Int)) = true := decide_eq_true (by omega)
    have h5 : decide ((q : Int) < ((cur.length : Nat) : Int)) = true := decide_eq_true (by omega)
    have gd : ∀ j, k + i ≤ j → cur.getD j (0 : Int) = s.getD j (0 : Int) := by
      intro j hj
      have := congrArg (fun l => l[j - (k + i)]?) hd
      simp only [List.getElem?_drop] at this
      rw [show k + i + (j - (k + i)) = j by omega] at this
      rw [List.getD_eq_getElem?_getD, List.getD_eq_getElem?_getD, this]
    unfold slices_Compact_int_int_L1
    simp only [e0, hlt, h0, h2, h3, cond_true, Bool.and_self, chkO_true, Int.toNat_natCast, hw1, hw2]
    rw [getI_in (0 : Int) (show k + (i + 1) < cur.length by omega), bind_s, getI_in (0 : Int) (show k + i < cur.length by omega), bind_s, gd _ (by omega), gd _ (by omega)]
    have hdd : ddP s (k + (i + 1) + 1) = ddP s (k + i + 1) ++ bif !(eqD (s.getD (k + (i + 1)) (0 : Int)) (s.getD (k + i) (0 : Int))) then [s.getD (k + (i + 1)) (0 : Int)] else [] := by
      rw [ddP]
      have e1 : (k + (i + 1) == 0) = false := by simp
      rw [e1, Bool.false_or, show k + (i + 1) - 1 = k + i by omega]
      rfl
    simp only [foldN]
    cases hne : !(eqD (s.getD (k + (i + 1)) (0 : Int)) (s.getD (k + i) (0 : Int)))
    · simp only [cond_false]
      refine ⟨_, rfl, q, cur, rfl, hl, by omega, ?_, ?_⟩
      · rw [hdd, hne, cond_false, List.append_nil]; exact ht
      · have := congrArg (List.drop 1) hd
        rw [List.drop_drop, List.drop_drop] at this
        exact this
    · simp only [cond_true, h4, h5, Bool.and_self, chkO_true, hw3]
      rw [getI_in (0 : Int) (show q < cur.length by omega), bind_s]
      refine ⟨_, rfl, q + 1, _, rfl, by rw [List.length_set]; exact hl, by omega, ?_, ?_⟩
      · rw [hdd, hne, cond_true, ← ht, take_succ_getD _ (0 : Int) (by rw [List.length_set]; omega), List.take_set_of_le (Nat.le_refl _)]
        congr 2
        rw [List.getD_eq_getElem?_getD, List.getElem?_set_self (by omega)]
        rfl
      · rw [List.drop_set_of_lt (by omega)]
        have := congrArg (List.drop 1) hd
        rw [List.drop_drop, List.drop_drop] at this
        exact this
  · obtain ⟨q, cur, rfl, hl, hq, ht, hd⟩ := hst
    refine ⟨.inl ((q : Int), cur), ?_, q, cur, rfl, hl, by omega, ?_⟩
    · have e0 : ((((s.length : Nat) : Int) - (k : Int)).toNat : Int) = ((s.length - k : Nat) : Int) := by omega
      have hlt : decide (((s.length - k - 1 + 1 : Nat) : Int) < ((s.length - k : Nat) : Int)) = false := decide_eq_false (by omega)
      unfold slices_Compact_int_int_L1
      simp only [e0, hlt, cond_false]
    · rw [ht]
      congr 1
      omega
  · refine ⟨k, s, rfl, rfl, Nat.le_refl _, ?_, rfl⟩
    rw [ddP, hp]
    have e1 : (k == 0) = false := by simp; omega
    simp only [e1, Bool.false_or, heq, Bool.not_true, cond_false, List.append_nil]
theorem compact_short (l : List Int) (h : l.length < 2) : slices_Compact_int_int l = some l := by
  unfold slices_Compact_int_int
  have : decide (((l.length : Nat) : Int) < 2) = true := by simp; omega
  rw [this]
  rfl
theorem compact_eq (s : List Int) (hs : s.length ≤ 1000000) : slices_Compact_int_int s = some (ddP s s.length) := by
  by_cases h2 : s.length < 2
  · rw [compact_short s h2]
    rw [ddP_all s s.length (Nat.le_refl _) fun k h1 hk => by omega, List.take_length]
  · have hd : decide (((s.length : Nat) : Int) < 2) = false := decide_eq_false (by omega)
    have key := loopF_inv (body := slices_Compact_int_int_L2 s) (s.length - 1) (fun i st => st = ((i + 1 : Nat) : Int) ∧ ∀ k, 1 ≤ k → k < i + 1 → eqD (s.getD k (0 : Int)) (s.getD (k - 1) (0 : Int)) = false)
      (fun r => (r = some (.inl ()) ∧ ddP s s.length = s) ∨ r = some (.inr (ddP s s.length))) (fun i st hi hst => ?_) (fun st hst => ?_) (s0 := (1 : Int)) ⟨rfl, fun k h1 hk => by omega⟩
    · unfold slices_Compact_int_int
      rw [hd]
      simp only [cond_false]
      rcases key with ⟨h, e⟩ | h
      · rw [h, seqF_l, e]
      · rw [h, seqF_r]
    · obtain ⟨rfl, hk⟩ := hst
      have hlt : decide (((i + 1 : Nat) : Int) < ((s.length : Nat) : Int)) = true := decide_eq_true (by omega)
      have h0 : decide ((0 : Int) ≤ ((i + 1 : Nat) : Int)) = true := decide_eq_true (by omega)
      have hw1 : IntKind.i64.wrap (((i + 1 : Nat) : Int) - 1) = (i : Int) := by rw [wrap64 (by omega) (by omega)]; omega
      have hw2 : IntKind.i64.wrap (((i + 1 : Nat) : Int) + 1) = ((i + 1 + 1 : Nat) : Int) := by rw [wrap64 (by omega) (by omega)]; omega
      have h2 : decide ((0 : Int) ≤ (i : Int)) = true := decide_eq_true (by omega)
      have h3 : decide ((i : Int) < ((s.length : Nat) : Int)) = true := decide_eq_true (by omega)
      unfold slices_Compact_int_int_L2
      simp only [hlt, h0, h2, h3, hw1, hw2, cond_true, Bool.and_self, chkO_true]
      rw [getI_in (0 : Int) (show i + 1 < s.length by omega), bind_s, getI_in (0 : Int) (show i < s.length by omega), bind_s]
      simp only [foldD]
      cases hne : eqD (s.getD (i + 1) (0 : Int)) (s.getD i (0 : Int))
      · left
        simp only [cond_false, seqF_l]
        refine ⟨_, rfl, rfl, fun k h1 hk' => ?_⟩
        by_cases hki : k < i + 1
        · exact hk k h1 hki
        · have : k = i + 1 := by omega
          subst this
          exact hne
      · right
        obtain ⟨q, cur, he, hl, hq, ht⟩ := compact_L1 s hs (i + 1) (by omega) (by omega) hne (ddP_all s (i + 1) (by omega) hk)
        have c1 : cutO ((i + 1 : Nat) : Int) ((s.length : Nat) : Int) ((s.length : Nat) : Int) = true := by
          unfold cutO
          simp only [Bool.and_eq_true, decide_eq_true_eq]
          omega
        have c2 : cutO (q : Int) ((cur.length : Nat) : Int) ((cur.length : Nat) : Int) = true := by
          unfold cutO
          simp only [Bool.and_eq_true, decide_eq_true_eq]
          omega
        have c3 : cutO (0 : Int) (q : Int) ((cur.length : Nat) : Int) = true := by
          unfold cutO
          simp only [Bool.and_eq_true, decide_eq_true_eq]
          omega
        simp only [cond_true, c1, chkO_true]
        rw [he]
        simp only [seqF_l, c2, c3, chkO_true, seqF_r, Int.sub_zero, Int.toNat_natCast]
        refine ⟨_, rfl, Or.inr ?_⟩
        rw [← ht, List.append_assoc, List.take_left' (by rw [List.length_take]; omega)]
    · obtain ⟨rfl, hk⟩ := hst
      refine ⟨.inl (), ?_, Or.inl ⟨rfl, ?_⟩⟩
      · have hlt : decide (((s.length - 1 + 1 : Nat) : Int) < ((s.length : Nat) : Int)) = false := decide_eq_false (by omega)
        unfold slices_Compact_int_int_L2
        simp only [hlt, cond_false]
      · rw [ddP_all s s.length (Nat.le_refl _) fun k h1 hk' => hk k h1 (by omega), List.take_length]
/- lists in order -/
def Asc (l : List Int) : Prop := l.Pairwise (· < ·)
theorem asc_ext {a b : List Int} (ha : Asc a) (hb : Asc b) (h : ∀ x, x ∈ a ↔ x ∈ b) : a = b := by
  have nd : ∀ {l : List Int}, Asc l → l.Nodup := fun hl => hl.imp fun h => by omega
  refine List.Perm.eq_of_pairwise (le := fun x y => x < y) ?_ ha hb ((List.perm_ext_iff_of_nodup (nd ha) (nd hb)).2 h)
  intro x y _ _ h1 h2
  omega
theorem asc_filter {l : List Int} (h : Asc l) (p : Int → Bool) : Asc (l.filter p) := List.Pairwise.filter _ h
theorem sorted_asc {l : List Int} (h : l.Nodup) : Asc (l.mergeSort fun x y => decide (x ≤ y)) := by
  have h1 : (l.mergeSort fun x y => decide (x ≤ y)).Pairwise fun x y => decide (x ≤ y) = true := List.pairwise_mergeSort (fun a b c => by simp; omega) (fun a b => by simp; omega) l
  have h2 : (l.mergeSort fun x y => decide (x ≤ y)).Nodup := (List.mergeSort_perm l _).nodup_iff.2 h
  refine (h1.and h2).imp fun {a b} ⟨h3, h4⟩ => ?_
  have h3 := of_decide_eq_true h3
  have : a ≠ b := h4
  omega
theorem sortedK_eq {ks : List Int} (hl : ks.length ≤ 1000000) (hr : ∀ k ∈ ks, -9223372036854775808 ≤ k ∧ k ≤ 9223372036854775807) : sortedK ks = some (ks.mergeSort fun x y => decide (x ≤ y)) := by
  unfold sortedK
  rw [chk_true]
  rw [Bool.and_eq_true, List.all_eq_true]
  refine ⟨decide_eq_true hl, fun k hk => ?_⟩
  rw [Bool.and_eq_true]
  exact ⟨decide_eq_true (hr k hk).1, decide_eq_true (hr k hk).2⟩
/- two lists alike -/
theorem range_eq : ∀ {a b : List Int}, a.length = b.length → ((List.range a.length).all fun i => a.getD i 0 == b.getD i 0) = (a == b) := by
  intro a b h
  apply bool_ext
  rw [List.all_eq_true, beq_iff_eq]
  constructor
  · intro hq
    refine List.ext_getElem h fun i h1 h2 => ?_
    have := hq i (List.mem_range.2 h1)
    rw [beq_iff_eq, List.getD_eq_getElem?_getD, List.getD_eq_getElem?_getD, List.getElem?_eq_getElem h1, List.getElem?_eq_getElem h2] at this
    simpa using this
  · rintro rfl
    intro i _
    simp
theorem equal_eq (a b : List Int) (ha : a.length ≤ 1000000) : slices_Equal_int_int a b = some (a == b) := by
  unfold slices_Equal_int_int
  by_cases hl : a.length = b.length
  · have h1 : ((a.length : Int) != (b.length : Int)) = false := by rw [hl]; simp
    have hb : ∀ i : Nat, i < a.length → slices_Equal_int_int_L1 a b (i : Int) = bif a.getD i 0 == b.getD i 0 then some (.inl ((i : Int) + 1)) else some (.inr (.inr false)) := fun i hi => by
      unfold slices_Equal_int_int_L1
      have : decide ((i : Int) < (a.length : Int)) = true := decide_eq_true (by omega)
      simp only [this, cond_true]
      rw [getI_in 0 hi, bind_s, getI_in 0 (by omega : i < b.length), bind_s, wrap64 (by omega) (by omega), bne]
      cases a.getD i 0 == b.getD i 0 <;> rfl
    have he : slices_Equal_int_int_L1 a b (a.length : Int) = some (.inr (.inl ())) := by
      unfold slices_Equal_int_int_L1
      simp only [Int.lt_irrefl, decide_false, cond_false]
    rw [h1, cond_false, loopF_idx a.length _ false hb he, range_eq hl]
    cases hq : a == b <;> rfl
  · have h1 : ((a.length : Int) != (b.length : Int)) = true := by simp; omega
    rw [h1, cond_true]
    have : (a == b) = false := by
      rw [beq_eq_false_iff_ne]
      rintro rfl
      exact hl rfl
    rw [this]
theorem same_eq (a b : List Int) (ha : a.length ≤ 1000000) : ref07_Same a b = some (a == b) := by
  unfold ref07_Same
  by_cases hl : a.length = b.length
  · have h1 : ((a.length : Int) != (b.length : Int)) = false := by rw [hl]; simp
    have hb : ∀ i : Nat, i < a.length → ref07_Same_L1 a b (i : Int) = bif a.getD i 0 == b.getD i 0 then some (.inl ((i : Int) + 1)) else some (.inr (.inr false)) := fun i hi => by
      unfold ref07_Same_L1
      have : decide ((i : Int) < (a.length : Int)) = true := decide_eq_true (by omega)
      simp only [this, cond_true]
      rw [getI_in 0 hi, bind_s, getI_in 0 (by omega : i < b.length), bind_s, wrap64 (by omega) (by omega), bne]
      cases a.getD i 0 == b.getD i 0 <;> rfl
    have he : ref07_Same_L1 a b (a.length : Int) = some (.inr (.inl ())) := by
      unfold ref07_Same_L1
      simp only [Int.lt_irrefl, decide_false, cond_false]
    rw [h1, cond_false, loopF_idx a.length _ false hb he, range_eq hl]
    cases hq : a == b <;> rfl
  · have h1 : ((a.length : Int) != (b.length : Int)) = true := by simp; omega
    rw [h1, cond_true]
    have : (a == b) = false := by
      rw [beq_eq_false_iff_ne]
      rintro rfl
      exact hl rfl
    rw [this]
theorem has_eq (l : List Int) (n : Int) (hl : l.length ≤ 1000000) : ref07_Has l n = some (l.contains n) := by
  unfold ref07_Has
  have hb : ∀ i : Nat, i < l.length → ref07_Has_L1 l n (i : Int) = bif !(l.getD i 0 == n) then some (.inl ((i : Int) + 1)) else some (.inr (.inr true)) := fun i hi => by
    unfold ref07_Has_L1
    have : decide ((i : Int) < (l.length : Int)) = true := decide_eq_true (by omega)
    simp only [this, cond_true]
    rw [getI_in 0 hi, bind_s, wrap64 (by omega) (by omega)]
    cases l.getD i 0 == n <;> rfl
  have he : ref07_Has_L1 l n (l.length : Int) = some (.inr (.inl ())) := by
    unfold ref07_Has_L1
    simp only [Int.lt_irrefl, decide_false, cond_false]
  have hq : ((List.range l.length).all fun i => !(l.getD i 0 == n)) = !(l.contains n) := by
    apply bool_ext
    rw [List.all_eq_true, Bool.not_eq_true', ← Bool.not_eq_true, List.contains_iff_mem]
    constructor
    · intro h hm
      obtain ⟨i, hi, rfl⟩ := List.getElem_of_mem hm
      have := h i (List.mem_range.2 hi)
      rw [List.getD_eq_getElem?_getD, List.getElem?_eq_getElem hi] at this
      simp at this
    · intro h i hi
      have hi := List.mem_range.1 hi
      rw [List.getD_eq_getElem?_getD, List.getElem?_eq_getElem hi]
      simp only [Option.getD_some, Bool.not_eq_true', beq_eq_false_iff_ne]
      rintro rfl
      exact h (List.getElem_mem hi)
  rw [loopF_idx l.length _ true hb he, hq]
  cases l.contains n <;> rfl
/- nodes that are right -/
def okP (id : Int) : Int → List Int → Bool
  | _, [] => true
  | last, p :: r => decide (last < p) && decide (p < id) && okP id p r
def okN (n : api_Node) : Bool := okP n.Id (-1) n.Parents && decide (0 ≤ n.Id) && decide (n.Id < 100000)
theorem okP_foldL (id : Int) : ∀ (l : List Int) (last i : Int), foldL (B := Unit ⊕ Bool) (fun (x : Int) (s : Int × Int) => bif decide (x ≤ s.1) then some (.inr (.inr false)) else bif decide (id ≤ x) then some (.inr (.inr false)) else some (.inl (x, s.2 + 1))) (fun _ => some (.inl ())) l (last, i) = some (bif okP id last l then .inl () else .inr false)
  | [], _, _ => rfl
  | x :: l, last, i => by
    simp only [foldL, okP]
    by_cases h1 : x ≤ last
    · rw [decide_eq_true h1, decide_eq_false (by omega : ¬ last < x)]
      rfl
    · rw [decide_eq_false h1, decide_eq_true (by omega : last < x)]
      simp only [cond_false, Bool.true_and]
      by_cases h2 : id ≤ x
      · rw [decide_eq_true h2, decide_eq_false (by omega : ¬ x < id)]
        rfl
      · rw [decide_eq_false h2, decide_eq_true (by omega : x < id)]
        simp only [cond_false, Bool.true_and]
        exact okP_foldL id l x (i + 1)
theorem valid_eq (n : api_Node) (hl : n.Parents.length ≤ 1000000) : graph_valid n = some (okN n) := by
  unfold graph_valid
  rw [loopF_range (body := graph_valid_L1 n) n.Parents (fun s => s.2) (fun (x : Int) (s : Int × Int) => bif decide (x ≤ s.1) then some (.inr (.inr false)) else bif decide (n.Id ≤ x) then some (.inr (.inr false)) else some (.inl (x, s.2 + 1))) (fun _ => .inl ()) (fun s => s.2 ≤ 1000000)
    (fun s x h1 h2 hx => by
      unfold graph_valid_L1
      have hlt := (List.getElem?_eq_some_iff.1 hx).1
      have : decide (s.2 < (n.Parents.length : Int)) = true := decide_eq_true (by omega)
      simp only [this, cond_true]
      rw [getI_of h2, hx, bind_s, wrap64 (by omega) (by omega)])
    (fun s h1 h2 => by
      unfold graph_valid_L1
      have h2 : s.2 = (n.Parents.length : Int) := h2
      simp only [h2, Int.lt_irrefl, decide_false, cond_false])
    (fun x s s' h1 h2 h3 hf => by
      revert hf
      cases decide (x ≤ s.1)
      · cases decide (n.Id ≤ x)
        · intro hf
          simp only [cond_false] at hf
          injection hf with hf
          injection hf with hf
          subst hf
          exact ⟨rfl, by show s.2 + 1 ≤ 1000000; omega⟩
        · intro hf; cases hf
      · intro hf; cases hf)
    ((-1 : Int), (0 : Int)) (by decide) (by decide) (by show (0 : Int) ≤ _; omega)]
  show seqF (foldL _ _ (n.Parents.drop 0) _) _ = _
  rw [List.drop_zero, okP_foldL]
  unfold okN
  cases okP n.Id (-1) n.Parents
  · rfl
  · simp only [cond_true, seqF_l, Bool.true_and]
    cases decide (0 ≤ n.Id) <;> rfl
theorem right_eq (n : api_Node) (hl : n.Parents.length ≤ 1000000) : ref07_Right n = some (okN n) := by
  unfold ref07_Right
  rw [loopF_range (body := ref07_Right_L1 n) n.Parents (fun s => s.2) (fun (x : Int) (s : Int × Int) => bif decide (x ≤ s.1) then some (.inr (.inr false)) else bif decide (n.Id ≤ x) then some (.inr (.inr false)) else some (.inl (x, s.2 + 1))) (fun _ => .inl ()) (fun s => s.2 ≤ 1000000)
    (fun s x h1 h2 hx => by
      unfold ref07_Right_L1
      have hlt := (List.getElem?_eq_some_iff.1 hx).1
      have : decide (s.2 < (n.Parents.length : Int)) = true := decide_eq_true (by omega)
      simp only [this, cond_true]
      rw [getI_of h2, hx, bind_s, wrap64 (by omega) (by omega)])
    (fun s h1 h2 => by
      unfold ref07_Right_L1
      have h2 : s.2 = (n.Parents.length : Int) := h2
      simp only [h2, Int.lt_irrefl, decide_false, cond_false])
    (fun x s s' h1 h2 h3 hf => by
      revert hf
      cases decide (x ≤ s.1)
      · cases decide (n.Id ≤ x)
        · intro hf
          simp only [cond_false] at hf
          injection hf with hf
          injection hf with hf
          subst hf
          exact ⟨rfl, by show s.2 + 1 ≤ 1000000; omega⟩
        · intro hf; cases hf
      · intro hf; cases hf)
    ((-1 : Int), (0 : Int)) (by decide) (by decide) (by show (0 : Int) ≤ _; omega)]
  show seqF (foldL _ _ (n.Parents.drop 0) _) _ = _
  rw [List.drop_zero, okP_foldL]
  unfold okN
  cases okP n.Id (-1) n.Parents
  · rfl
  · simp only [cond_true, seqF_l, Bool.true_and]
    cases decide (0 ≤ n.Id) <;> rfl
end Go.Proofs.Ytlgadmholjaljaa
namespace Go.Proofs.Ytlgadmholjaljaa
open Go.RowKit
section
variable {V : Type}
theorem mhas_iff (a : Int) : ∀ (m : List (Int × V)), mhasT a m = true ↔ a ∈ m.map Prod.fst
  | [] => by simp [mhasT]
  | p :: r => by
    rw [mhasT, List.map_cons, List.mem_cons]
    cases h : a == p.1
    · have : a ≠ p.1 := by simpa using h
      simp only [cond_false, mhas_iff a r, this, false_or]
    · have : a = p.1 := by simpa using h
      simp [this]
theorem mhas_mput (a k : Int) (v : V) : ∀ (m : List (Int × V)), mhasT a (mputT k v m) = (a == k || mhasT a m)
  | [] => by simp only [mputT, mhasT]; cases a == k <;> rfl
  | p :: r => by
    rw [mputT]
    cases h : k == p.1
    · simp only [cond_false, mhasT, mhas_mput a k v r]
      cases a == p.1 <;> cases a == k <;> rfl
    · have : k = p.1 := by simpa using h
      subst this
      simp only [cond_true, mhasT]
      cases a == p.1 <;> rfl
theorem mput_new (k : Int) (v : V) : ∀ (m : List (Int × V)), mhasT k m = false → mputT k v m = m ++ [(k, v)]
  | [], _ => rfl
  | p :: r, h => by
    rw [mhasT] at h
    rw [mputT]
    cases hk : k == p.1
    · rw [hk] at h
      simp only [cond_false] at h ⊢
      rw [mput_new k v r h]
      rfl
    · rw [hk] at h; cases h
theorem mput_old (k : Int) (v : V) : ∀ (m : List (Int × V)), mhasT k m = true → (mputT k v m).map Prod.fst = m.map Prod.fst
  | [], h => by cases h
  | p :: r, h => by
    rw [mhasT] at h
    rw [mputT]
    cases hk : k == p.1
    · rw [hk] at h
      simp only [cond_false] at h ⊢
      rw [List.map_cons, List.map_cons, mput_old k v r h]
    · have : k = p.1 := by simpa using hk
      simp [this]
theorem mput_keys (k : Int) (v : V) (m : List (Int × V)) : (mputT k v m).map Prod.fst = m.map Prod.fst ++ bif mhasT k m then [] else [k] := by
  cases h : mhasT k m
  · rw [mput_new k v m h]
    simp
  · rw [mput_old k v m h]
    simp
theorem mput_nodup (k : Int) (v : V) (m : List (Int × V)) (h : (m.map Prod.fst).Nodup) : ((mputT k v m).map Prod.fst).Nodup := by
  rw [mput_keys]
  cases hk : mhasT k m
  · rw [cond_false, List.nodup_append]
    refine ⟨h, by simp, fun a ha b hb => ?_⟩
    rw [List.mem_singleton] at hb
    subst hb
    rintro rfl
    rw [(mhas_iff a m).2 ha] at hk
    cases hk
  · rw [cond_true, List.append_nil]
    exact h
theorem mput_len (k : Int) (v : V) (m : List (Int × V)) : (mputT k v m).length = m.length + bif mhasT k m then 0 else 1 := by
  have := congrArg List.length (mput_keys k v m)
  rw [List.length_map, List.length_append, List.length_map] at this
  rw [this]
  cases mhasT k m <;> rfl
theorem mget_mem {z : V} : ∀ {m : List (Int × V)}, (m.map Prod.fst).Nodup → ∀ p ∈ m, mgetT p.1 m z = p.2
  | [], _, p, hp => by cases hp
  | q :: r, h, p, hp => by
    rw [List.map_cons, List.nodup_cons] at h
    rw [mgetT]
    rcases List.mem_cons.1 hp with rfl | hp
    · simp
    · have : (p.1 == q.1) = false := by
        rw [beq_eq_false_iff_ne]
        intro e
        exact h.1 (e ▸ List.mem_map_of_mem (f := Prod.fst) hp)
      rw [this, cond_false]
      exact mget_mem h.2 p hp
theorem mget_no {z : V} (a : Int) : ∀ {m : List (Int × V)}, mhasT a m = false → mgetT a m z = z
  | [], _ => rfl
  | q :: r, h => by
    rw [mhasT] at h
    rw [mgetT]
    cases hk : a == q.1
    · rw [hk] at h
      exact mget_no a h
    · rw [hk] at h; cases h
theorem mem_of_has {z : V} (a : Int) : ∀ {m : List (Int × V)}, mhasT a m = true → (a, mgetT a m z) ∈ m
  | [], h => by cases h
  | q :: r, h => by
    rw [mhasT] at h
    rw [mgetT]
    cases hk : a == q.1
    · rw [hk] at h
      exact List.mem_cons_of_mem _ (mem_of_has a h)
    · have : a = q.1 := by simpa using hk
      subst this
      exact List.mem_cons_self
end
abbrev GM := List (Int × graph_entry)
def z0 : graph_entry := graph_entry.mk [] 0
def par (M : GM) (x : Int) : List Int := (mgetT x M z0).parents
def lev (M : GM) (x : Int) : Int := (mgetT x M z0).level
def up (m x : Int) : Int := if m < x then x else m
def lvl (M : GM) (ps : List Int) : Int := ps.foldl (fun m q => up m (lev M q + 1)) 0
/-- a graph: what holds of its map -/
structure OkG (M : GM) : Prop where
  nd : (M.map Prod.fst).Nodup
  ok : ∀ x, mhasT x M = true → okN ⟨x, par M x⟩ = true
  has : ∀ x, mhasT x M = true → ∀ q ∈ par M x, mhasT q M = true
  lv : ∀ x, mhasT x M = true → lev M x = lvl M (par M x)
theorem par_no {M : GM} {x : Int} (h : mhasT x M = false) : par M x = [] := by rw [par, mget_no x h]; rfl
theorem okP_mem (id : Int) : ∀ (l : List Int) (last : Int), okP id last l = true → ∀ q ∈ l, last < q ∧ q < id
  | [], _, _, q, hq => by cases hq
  | x :: l, last, h, q, hq => by
    simp only [okP, Bool.and_eq_true, decide_eq_true_eq] at h
    rcases List.mem_cons.1 hq with rfl | hq
    · exact ⟨h.1.1, h.1.2⟩
    · have := okP_mem id l x h.2 q hq
      omega
theorem okP_asc (id : Int) : ∀ (l : List Int) (last : Int), okP id last l = true → Asc l
  | [], _, _ => List.Pairwise.nil
  | x :: l, last, h => by
    simp only [okP, Bool.and_eq_true] at h
    exact List.Pairwise.cons (fun q hq => (okP_mem id l x h.2 q hq).1) (okP_asc id l x h.2)
theorem okN_facts {n : api_Node} (h : okN n = true) : 0 ≤ n.Id ∧ n.Id < 100000 ∧ Asc n.Parents ∧ ∀ q ∈ n.Parents, 0 ≤ q ∧ q < n.Id := by
  simp only [okN, Bool.and_eq_true, decide_eq_true_eq] at h
  refine ⟨h.1.2, h.2, okP_asc _ _ _ h.1.1, fun q hq => ?_⟩
  have := okP_mem _ _ _ h.1.1 q hq
  omega
theorem foldl_up_le {f : Int → Int} {b : Int} : ∀ (ps : List Int) (m : Int), m ≤ b → (∀ q ∈ ps, f q ≤ b) → ps.foldl (fun m q => up m (f q)) m ≤ b
  | [], _, h, _ => h
  | p :: ps, m, h, hq => by
    rw [List.foldl_cons]
    refine foldl_up_le ps _ ?_ fun q hq' => hq q (List.mem_cons_of_mem _ hq')
    have := hq p List.mem_cons_self
    unfold up
    split <;> omega
theorem foldl_up_ge {f : Int → Int} : ∀ (ps : List Int) (m : Int), m ≤ ps.foldl (fun m q => up m (f q)) m ∧ ∀ q ∈ ps, f q ≤ ps.foldl (fun m q => up m (f q)) m
  | [], m => ⟨by simp, fun q hq => by cases hq⟩
  | p :: ps, m => by
    rw [List.foldl_cons]
    obtain ⟨h1, h2⟩ := foldl_up_ge (f := f) ps (up m (f p))
    have : m ≤ up m (f p) ∧ f p ≤ up m (f p) := by unfold up; split <;> omega
    refine ⟨by omega, fun q hq => ?_⟩
    rcases List.mem_cons.1 hq with rfl | hq
    · omega
    · exact h2 q hq
theorem foldl_up_congr {f g : Int → Int} : ∀ (ps : List Int) (m : Int), (∀ q ∈ ps, f q = g q) → ps.foldl (fun m q => up m (f q)) m = ps.foldl (fun m q => up m (g q)) m
  | [], _, _ => rfl
  | p :: ps, m, h => by
    rw [List.foldl_cons, List.foldl_cons, h p List.mem_cons_self]
    exact foldl_up_congr ps _ fun q hq => h q (List.mem_cons_of_mem _ hq)
theorem lvl_nonneg (M : GM) (ps : List Int) : 0 ≤ lvl M ps := (foldl_up_ge (f := fun q => lev M q + 1) ps 0).1
theorem lev_range {M : GM} (h : OkG M) : ∀ x, mhasT x M = true → 0 ≤ lev M x ∧ lev M x ≤ x := by
  have : ∀ (n : Nat) (x : Int), x.toNat < n → mhasT x M = true → 0 ≤ lev M x ∧ lev M x ≤ x := by
    intro n
    induction n with
    | zero => intro x hx; omega
    | succ n ih =>
      intro x hx hm
      obtain ⟨h1, h2, _, h3⟩ := okN_facts (h.ok x hm)
      rw [h.lv x hm]
      refine ⟨lvl_nonneg _ _, foldl_up_le _ _ h1 fun q hq => ?_⟩
      have h4 := h3 q hq
      have := ih q (by have : q < x := h4.2; omega) (h.has x hm q hq)
      have h5 : q < x := h4.2
      omega
  exact fun x => this (x.toNat + 1) x (by omega)
theorem lev_no {M : GM} {x : Int} (h : mhasT x M = false) : lev M x = 0 := by rw [lev, mget_no x h]; rfl
theorem lev_bound {M : GM} (h : OkG M) (x : Int) : 0 ≤ lev M x ∧ lev M x ≤ 100000 := by
  cases hx : mhasT x M
  · rw [lev_no hx]; omega
  · have := lev_range h x hx
    have := (okN_facts (h.ok x hx)).2.1
    have h3 : x < 100000 := this
    omega
theorem asc_len {b : Int} : ∀ (l : List Int) (a : Int), Asc l → (∀ x ∈ l, a ≤ x ∧ x < b) → (l.length : Int) ≤ max (b - a) 0
  | [], a, _, _ => by simp; omega
  | x :: l, a, h, hx => by
    have h1 := List.pairwise_cons.1 h
    have h2 := hx x List.mem_cons_self
    have := asc_len (b := b) l (x + 1) h1.2 fun y hy => by
      have h5 : x < y := h1.1 y hy
      have h6 := hx y (List.mem_cons_of_mem _ hy)
      omega
    rw [List.length_cons]
    omega
theorem par_len {M : GM} (h : OkG M) (x : Int) : (par M x).length ≤ 100000 := by
  cases hx : mhasT x M
  · rw [par_no hx]; simp
  · obtain ⟨h1, h2, h3, h4⟩ := okN_facts (h.ok x hx)
    have h2 : x < 100000 := h2
    have h1 : 0 ≤ x := h1
    have := asc_len (b := x) (par M x) 0 h3 h4
    omega
/- adding -/
def addC (M : GM) (n : api_Node) : Int := bif !(okN n) then 1 else bif mhasT n.Id M then (bif par M n.Id == n.Parents then 0 else 5) else bif n.Parents.all (fun q => mhasT q M) then 0 else 14
def addM (M : GM) (n : api_Node) : GM := bif okN n && !(mhasT n.Id M) && n.Parents.all (fun q => mhasT q M) then mputT n.Id ⟨n.Parents, lvl M n.Parents⟩ M else M
theorem clone_eq (l : List Int) (hl : l.length ≤ 1000000) : slices_Clone_int_int l = some l := by
  unfold slices_Clone_int_int
  rw [chk_true (decide_eq_true hl)]
theorem add_foldL {M : GM} (g : graph_Graph) : ∀ (l : List Int) (m i : Int), foldL (B := Int ⊕ (Int × graph_Graph)) (fun (x : Int) (s : Int × Int) => bif !(mhasT x M) then some (.inr (.inr ((14 : Int), g))) else some (.inl (up s.1 (lev M x + 1), s.2 + 1))) (fun s => some (.inl s.1)) l (m, i) = some (bif l.all (fun q => mhasT q M) then .inl (l.foldl (fun m q => up m (lev M q + 1)) m) else .inr (14, g))
  | [], _, _ => rfl
  | x :: l, m, i => by
    rw [foldL, List.all_cons]
    cases hx : mhasT x M
    · rfl
    · simp only [Bool.not_true, cond_false, Bool.true_and]
      rw [add_foldL g l _ _, List.foldl_cons]
theorem gadd_eq {M : GM} (h : OkG M) (n : api_Node) (hl : n.Parents.length ≤ 1000000) : graph_Graph_Add ⟨M⟩ n = some (addC M n, ⟨addM M n⟩) := by
  unfold graph_Graph_Add addC addM
  rw [valid_eq n hl, bind_s]
  cases h1 : okN n
  · rfl
  simp only [Bool.not_true, cond_false, Bool.true_and]
  cases h2 : mhasT n.Id M
  · simp only [cond_false, Bool.not_false, Bool.true_and]
    rw [loopF_range (body := graph_Graph_Add_L1 n ⟨M⟩) n.Parents (fun s => s.2) (fun (x : Int) (s : Int × Int) => bif !(mhasT x M) then some (.inr (.inr ((14 : Int), ⟨M⟩))) else some (.inl (up s.1 (lev M x + 1), s.2 + 1))) (fun s => .inl s.1) (fun s => s.2 ≤ 1000000)
      (fun s x h1 h2 hx => by
        unfold graph_Graph_Add_L1
        have hlt := (List.getElem?_eq_some_iff.1 hx).1
        have : decide (s.2 < (n.Parents.length : Int)) = true := decide_eq_true (by omega)
        have hb := lev_bound h x
        simp only [this, cond_true]
        rw [getI_of h2, hx, bind_s, wrap64 (n := s.2 + 1) (by omega) (by omega)]
        show (bif !(mhasT x M) then _ else some (Sum.inl (if s.1 < IntKind.i64.wrap (lev M x + 1) then IntKind.i64.wrap (lev M x + 1) else s.1, s.2 + 1))) = _
        rw [wrap64 (n := lev M x + 1) (by omega) (by omega)]
        rfl)
      (fun s h1 h2 => by
        unfold graph_Graph_Add_L1
        have h2 : s.2 = (n.Parents.length : Int) := h2
        simp only [h2, Int.lt_irrefl, decide_false, cond_false])
      (fun x s s' h1 h2 h3 hf => by
        revert hf
        cases mhasT x M
        · intro hf; cases hf
        · intro hf
          simp only [Bool.not_true, cond_false] at hf
          injection hf with hf
          injection hf with hf
          subst hf
          exact ⟨rfl, by show s.2 + 1 ≤ 1000000; omega⟩)
      ((0 : Int), (0 : Int)) (by decide) (by decide) (by show (0 : Int) ≤ _; omega)]
    show seqF (foldL _ _ (n.Parents.drop 0) _) _ = _
    rw [List.drop_zero, add_foldL]
    cases n.Parents.all (fun q => mhasT q M)
    · rfl
    · simp only [cond_true, seqF_l]
      rw [clone_eq _ hl, bind_s]
      rfl
  · simp only [cond_true, Bool.not_true, Bool.false_and, cond_false]
    show (slices_Equal_int_int (par M n.Id) n.Parents).bind _ = _
    have hp : (par M n.Id).length ≤ 1000000 := by
      have := par_len h n.Id
      omega
    rw [equal_eq _ _ hp, bind_s]
    cases par M n.Id == n.Parents <;> rfl
theorem addM_has {M : GM} {n : api_Node} (x : Int) : mhasT x (addM M n) = (mhasT x M || (x == n.Id && okN n && n.Parents.all (fun q => mhasT q M))) := by
  unfold addM
  cases h1 : okN n
  · simp
  cases h2 : mhasT n.Id M
  · cases h3 : n.Parents.all (fun q => mhasT q M)
    · simp
    · simp only [Bool.not_false, Bool.and_self, cond_true, Bool.and_true]
      rw [mhas_mput]
      cases x == n.Id <;> cases mhasT x M <;> rfl
  · simp only [Bool.not_true, Bool.and_false, Bool.false_and, cond_false]
    cases h4 : x == n.Id
    · simp
    · have : x = n.Id := by simpa using h4
      rw [this, h2]
      rfl
theorem addM_old {M : GM} {n : api_Node} {x : Int} (h : mhasT x M = true) : mgetT x (addM M n) z0 = mgetT x M z0 := by
  unfold addM
  cases h1 : okN n && !(mhasT n.Id M) && n.Parents.all (fun q => mhasT q M)
  · rfl
  · simp only [Bool.and_eq_true, Bool.not_eq_true'] at h1
    rw [cond_true, mget_mput]
    have : (x == n.Id) = false := by
      rw [beq_eq_false_iff_ne]
      rintro rfl
      rw [h1.1.2] at h
      cases h
    rw [this]
    rfl
theorem addM_new {M : GM} {n : api_Node} (h1 : okN n = true) (h2 : mhasT n.Id M = false) (h3 : n.Parents.all (fun q => mhasT q M) = true) : mgetT n.Id (addM M n) z0 = ⟨n.Parents, lvl M n.Parents⟩ := by
  unfold addM
  rw [h1, h2, h3]
  simp only [Bool.not_false, Bool.and_self, cond_true]
  rw [mget_mput]
  simp
theorem lvl_congr {M M' : GM} {ps : List Int} (h : ∀ q ∈ ps, lev M q = lev M' q) : lvl M ps = lvl M' ps := foldl_up_congr ps 0 fun q hq => by rw [h q hq]
theorem addM_ok {M : GM} (h : OkG M) (n : api_Node) : OkG (addM M n) := by
  have key : ∀ x, mhasT x (addM M n) = true → mhasT x M = true ∨ (x = n.Id ∧ okN n = true ∧ mhasT n.Id M = false ∧ n.Parents.all (fun q => mhasT q M) = true) := by
    intro x hx
    cases hm : mhasT x M
    · rw [addM_has, hm] at hx
      simp only [Bool.false_or, Bool.and_eq_true, beq_iff_eq] at hx
      exact Or.inr ⟨hx.1.1, hx.1.2, by rw [← hx.1.1]; exact hm, hx.2⟩
    · exact Or.inl rfl
  have mono : ∀ x, mhasT x M = true → mhasT x (addM M n) = true := fun x hx => by rw [addM_has, hx]; rfl
  have levO : ∀ x, mhasT x M = true → lev (addM M n) x = lev M x := fun x hx => by unfold lev; rw [addM_old hx]
  have parO : ∀ x, mhasT x M = true → par (addM M n) x = par M x := fun x hx => by unfold par; rw [addM_old hx]
  refine ⟨?_, fun x hx => ?_, fun x hx q hq => ?_, fun x hx => ?_⟩
  · unfold addM
    cases okN n && !(mhasT n.Id M) && n.Parents.all (fun q => mhasT q M)
    · exact h.nd
    · exact mput_nodup _ _ _ h.nd
  · rcases key x hx with hm | ⟨rfl, h1, h2, h3⟩
    · rw [parO x hm]
      exact h.ok x hm
    · unfold par
      rw [addM_new h1 h2 h3]
      exact h1
  · rcases key x hx with hm | ⟨rfl, h1, h2, h3⟩
    · rw [parO x hm] at hq
      exact mono q (h.has x hm q hq)
    · unfold par at hq
      rw [addM_new h1 h2 h3] at hq
      exact mono q (List.all_eq_true.1 h3 q hq)
  · rcases key x hx with hm | ⟨rfl, h1, h2, h3⟩
    · rw [parO x hm, levO x hm, h.lv x hm]
      exact lvl_congr fun q hq => (levO q (h.has x hm q hq)).symm
    · have e : mgetT n.Id (addM M n) z0 = ⟨n.Parents, lvl M n.Parents⟩ := addM_new h1 h2 h3
      unfold lev par
      rw [e]
      exact lvl_congr fun q hq => (levO q (List.all_eq_true.1 h3 q hq)).symm
theorem ok_nil : OkG [] where
  nd := by simp
  ok := fun x (hx : false = true) => by cases hx
  has := fun x (hx : false = true) => by cases hx
  lv := fun x (hx : false = true) => by cases hx
end Go.Proofs.Ytlgadmholjaljaa
namespace Go.Proofs.Ytlgadmholjaljaa
open Go.RowKit
theorem has_g (M : GM) (x : Int) : graph_Graph_Has ⟨M⟩ x = some (mhasT x M) := rfl
theorem len_g (M : GM) : graph_Graph_Len ⟨M⟩ = some (M.length : Int) := rfl
theorem copy_g (M : GM) : graph_Graph_Copy ⟨M⟩ = some ⟨M⟩ := rfl
def levO (M : GM) (x : Int) : Int := bif mhasT x M then lev M x else -1
theorem level_g (M : GM) (x : Int) : graph_Graph_Level ⟨M⟩ x = some (levO M x) := by
  unfold graph_Graph_Level levO
  cases mhasT x M <;> rfl
theorem parents_g {M : GM} (h : OkG M) (x : Int) : graph_Graph_Parents ⟨M⟩ x = some (par M x) := by
  have := par_len h x
  show (slices_Clone_int_int (par M x)).bind _ = _
  rw [clone_eq _ (by omega)]
  rfl
/-- some nodes, and what is below them -/
inductive Rch (M : GM) (ids : List Int) : Int → Prop
  | base {x : Int} (h : x ∈ ids) (hm : mhasT x M = true) : Rch M ids x
  | step {y x : Int} (h : Rch M ids y) (hx : x ∈ par M y) : Rch M ids x
theorem Rch.has {M : GM} (h : OkG M) {ids : List Int} {x : Int} (hr : Rch M ids x) : mhasT x M = true := by
  induction hr with
  | base _ hm => exact hm
  | step _ hx ih => exact h.has _ ih _ hx
structure Sm (M : GM) : Prop where
  len : M.length ≤ 1000
  par : ∀ x, (par M x).length ≤ 100
theorem sub_len {A : Type} [BEq A] [LawfulBEq A] : ∀ {a b : List A}, a.Nodup → (∀ x ∈ a, x ∈ b) → a.length ≤ b.length
  | [], b, _, _ => by simp
  | x :: a, b, h, hs => by
    rw [List.nodup_cons] at h
    have h1 : x ∈ b := hs x List.mem_cons_self
    have := sub_len (b := b.erase x) h.2 fun y hy => by
      have hne : y ≠ x := by rintro rfl; exact h.1 hy
      exact (List.mem_erase_of_ne hne).2 (hs y (List.mem_cons_of_mem _ hy))
    rw [List.length_erase_of_mem h1] at this
    have hpos := List.length_pos_of_mem h1
    rw [List.length_cons]
    omega
structure DJ (M : GM) (ids : List Int) (s : Nat × List (Int × Bool) × List Int) : Prop where
  n : s.1 ≤ s.2.2.length
  st : ∀ x ∈ s.2.2.take s.1, Rch M ids x
  nd : (s.2.1.map Prod.fst).Nodup
  seen : ∀ p ∈ s.2.1, p.2 = true ∧ Rch M ids p.1
  cl : ∀ x, x ∈ s.2.1.map Prod.fst → ∀ q ∈ Go.Proofs.Ytlgadmholjaljaa.par M x, q ∈ s.2.1.map Prod.fst ∨ q ∈ s.2.2.take s.1
  idm : ∀ x ∈ ids, mhasT x M = true → x ∈ s.2.1.map Prod.fst ∨ x ∈ s.2.2.take s.1
  b : s.1 ≤ ids.length + 100 * s.2.1.length
theorem DJ.many {M : GM} (h : OkG M) {ids : List Int} {s : Nat × List (Int × Bool) × List Int} (hJ : DJ M ids s) : s.2.1.length ≤ M.length := by
  have := sub_len (a := s.2.1.map Prod.fst) (b := M.map Prod.fst) hJ.nd fun x hx => by
    obtain ⟨p, hp, rfl⟩ := List.mem_map.1 hx
    exact (mhas_iff _ _).1 ((hJ.seen p hp).2.has h)
  simpa using this
theorem mget_true {seen : List (Int × Bool)} (h : ∀ p ∈ seen, p.2 = true) (x : Int) : mgetT x seen false = mhasT x seen := by
  cases hx : mhasT x seen
  · exact mget_no x hx
  · exact h _ (mem_of_has (z := false) x hx)
theorem take_concat {l : List Int} {k : Nat} (h : k < l.length) : l.take (k + 1) = l.take k ++ [l.getD k 0] := take_succ_getD l 0 h
theorem down_loop {M : GM} (h : OkG M) (hs : Sm M) {ids : List Int} (hi : ids.length ≤ 10000) (s : Nat × List (Int × Bool) × List Int) (hJ : DJ M ids s) :
    ∃ seen : List (Int × Bool), loopF (graph_Graph_Down_L1 ⟨M⟩) s = some (.inl seen) ∧ (seen.map Prod.fst).Nodup ∧ ∀ x, x ∈ seen.map Prod.fst ↔ Rch M ids x := by
  refine loopF_by (body := graph_Graph_Down_L1 ⟨M⟩) (DJ M ids) (fun s => 101 * (M.length + 1 - s.2.1.length) + s.1) (fun _ r => ∃ seen : List (Int × Bool), r = some (.inl seen) ∧ (seen.map Prod.fst).Nodup ∧ ∀ x, x ∈ seen.map Prod.fst ↔ Rch M ids x) ?_ s hJ
  rintro ⟨n, seen, arr⟩ hJ
  have hmany := hJ.many h
  have hln := hs.len
  have hn := hJ.n
  have hb := hJ.b
  dsimp only at hmany hn hb ⊢
  cases n with
  | zero =>
    right
    refine ⟨.inl seen, ?_, seen, rfl, hJ.nd, fun x => ⟨fun hx => ?_, fun hx => ?_⟩⟩
    · unfold graph_Graph_Down_L1
      simp
    · obtain ⟨p, hp, rfl⟩ := List.mem_map.1 hx
      exact (hJ.seen p hp).2
    · induction hx with
      | base hi hm => exact (hJ.idm _ hi hm).resolve_right (by simp)
      | step _ hx ih => exact (hJ.cl _ ih _ hx).resolve_right (by simp)
  | succ k =>
    left
    have e1 : IntKind.i64.wrap (((k + 1 : Nat) : Int) - 1) = (k : Int) := by rw [wrap64 (by omega) (by omega)]; omega
    have c0 : decide ((0 : Int) < ((k + 1 : Nat) : Int)) = true := decide_eq_true (by omega)
    have c1 : (decide (0 ≤ (k : Int)) && decide ((k : Int) < ((k + 1 : Nat) : Int))) = true := by simp; omega
    have c2 : cutO (0 : Int) (k : Int) ((k + 1 : Nat) : Int) = true := by simp [cutO]; omega
    have e2 : (0 + (k : Int).toNat) = k := by omega
    have e3 : ((k : Int) - 0).toNat = k := by omega
    have hk : k < arr.length := by omega
    have hget := getI_in 0 hk
    generalize hx : arr.getD k 0 = x at hget
    have htk : arr.take (k + 1) = arr.take k ++ [x] := by rw [← hx]; exact take_concat hk
    have hst := hJ.st
    have hcl := hJ.cl
    have hids := hJ.idm
    dsimp only at hst hcl hids
    rw [htk] at hst
    have hRx : Rch M ids x := hst x (by simp)
    have hbody : graph_Graph_Down_L1 ⟨M⟩ (k + 1, seen, arr) = bif !(mhasT x seen) then (chkO (decide (k + (par M x).length ≤ 1000000))).bind fun _ => some (.inl (k + (par M x).length, mputT x true seen, arr.take k ++ par M x)) else some (.inl (k, seen, arr)) := by
      unfold graph_Graph_Down_L1
      simp only [c0, cond_true, e1, c1, chkO_true, e2, hget, bind_s, c2, e3]
      rw [mget_true fun p hp => (hJ.seen p hp).1]
      rfl
    rw [hbody]
    cases hsx : mhasT x seen
    · have hpl := hs.par x
      have hlt : seen.length + 1 ≤ M.length := by
        have := sub_len (a := x :: seen.map Prod.fst) (b := M.map Prod.fst) (List.nodup_cons.2 ⟨fun hx => (by rw [(mhas_iff x seen).2 hx] at hsx; cases hsx), hJ.nd⟩) fun y hy => by
          rcases List.mem_cons.1 hy with rfl | hy
          · exact (mhas_iff _ _).1 (hRx.has h)
          · obtain ⟨p, hp, rfl⟩ := List.mem_map.1 hy
            exact (mhas_iff _ _).1 ((hJ.seen p hp).2.has h)
        simpa using this
      have hlen : (mputT x true seen).length = seen.length + 1 := by rw [mput_len, hsx]; rfl
      have hkeys : ∀ y, y ∈ (mputT x true seen).map Prod.fst ↔ (y ∈ seen.map Prod.fst ∨ y = x) := fun y => by
        rw [mput_keys, hsx, cond_false, List.mem_append, List.mem_singleton]
      have htake : (arr.take k ++ par M x).take (k + (par M x).length) = arr.take k ++ par M x := by
        apply List.take_of_length_le
        rw [List.length_append, List.length_take]
        omega
      refine ⟨_, by simp only [Bool.not_false, cond_true]; rw [chk_true (decide_eq_true (by omega))], ?_, by dsimp only; omega, fun r hr => hr⟩
      refine ⟨by rw [List.length_append, List.length_take]; omega, ?_, mput_nodup _ _ _ hJ.nd, ?_, ?_, ?_, by dsimp only; omega⟩
      · dsimp only
        rw [htake]
        intro y hy
        rcases List.mem_append.1 hy with hy | hy
        · exact hst y (List.mem_append_left _ hy)
        · exact .step hRx hy
      · intro p hp
        rw [mput_new _ _ _ hsx, List.mem_append, List.mem_singleton] at hp
        rcases hp with hp | rfl
        · exact hJ.seen p hp
        · exact ⟨rfl, hRx⟩
      · dsimp only
        rw [htake]
        intro y hy q hq
        rw [hkeys] at hy ⊢
        rcases hy with hy | rfl
        · rcases hcl y hy q hq with h1 | h1
          · exact Or.inl (Or.inl h1)
          · rw [htk, List.mem_append, List.mem_singleton] at h1
            rcases h1 with h1 | h1
            · exact Or.inr (List.mem_append_left _ h1)
            · exact Or.inl (Or.inr h1)
        · exact Or.inr (List.mem_append_right _ hq)
      · dsimp only
        rw [htake]
        intro y hy hm
        rw [hkeys]
        rcases hids y hy hm with h1 | h1
        · exact Or.inl (Or.inl h1)
        · rw [htk, List.mem_append, List.mem_singleton] at h1
          rcases h1 with h1 | h1
          · exact Or.inr (List.mem_append_left _ h1)
          · exact Or.inl (Or.inr h1)
    · have hxs : x ∈ seen.map Prod.fst := (mhas_iff x seen).1 hsx
      refine ⟨_, rfl, ⟨by dsimp only; omega, fun y hy => hst y (List.mem_append_left _ hy), hJ.nd, hJ.seen, fun y hy q hq => ?_, fun y hy hm => ?_, by dsimp only; omega⟩, by dsimp only; omega, fun r hr => hr⟩
      · rcases hcl y hy q hq with h1 | h1
        · exact Or.inl h1
        · rw [htk, List.mem_append, List.mem_singleton] at h1
          rcases h1 with h1 | rfl
          · exact Or.inr h1
          · exact Or.inl hxs
      · rcases hids y hy hm with h1 | h1
        · exact Or.inl h1
        · rw [htk, List.mem_append, List.mem_singleton] at h1
          rcases h1 with h1 | rfl
          · exact Or.inr h1
          · exact Or.inl hxs
theorem key_range {M : GM} (h : OkG M) {x : Int} (hx : mhasT x M = true) : 0 ≤ x ∧ x < 100000 := by
  obtain ⟨h1, h2, _⟩ := okN_facts (h.ok x hx)
  exact ⟨h1, h2⟩
theorem down_g {M : GM} (h : OkG M) (hs : Sm M) {ids : List Int} (hi : ids.length ≤ 10000) : ∃ l, graph_Graph_Down ⟨M⟩ ids = some l ∧ Asc l ∧ ∀ x, x ∈ l ↔ Rch M ids x := by
  unfold graph_Graph_Down
  rw [clone_eq _ (by omega), bind_s]
  have e : (fun a0 => graph_Graph_Down_1 a0 ⟨M⟩) = fun a => some (!(mhasT a M)) := rfl
  rw [e, deleteF_eq _ (by omega), bind_s]
  have e2 : (ids.filter fun w => !(!(mhasT w M))) = ids.filter fun w => mhasT w M := by simp only [Bool.not_not]
  rw [e2]
  generalize hf : (ids.filter fun w => mhasT w M) = l0
  have hl0 : l0.length ≤ ids.length := by rw [← hf]; exact List.length_filter_le ..
  have hm0 : ∀ x, x ∈ l0 ↔ x ∈ ids ∧ mhasT x M = true := fun x => by rw [← hf, List.mem_filter]
  have hd : DJ M ids (l0.length, [], l0) := by
    have ht : l0.take l0.length = l0 := List.take_of_length_le (Nat.le_refl _)
    constructor
    · exact Nat.le_refl _
    · intro x hx
      dsimp only at hx
      rw [ht] at hx
      exact .base ((hm0 x).1 hx).1 ((hm0 x).1 hx).2
    · exact List.nodup_nil
    · intro p hp
      cases hp
    · intro x hx
      cases hx
    · intro x hx hm
      right
      dsimp only
      rw [ht]
      exact (hm0 x).2 ⟨hx, hm⟩
    · dsimp only
      omega
  obtain ⟨seen, h1, h2, h3⟩ := down_loop h hs hi (l0.length, [], l0) hd
  rw [h1, seqF_l]
  have hlen : seen.length ≤ M.length := by
    have := sub_len (a := seen.map Prod.fst) (b := M.map Prod.fst) h2 fun x hx => (mhas_iff _ _).1 (((h3 x).1 hx).has h)
    simpa using this
  have := hs.len
  rw [sortedK_eq (by rw [List.length_map]; omega) fun k hk => by have := key_range h (((h3 k).1 hk).has h); omega]
  refine ⟨_, rfl, sorted_asc h2, fun x => ?_⟩
  rw [List.mem_mergeSort]
  exact h3 x
/-- some nodes, and what is below them, in order -/
noncomputable def down (M : GM) (ids : List Int) : List Int := (graph_Graph_Down ⟨M⟩ ids).getD []
theorem down_eq {M : GM} (h : OkG M) (hs : Sm M) {ids : List Int} (hi : ids.length ≤ 10000) : graph_Graph_Down ⟨M⟩ ids = some (down M ids) := by
  obtain ⟨l, h1, _⟩ := down_g h hs hi
  unfold down
  rw [h1]
  rfl
theorem down_asc {M : GM} (h : OkG M) (hs : Sm M) {ids : List Int} (hi : ids.length ≤ 10000) : Asc (down M ids) := by
  obtain ⟨l, h1, h2, _⟩ := down_g h hs hi
  unfold down
  rw [h1]
  exact h2
theorem down_mem {M : GM} (h : OkG M) (hs : Sm M) {ids : List Int} (hi : ids.length ≤ 10000) (x : Int) : x ∈ down M ids ↔ Rch M ids x := by
  obtain ⟨l, h1, _, h3⟩ := down_g h hs hi
  unfold down
  rw [h1]
  exact h3 x
/-- the past of a node -/
noncomputable def past (M : GM) (x : Int) : List Int := down M (par M x)
theorem past_g {M : GM} (h : OkG M) (hs : Sm M) (x : Int) : graph_Graph_Past ⟨M⟩ x = some (past M x) := by
  have := hs.par x
  show (graph_Graph_Down ⟨M⟩ (par M x)).bind _ = _
  rw [down_eq h hs (by omega)]
  rfl
end Go.Proofs.Ytlgadmholjaljaa
namespace Go.Proofs.Ytlgadmholjaljaa
open Go.RowKit Go.Sort
theorem cmp_Or_eq (a b : Int) : cmp_Or_int [a, b] = some (if a ≠ 0 then a else b) := by
  have step : ∀ i : Nat, ∀ x, [a, b][i]? = some x → cmp_Or_int_L1 [a, b] (i : Int) = bif x != 0 then some (.inr (.inr x)) else some (.inl ((i : Int) + 1)) := by
    intro i x hx
    have hi : i < 2 := (List.getElem?_eq_some_iff.1 hx).1
    have hlt : ((i : Int) < ((([a, b] : List Int).length : Nat) : Int)) := by simp only [List.length_cons, List.length_nil]; omega
    unfold cmp_Or_int_L1
    simp only [hlt, decide_true, cond_true]
    rw [bind_some_of (show getI [a, b] (i : Int) = some x by rw [getI_nat]; exact hx), wrap64 (n := (i : Int) + 1) (by omega) (by omega)]
  have s0 := step 0 a rfl
  have s1 := step 1 b rfl
  have s2 : cmp_Or_int_L1 [a, b] 2 = some (.inr (.inl ())) := by
    unfold cmp_Or_int_L1
    rfl
  unfold cmp_Or_int
  by_cases ha : a = 0
  · subst ha
    rw [loopF_next (s' := 1) (by simpa using s0)]
    by_cases hb : b = 0
    · subst hb
      rw [loopF_next (s' := 2) (by simpa using s1), loopF_stop s2]
      rfl
    · have : (b != 0) = true := by simpa using hb
      rw [loopF_stop (b := .inr b) (by simpa [this] using s1)]
      simp [seqF]
  · have : (a != 0) = true := by simpa using ha
    rw [loopF_stop (b := .inr a) (by simpa [this] using s0)]
    simp [seqF, ha]
/- searching -/
theorem mid_eq {a b : Nat} (ha : a ≤ 1000000) (hb : b ≤ 1000000) : IntKind.i64.wrap (Int.fdiv (IntKind.u64.wrap (IntKind.i64.wrap ((a : Int) + (b : Int)))) (2 ^ (min (1 : Int).toNat (IntKind.bits .u64)))) = (((a + b) / 2 : Nat) : Int) := by
  rw [wrap64 (n := (a : Int) + (b : Int)) (by omega) (by omega), IntWalk.u64_in _ ⟨by omega, by omega⟩]
  have e : (2 : Int) ^ (min (1 : Int).toNat (IntKind.bits .u64)) = 2 := rfl
  rw [e, Int.fdiv_eq_ediv_of_nonneg _ (by decide)]
  rw [wrap64 (by omega) (by omega)]
  omega
theorem less_eq (x y : Int) : cmp_Less_int x y = some (decide (x < y)) := by
  unfold cmp_Less_int cmp_isNaN_int
  rw [bind_s, bne_self_eq_false]
  rfl
theorem asc_get {l : List Int} (h : Asc l) {i j : Nat} (hij : i < j) (hj : j < l.length) : l.getD i 0 < l.getD j 0 := by
  rw [List.getD_eq_getElem?_getD, List.getD_eq_getElem?_getD, List.getElem?_eq_getElem hj, List.getElem?_eq_getElem (by omega : i < l.length)]
  exact List.pairwise_iff_getElem.1 h i j (by omega) hj hij
theorem search_loop {l : List Int} (h : Asc l) (hl : l.length ≤ 1000000) (t : Int) (s : Int × Int) (hs : ∃ i j : Nat, s = ((i : Int), (j : Int)) ∧ i ≤ j ∧ j ≤ l.length ∧ (∀ k, k < i → l.getD k 0 < t) ∧ ∀ k, j ≤ k → k < l.length → t ≤ l.getD k 0) :
    ∃ i : Nat, loopF (slices_BinarySearch_int_int_L1 l t) s = some (.inl (i : Int)) ∧ i ≤ l.length ∧ (∀ k, k < i → l.getD k 0 < t) ∧ ∀ k, i ≤ k → k < l.length → t ≤ l.getD k 0 := by
  refine loopF_by (body := slices_BinarySearch_int_int_L1 l t) (fun s => ∃ i j : Nat, s = ((i : Int), (j : Int)) ∧ i ≤ j ∧ j ≤ l.length ∧ (∀ k, k < i → l.getD k 0 < t) ∧ ∀ k, j ≤ k → k < l.length → t ≤ l.getD k 0) (fun s => (s.2 - s.1).toNat)
    (fun _ r => ∃ i : Nat, r = some (.inl (i : Int)) ∧ i ≤ l.length ∧ (∀ k, k < i → l.getD k 0 < t) ∧ ∀ k, i ≤ k → k < l.length → t ≤ l.getD k 0) ?_ s hs
  rintro _ ⟨i, j, rfl, hij, hj, h1, h2⟩
  by_cases hlt : i < j
  · left
    have c0 : decide ((i : Int) < (j : Int)) = true := decide_eq_true (by omega)
    have hm := mid_eq (a := i) (b := j) (by omega) (by omega)
    have hk : (i + j) / 2 < l.length := by omega
    generalize hq : (i + j) / 2 = q at hm hk
    have hiq : i ≤ q ∧ q < j := by omega
    have hw : IntKind.i64.wrap ((q : Int) + 1) = ((q + 1 : Nat) : Int) := by rw [wrap64 (by omega) (by omega)]; omega
    have hb : slices_BinarySearch_int_int_L1 l t ((i : Int), (j : Int)) = bif decide (l.getD q 0 < t) then some (.inl (((q + 1 : Nat) : Int), (j : Int))) else some (.inl ((i : Int), (q : Int))) := by
      unfold slices_BinarySearch_int_int_L1
      simp only [c0, cond_true, hm, hw]
      rw [getI_in 0 hk, bind_s, less_eq, bind_s]
    rw [hb]
    by_cases hx : l.getD q 0 < t
    · refine ⟨_, by rw [decide_eq_true hx]; rfl, ⟨q + 1, j, rfl, by omega, hj, fun k hk' => ?_, h2⟩, by dsimp only; omega, fun r hr => hr⟩
      by_cases hkq : k = q
      · rw [hkq]; exact hx
      · have := asc_get h (show k < q by omega) hk
        omega
    · refine ⟨_, by rw [decide_eq_false hx]; rfl, ⟨i, q, rfl, by omega, by omega, h1, fun k hk' hkl => ?_⟩, by dsimp only; omega, fun r hr => hr⟩
      by_cases hkq : k = q
      · rw [hkq]; omega
      · have := asc_get h (show q < k by omega) hkl
        omega
  · right
    have : i = j := by omega
    subst this
    refine ⟨.inl (i : Int), ?_, i, rfl, hj, h1, h2⟩
    unfold slices_BinarySearch_int_int_L1
    simp only [Int.lt_irrefl, decide_false, cond_false]
theorem search_eq {l : List Int} (h : Asc l) (hl : l.length ≤ 1000000) (t : Int) : ∃ i : Int, slices_BinarySearch_int_int l t = some (i, l.contains t) := by
  obtain ⟨i, h1, h2, h3, h4⟩ := search_loop h hl t ((0 : Int), (l.length : Int)) ⟨0, l.length, rfl, by omega, Nat.le_refl _, fun k hk => by omega, fun k hk hk' => by omega⟩
  unfold slices_BinarySearch_int_int
  rw [h1, seqF_l]
  have hno : ∀ {x : Int}, x ∈ l → x = t → i < l.length ∧ l.getD i 0 = t := by
    rintro x hx rfl
    obtain ⟨k, hk, rfl⟩ := List.getElem_of_mem hx
    have e : l.getD k 0 = l[k] := by rw [List.getD_eq_getElem?_getD, List.getElem?_eq_getElem hk]; rfl
    have hki : i ≤ k := by
      rcases Nat.lt_or_ge k i with hc | hc
      · have := h3 k hc
        omega
      · exact hc
    refine ⟨by omega, ?_⟩
    rcases Nat.lt_or_ge i k with hc | hc
    · have a1 := asc_get h hc hk
      have a2 := h4 i (Nat.le_refl _) (by omega)
      omega
    · have : i = k := by omega
      rw [this, e]
  by_cases hi : i < l.length
  · have c0 : decide ((i : Int) < (l.length : Int)) = true := decide_eq_true (by omega)
    simp only [c0, cond_true]
    rw [getI_in 0 hi, bind_s]
    cases hx : l.getD i 0 == t
    · refine ⟨i, ?_⟩
      have hc : l.contains t = false := by
        rw [← Bool.not_eq_true, List.contains_iff_mem]
        intro hm
        rw [beq_eq_false_iff_ne] at hx
        exact hx (hno hm rfl).2
      unfold slices_isNaN_int
      rw [cond_false, bind_s, bne_self_eq_false, hc]
      rfl
    · refine ⟨i, ?_⟩
      have hc : l.contains t = true := by
        rw [List.contains_iff_mem]
        have hx : l.getD i 0 = t := by simpa using hx
        rw [← hx, List.getD_eq_getElem?_getD, List.getElem?_eq_getElem hi]
        exact List.getElem_mem hi
      rw [cond_true, hc]
  · have c0 : decide ((i : Int) < (l.length : Int)) = false := decide_eq_false (by omega)
    refine ⟨i, ?_⟩
    have hc : l.contains t = false := by
      rw [← Bool.not_eq_true, List.contains_iff_mem]
      intro hm
      exact hi (hno hm rfl).1
    rw [c0, hc]
    rfl
theorem past_len {M : GM} (h : OkG M) (hs : Sm M) (x : Int) : (past M x).length ≤ 1000 := by
  have hp := hs.par x
  have hl := hs.len
  have ha := down_asc h hs (ids := par M x) (by omega)
  have := sub_len (a := past M x) (b := M.map Prod.fst) (ha.imp fun h => by omega) fun y hy => (mhas_iff _ _).1 (((down_mem h hs (by omega) y).1 hy).has h)
  rw [List.length_map] at this
  omega
theorem past_asc {M : GM} (h : OkG M) (hs : Sm M) (x : Int) : Asc (past M x) := down_asc h hs (by have := hs.par x; omega)
theorem past_mem {M : GM} (h : OkG M) (hs : Sm M) (x y : Int) : y ∈ past M x ↔ Rch M (par M x) y := down_mem h hs (by have := hs.par x; omega) y
theorem before_g {M : GM} (h : OkG M) (hs : Sm M) (a b : Int) : graph_Graph_Before ⟨M⟩ a b = some ((past M b).contains a) := by
  unfold graph_Graph_Before
  have := past_len h hs b
  obtain ⟨i, hi⟩ := search_eq (past_asc h hs b) (by omega) a
  rw [past_g h hs, bind_s, hi, bind_s]
/- whether two are the same -/
def sameB (M M' : GM) : Bool := (M.length == M'.length) && M.all fun p => mhasT p.1 M' && p.2.parents == par M' p.1
theorem same_fold {M' : GM} : ∀ (l : GM), (∀ p ∈ l, p.2.parents.length ≤ 100000) → rangeF maps_EqualFunc_map_int_graph_entry_map_int_graph_entry_int_graph_entry_graph_entry_R1d (maps_EqualFunc_map_int_graph_entry_map_int_graph_entry_int_graph_entry_graph_entry_R1b M' graph_Graph_Same_1) l () = some (l.all fun p => mhasT p.1 M' && p.2.parents == par M' p.1)
  | [], _ => rfl
  | p :: l, h => by
    have hp := h p List.mem_cons_self
    have e : maps_EqualFunc_map_int_graph_entry_map_int_graph_entry_int_graph_entry_graph_entry_R1b M' graph_Graph_Same_1 () p = bif mhasT p.1 M' && p.2.parents == par M' p.1 then some (.inl ()) else some (.inr false) := by
      unfold maps_EqualFunc_map_int_graph_entry_map_int_graph_entry_int_graph_entry_graph_entry_R1b
      cases mhasT p.1 M'
      · rfl
      · simp only [Bool.not_true, cond_false, Bool.true_and]
        unfold graph_Graph_Same_1
        show ((slices_Equal_int_int p.2.parents (par M' p.1)).bind fun y1 => some y1).bind _ = _
        rw [equal_eq _ _ (by omega), bind_s, bind_s]
        cases p.2.parents == par M' p.1 <;> rfl
    rw [rangeF, e, List.all_cons]
    cases mhasT p.1 M' && p.2.parents == par M' p.1
    · rfl
    · rw [cond_true, Bool.true_and]
      exact same_fold l fun q hq => h q (List.mem_cons_of_mem _ hq)
theorem ent_par {M : GM} (h : OkG M) {p : Int × graph_entry} (hp : p ∈ M) : p.2.parents = par M p.1 := by rw [par, mget_mem h.nd p hp]
theorem ent_has {M : GM} {p : Int × graph_entry} (hp : p ∈ M) : mhasT p.1 M = true := (mhas_iff _ _).2 (List.mem_map_of_mem hp)
theorem same_g {M : GM} (h : OkG M) (M' : GM) : graph_Graph_Same ⟨M⟩ ⟨M'⟩ = some (sameB M M') := by
  unfold graph_Graph_Same maps_EqualFunc_map_int_graph_entry_map_int_graph_entry_int_graph_entry_graph_entry sameB
  have hp : ∀ p ∈ M, p.2.parents.length ≤ 100000 := fun p hp => by rw [ent_par h hp]; exact par_len h _
  by_cases hl : M.length = M'.length
  · have h1 : ((M.length : Int) != (M'.length : Int)) = false := by rw [hl]; simp
    have h2 : (M.length == M'.length) = true := by simp [hl]
    rw [h1, h2, cond_false, Bool.true_and]
    rw [permO_of (b := M.all fun p => mhasT p.1 M' && p.2.parents == par M' p.1) fun l' hl' => ?_]
    · rfl
    · rw [same_fold l' fun p hq => hp p (hl'.mem_iff.1 hq), hl'.all_eq]
  · have h1 : ((M.length : Int) != (M'.length : Int)) = true := by simp; omega
    have h2 : (M.length == M'.length) = false := by simp [hl]
    rw [h1, h2]
    rfl
end Go.Proofs.Ytlgadmholjaljaa
namespace Go.Proofs.Ytlgadmholjaljaa
open Go.RowKit Go.Sort
/- heads -/
theorem heads_L1 (q : Int × graph_entry) (hq : q.2.parents.length ≤ 100000) (c : List (Int × Bool)) (hc : ∀ p ∈ c, p.2 = true) :
    ∃ c' : List (Int × Bool), loopF (graph_Graph_Heads_L1 q) ((0 : Int), c) = some (.inl c') ∧ (∀ p ∈ c', p.2 = true) ∧ ∀ x, mhasT x c' = (mhasT x c || q.2.parents.contains x) := by
  refine loopF_inv (body := graph_Graph_Heads_L1 q) q.2.parents.length (fun i s => ∃ c', s = ((i : Int), c') ∧ (∀ p ∈ c', p.2 = true) ∧ ∀ x, mhasT x c' = (mhasT x c || (q.2.parents.take i).contains x))
    (fun r => ∃ c' : List (Int × Bool), r = some (.inl c') ∧ (∀ p ∈ c', p.2 = true) ∧ ∀ x, mhasT x c' = (mhasT x c || q.2.parents.contains x)) ?_ ?_ ⟨c, rfl, hc, fun x => by simp⟩
  · rintro i _ hi ⟨c', rfl, h1, h2⟩
    left
    refine ⟨_, ?_, mputT (q.2.parents.getD i 0) true c', rfl, ?_, fun x => ?_⟩
    · unfold graph_Graph_Heads_L1
      have : decide ((i : Int) < (q.2.parents.length : Int)) = true := decide_eq_true (by omega)
      simp only [this, cond_true]
      rw [getI_in 0 hi, bind_s, wrap64 (by omega) (by omega)]
      rfl
    · intro p hp
      cases hk : mhasT (q.2.parents.getD i 0) c'
      · rw [mput_new _ _ _ hk, List.mem_append, List.mem_singleton] at hp
        rcases hp with hp | rfl
        · exact h1 p hp
        · rfl
      · have : ∀ (k : Int) (m : List (Int × Bool)), (∀ p ∈ m, p.2 = true) → ∀ p ∈ mputT k true m, p.2 = true := by
          intro k m
          induction m with
          | nil => intro _ p hp; simp only [mputT, List.mem_singleton] at hp; rw [hp]
          | cons a m ih =>
            intro hm p hp
            rw [mputT] at hp
            cases hka : k == a.1
            · rw [hka, cond_false] at hp
              rcases List.mem_cons.1 hp with rfl | hp
              · exact hm _ List.mem_cons_self
              · exact ih (fun p hp => hm p (List.mem_cons_of_mem _ hp)) p hp
            · rw [hka, cond_true] at hp
              rcases List.mem_cons.1 hp with rfl | hp
              · rfl
              · exact hm p (List.mem_cons_of_mem _ hp)
        exact this _ _ h1 p hp
    · rw [mhas_mput, h2, take_succ_getD _ 0 hi]
      have : (q.2.parents.take i ++ [q.2.parents.getD i 0]).contains x = ((q.2.parents.take i).contains x || x == q.2.parents.getD i 0) := by
        apply bool_ext
        simp
      rw [this]
      cases x == q.2.parents.getD i 0 <;> cases mhasT x c <;> cases (q.2.parents.take i).contains x <;> rfl
  · rintro _ ⟨c', rfl, h1, h2⟩
    refine ⟨.inl c', ?_, c', rfl, h1, fun x => by rw [h2, List.take_length]⟩
    unfold graph_Graph_Heads_L1
    simp only [Int.lt_irrefl, decide_false, cond_false]
/-- whether a node is a parent of one of some nodes -/
def innerB (l : GM) (x : Int) : Bool := l.any fun p => p.2.parents.contains x
def keysS (M : GM) : List Int := (M.map Prod.fst).mergeSort fun x y => decide (x ≤ y)
theorem keysS_asc {M : GM} (h : OkG M) : Asc (keysS M) := sorted_asc h.nd
theorem keysS_mem (M : GM) (x : Int) : x ∈ keysS M ↔ mhasT x M = true := by rw [keysS, List.mem_mergeSort, mhas_iff]
def headsP (M : GM) : List Int := (keysS M).filter fun x => !innerB M x
theorem heads_done {M : GM} (h : OkG M) (hs : Sm M) (c : List (Int × Bool)) (hc : ∀ p ∈ c, p.2 = true) : graph_Graph_Heads_R2d ⟨M⟩ c = some ((keysS M).filter fun x => !mhasT x c) := by
  unfold graph_Graph_Heads_R2d
  have hl := hs.len
  show (sortedK (M.map Prod.fst)).bind _ = _
  rw [sortedK_eq (by rw [List.length_map]; omega) fun k hk => by have := key_range h ((mhas_iff _ _).2 hk); omega, bind_s]
  have e : (fun a0 => graph_Graph_Heads_1 a0 c) = fun a => some (mhasT a c) := by
    funext a
    show some (mgetT a c false) = _
    rw [mget_true hc]
  rw [e]
  show (slices_DeleteFunc_int_int (keysS M) _).bind _ = _
  rw [deleteF_eq _ (by unfold keysS; rw [List.length_mergeSort, List.length_map]; omega), bind_s]
theorem heads_fold {M : GM} (h : OkG M) (hs : Sm M) : ∀ (l : GM) (c : List (Int × Bool)), (∀ p ∈ l, p.2.parents.length ≤ 100000) → (∀ p ∈ c, p.2 = true) → rangeF (graph_Graph_Heads_R2d ⟨M⟩) graph_Graph_Heads_R2b l c = some ((keysS M).filter fun x => !(mhasT x c || innerB l x))
  | [], c, _, hc => by
    rw [rangeF, heads_done h hs c hc]
    simp [innerB]
  | p :: l, c, hl, hc => by
    obtain ⟨c', h1, h2, h3⟩ := heads_L1 p (hl p List.mem_cons_self) c hc
    have e : graph_Graph_Heads_R2b c p = some (.inl c') := h1
    rw [rangeF, e]
    show rangeF _ _ l c' = _
    rw [heads_fold h hs l c' (fun q hq => hl q (List.mem_cons_of_mem _ hq)) h2]
    congr 1
    apply List.filter_congr
    intro x _
    rw [h3]
    unfold innerB
    rw [List.any_cons, Bool.or_assoc]
theorem heads_g {M : GM} (h : OkG M) (hs : Sm M) : graph_Graph_Heads ⟨M⟩ = some (headsP M) := by
  unfold graph_Graph_Heads
  refine permO_of fun l' hl' => ?_
  rw [heads_fold h hs l' [] (fun p hp => by rw [ent_par h (hl'.mem_iff.1 hp)]; exact par_len h _) (fun p hp => by cases hp)]
  unfold headsP
  congr 1
  apply List.filter_congr
  intro x _
  simp only [mhasT, Bool.false_or]
  unfold innerB
  rw [hl'.any_eq]
theorem inner_iff {M : GM} (h : OkG M) (x : Int) : innerB M x = true ↔ ∃ y, mhasT y M = true ∧ x ∈ par M y := by
  unfold innerB
  rw [List.any_eq_true]
  constructor
  · rintro ⟨p, hp, hx⟩
    exact ⟨p.1, ent_has hp, by rw [← ent_par h hp]; exact List.contains_iff_mem.1 hx⟩
  · rintro ⟨y, hy, hx⟩
    exact ⟨_, mem_of_has (z := z0) y hy, List.contains_iff_mem.2 hx⟩
theorem headsP_asc {M : GM} (h : OkG M) : Asc (headsP M) := asc_filter (keysS_asc h) _
theorem headsP_mem {M : GM} (h : OkG M) (x : Int) : x ∈ headsP M ↔ mhasT x M = true ∧ ∀ y, mhasT y M = true → x ∉ par M y := by
  unfold headsP
  rw [List.mem_filter, keysS_mem, Bool.not_eq_true', ← Bool.not_eq_true, inner_iff h]
  constructor
  · rintro ⟨h1, h2⟩
    exact ⟨h1, fun y hy hx => h2 ⟨y, hy, hx⟩⟩
  · rintro ⟨h1, h2⟩
    exact ⟨h1, fun ⟨y, hy, hx⟩ => h2 y hy hx⟩
/- in order of levels, then of ids -/
def ltG (M : GM) (a b : Int) : Bool := decide (lev M a < lev M b) || (lev M a == lev M b && decide (a < b))
theorem ltG_iff (M : GM) (a b : Int) : ltG M a b = true ↔ lev M a < lev M b ∨ (lev M a = lev M b ∧ a < b) := by simp [ltG]
theorem ltG_not (M : GM) (a b : Int) : ltG M a b = false ↔ lev M b < lev M a ∨ (lev M a = lev M b ∧ b ≤ a) := by
  rw [← Bool.not_eq_true, ltG_iff]
  omega
def cmpG (M : GM) (a b : Int) : Int := if lev M a - lev M b ≠ 0 then lev M a - lev M b else a - b
theorem ltOf_cmpG (M : GM) (a b : Int) : ltOf (cmpG M) a b = ltG M a b := by
  apply bool_ext
  rw [ltG_iff]
  unfold ltOf cmpG
  rw [decide_eq_true_eq]
  by_cases hq : lev M a = lev M b
  · rw [if_neg (by omega)]
    omega
  · rw [if_pos (by omega)]
    omega
theorem cmp_g {M : GM} (h : OkG M) {a b : Int} (ha : mhasT a M = true) (hb : mhasT b M = true) : graph_Graph_Sorted_2 a b ⟨M⟩ = some (cmpG M a b) := by
  unfold graph_Graph_Sorted_2
  have h1 := lev_bound h a
  have h2 := lev_bound h b
  have h3 := key_range h ha
  have h4 := key_range h hb
  show (cmp_Or_int [IntKind.i64.wrap (lev M a - lev M b), IntKind.i64.wrap (a - b)]).bind _ = _
  rw [wrap64 (by omega) (by omega), wrap64 (by omega) (by omega), cmp_Or_eq, bind_s]
  rfl
def LAsc (M : GM) (l : List Int) : Prop := l.Pairwise fun a b => ltG M a b = true
theorem lasc_nodup {M : GM} {l : List Int} (h : LAsc M l) : l.Nodup := h.imp fun {a b} h => by
  rw [ltG_iff] at h
  rintro rfl
  omega
theorem lasc_ext {M : GM} {a b : List Int} (ha : LAsc M a) (hb : LAsc M b) (h : ∀ x, x ∈ a ↔ x ∈ b) : a = b := by
  refine List.Perm.eq_of_pairwise (le := fun x y => ltG M x y = true) ?_ ha hb ((List.perm_ext_iff_of_nodup (lasc_nodup ha) (lasc_nodup hb)).2 h)
  intro x y _ _ h1 h2
  rw [ltG_iff] at h1 h2
  omega
/-- neighbours that are equal are struck -/
theorem ddP_spec (M : GM) (s : List Int) (hs : s.Pairwise fun a b => ltG M b a = false) : ∀ m, m ≤ s.length → LAsc M (ddP s m) ∧ (∀ x, x ∈ ddP s m ↔ x ∈ s.take m)
  | 0, _ => ⟨List.Pairwise.nil, fun x => by simp [ddP]⟩
  | m + 1, hm => by
    obtain ⟨h1, h2⟩ := ddP_spec M s hs m (by omega)
    rw [ddP, take_succ_getD s 0 (by omega)]
    have hge : ∀ {i j : Nat}, i < j → j < s.length → ltG M (s.getD j 0) (s.getD i 0) = false := by
      intro i j hij hj
      rw [List.getD_eq_getElem?_getD, List.getD_eq_getElem?_getD, List.getElem?_eq_getElem hj, List.getElem?_eq_getElem (by omega : i < s.length)]
      exact List.pairwise_iff_getElem.1 hs i j (by omega) hj hij
    cases hc : m == 0 || !(eqD (s.getD m 0) (s.getD (m - 1) 0))
    · rw [Bool.or_eq_false_iff] at hc
      have hm0 : m ≠ 0 := by simpa using hc.1
      have heq : s.getD m 0 = s.getD (m - 1) 0 := by
        have := hc.2
        unfold eqD at this
        simpa using this
      simp only [cond_false, List.append_nil]
      refine ⟨h1, fun x => ?_⟩
      rw [h2, List.mem_append, List.mem_singleton]
      constructor
      · exact Or.inl
      · rintro (hx | rfl)
        · exact hx
        · rw [heq, List.mem_take_iff_getElem]
          exact ⟨m - 1, by omega, by rw [List.getD_eq_getElem?_getD, List.getElem?_eq_getElem (by omega)]; rfl⟩
    · simp only [cond_true]
      refine ⟨List.pairwise_append.2 ⟨h1, List.pairwise_singleton .., fun a ha b hb => ?_⟩, fun x => ?_⟩
      · rw [List.mem_singleton] at hb
        subst hb
        rw [h2, List.mem_take_iff_getElem] at ha
        obtain ⟨i, hi, rfl⟩ := ha
        have e : s[i] = s.getD i 0 := by rw [List.getD_eq_getElem?_getD, List.getElem?_eq_getElem (by omega)]; rfl
        rw [e]
        have a1 := hge (i := i) (j := m) (by omega) (by omega)
        rw [ltG_not] at a1
        rw [ltG_iff]
        rcases a1 with a1 | ⟨a1, a2⟩
        · exact Or.inl a1
        · refine Or.inr ⟨a1.symm, ?_⟩
          rcases Nat.lt_or_ge i (m - 1) with hc2 | hc2
          · have a3 := hge (i := i) (j := m - 1) hc2 (by omega)
            have a4 := hge (i := m - 1) (j := m) (by omega) (by omega)
            rw [ltG_not] at a3 a4
            have hne : s.getD m 0 ≠ s.getD (m - 1) 0 := by
              intro e2
              rw [Bool.or_eq_true] at hc
              rcases hc with hc | hc
              · have : m = 0 := by simpa using hc
                omega
              · unfold eqD at hc
                rw [e2] at hc
                simp at hc
            omega
          · have him : i = m - 1 := by omega
            have hne : s.getD m 0 ≠ s.getD (m - 1) 0 := by
              intro e2
              rw [Bool.or_eq_true] at hc
              rcases hc with hc | hc
              · have : m = 0 := by simpa using hc
                omega
              · unfold eqD at hc
                rw [e2] at hc
                simp at hc
            rw [him] at a2 ⊢
            omega
      · rw [List.mem_append, List.mem_append, h2]
theorem sorted_g {M : GM} (h : OkG M) {ids : List Int} (hi : ids.length ≤ 100000) : ∃ l, graph_Graph_Sorted ⟨M⟩ ids = some l ∧ LAsc M l ∧ ∀ x, x ∈ l ↔ x ∈ ids ∧ mhasT x M = true := by
  unfold graph_Graph_Sorted
  rw [clone_eq _ (by omega), bind_s]
  have e : (fun a0 => graph_Graph_Sorted_1 a0 ⟨M⟩) = fun a => some (!(mhasT a M)) := rfl
  rw [e, deleteF_eq _ (by omega), bind_s]
  have e2 : (ids.filter fun w => !(!(mhasT w M))) = ids.filter fun w => mhasT w M := by simp only [Bool.not_not]
  rw [e2]
  generalize hf : (ids.filter fun w => mhasT w M) = l0
  have hl0 : l0.length ≤ ids.length := by rw [← hf]; exact List.length_filter_le ..
  have hm0 : ∀ x, x ∈ l0 ↔ x ∈ ids ∧ mhasT x M = true := fun x => by rw [← hf, List.mem_filter]
  have hok : SortOkI (fun a b => graph_Graph_Sorted_2 a b ⟨M⟩) l0 (cmpG M) := by
    refine ⟨fun x hx y hy => cmp_g h ((hm0 x).1 hx).2 ((hm0 y).1 hy).2, ⟨fun x => ?_, fun x y z => ?_, fun x y z => ?_⟩, fun x hx y hy e1 e2 => ?_, by omega⟩
    · show ltOf (cmpG M) x.1 x.1 = false
      rw [ltOf_cmpG, ltG_not]; omega
    · show ltOf (cmpG M) x.1 y.1 = true → ltOf (cmpG M) y.1 z.1 = true → ltOf (cmpG M) x.1 z.1 = true
      rw [ltOf_cmpG, ltOf_cmpG, ltOf_cmpG, ltG_iff, ltG_iff, ltG_iff]; omega
    · show ltOf (cmpG M) x.1 y.1 = false → ltOf (cmpG M) y.1 z.1 = false → ltOf (cmpG M) x.1 z.1 = false
      rw [ltOf_cmpG, ltOf_cmpG, ltOf_cmpG, ltG_not, ltG_not, ltG_not]; omega
    · rw [ltOf_cmpG, ltG_not] at e1 e2
      omega
  have hs : SortedI (cmpG M) l0 (l0.mergeSort fun x y => !ltG M y x) := by
    refine ⟨List.mergeSort_perm _ _, ?_⟩
    have := List.pairwise_mergeSort (le := fun x y => !ltG M y x) (fun a b c e1 e2 => by
        simp only [Bool.not_eq_true'] at e1 e2 ⊢
        rw [ltG_not] at e1 e2 ⊢
        omega) (fun a b => by
        cases h : ltG M b a
        · rfl
        · have : ltG M a b = false := by
            rw [ltG_iff] at h
            rw [ltG_not]
            omega
          rw [this]
          rfl) l0
    refine this.imp fun {a b} h => ?_
    rw [ltOf_cmpG]
    simpa using h
  rw [sortI_eq hok hs, bind_s]
  have hp : (l0.mergeSort fun x y => !ltG M y x).Pairwise fun a b => ltG M b a = false := hs.pair.imp fun {a b} h => by rwa [ltOf_cmpG] at h
  have hm : ∀ x, x ∈ (l0.mergeSort fun x y => !ltG M y x) ↔ x ∈ l0 := fun x => List.mem_mergeSort
  have hl : (l0.mergeSort fun x y => !ltG M y x).length = l0.length := List.length_mergeSort ..
  generalize (l0.mergeSort fun x y => !ltG M y x) = s at hp hm hl
  rw [compact_eq s (by omega), bind_s]
  obtain ⟨k1, k2⟩ := ddP_spec M s hp s.length (Nat.le_refl _)
  refine ⟨_, rfl, k1, fun x => ?_⟩
  rw [k2, List.take_length, hm, hm0]
noncomputable def sortedP (M : GM) (ids : List Int) : List Int := (graph_Graph_Sorted ⟨M⟩ ids).getD []
theorem sortedP_eq {M : GM} (h : OkG M) {ids : List Int} (hi : ids.length ≤ 100000) : graph_Graph_Sorted ⟨M⟩ ids = some (sortedP M ids) := by
  obtain ⟨l, h1, _⟩ := sorted_g h hi
  unfold sortedP
  rw [h1]
  rfl
theorem sortedP_asc {M : GM} (h : OkG M) {ids : List Int} (hi : ids.length ≤ 100000) : LAsc M (sortedP M ids) := by
  obtain ⟨l, h1, h2, _⟩ := sorted_g h hi
  unfold sortedP
  rw [h1]
  exact h2
theorem sortedP_mem {M : GM} (h : OkG M) {ids : List Int} (hi : ids.length ≤ 100000) (x : Int) : x ∈ sortedP M ids ↔ x ∈ ids ∧ mhasT x M = true := by
  obtain ⟨l, h1, _, h3⟩ := sorted_g h hi
  unfold sortedP
  rw [h1]
  exact h3 x
/- parts -/
def partP (M : GM) (l : List Int) : GM := l.foldl (fun s x => mputT x (mgetT x M z0) s) []
theorem restrict_foldL (M : GM) (g : graph_Graph) : ∀ (l : List Int) (i : Int) (s : GM), foldL (B := GM ⊕ graph_Graph) (fun (x : Int) (s : Int × GM) => some (.inl (s.1 + 1, mputT x (mgetT x M z0) s.2))) (fun s => some (.inl s.2)) l (i, s) = some (.inl (l.foldl (fun s x => mputT x (mgetT x M z0) s) s))
  | [], _, _ => rfl
  | x :: l, i, s => by
    rw [foldL, List.foldl_cons]
    exact restrict_foldL M g l _ _
theorem restrict_g {M : GM} (h : OkG M) (hs : Sm M) {ids : List Int} (hi : ids.length ≤ 10000) : graph_Graph_Restrict ⟨M⟩ ids = some ⟨partP M (down M ids)⟩ := by
  unfold graph_Graph_Restrict
  rw [show graph_New = some ⟨[]⟩ from rfl, bind_s, down_eq h hs hi, bind_s]
  have hlen : (down M ids).length ≤ 1000 := by
    have := sub_len (a := down M ids) (b := M.map Prod.fst) ((down_asc h hs hi).imp fun h => by omega) fun y hy => (mhas_iff _ _).1 (((down_mem h hs hi y).1 hy).has h)
    rw [List.length_map] at this
    have := hs.len
    omega
  generalize down M ids = l at hlen
  rw [loopF_range (body := graph_Graph_Restrict_L1 l ⟨M⟩) l (fun s => s.1) (fun (x : Int) (s : Int × GM) => some (.inl (s.1 + 1, mputT x (mgetT x M z0) s.2))) (fun s => .inl s.2) (fun s => s.1 ≤ 1000000)
    (fun s x h1 h2 hx => by
      unfold graph_Graph_Restrict_L1
      have hlt := (List.getElem?_eq_some_iff.1 hx).1
      have c0 : decide (s.1 < (l.length : Int)) = true := decide_eq_true (by omega)
      have c1 : decide (0 ≤ s.1) = true := decide_eq_true h2
      simp only [c0, c1, cond_true, Bool.and_self, chkO_true]
      rw [getI_of h2, hx, bind_s, wrap64 (by omega) (by omega)]
      rfl)
    (fun s h1 h2 => by
      unfold graph_Graph_Restrict_L1
      have h2 : s.1 = (l.length : Int) := h2
      simp only [h2, Int.lt_irrefl, decide_false, cond_false])
    (fun x s s' h1 h2 h3 hf => by
      injection hf with hf
      injection hf with hf
      subst hf
      exact ⟨rfl, by show s.1 + 1 ≤ 1000000; omega⟩)
    ((0 : Int), []) (by decide) (by decide) (by show (0 : Int) ≤ _; omega)]
  show seqF (foldL _ _ (l.drop 0) _) _ = _
  rw [List.drop_zero, restrict_foldL M ⟨M⟩, seqF_l]
  rfl
theorem part_has (M : GM) : ∀ (l : List Int) (s : GM) (x : Int), mhasT x (l.foldl (fun s x => mputT x (mgetT x M z0) s) s) = (mhasT x s || l.contains x)
  | [], s, x => by simp
  | a :: l, s, x => by
    rw [List.foldl_cons, part_has M l, mhas_mput, List.contains_cons]
    cases x == a <;> cases mhasT x s <;> cases l.contains x <;> rfl
theorem part_get (M : GM) : ∀ (l : List Int) (s : GM) (x : Int), (∀ y, mhasT y s = true → mgetT y s z0 = mgetT y M z0) → mhasT x (l.foldl (fun s x => mputT x (mgetT x M z0) s) s) = true → mgetT x (l.foldl (fun s x => mputT x (mgetT x M z0) s) s) z0 = mgetT x M z0
  | [], s, x, h, hx => h x hx
  | a :: l, s, x, h, hx => by
    rw [List.foldl_cons] at hx ⊢
    refine part_get M l _ x (fun y hy => ?_) hx
    rw [mget_mput]
    cases hya : y == a
    · rw [mhas_mput, hya, Bool.false_or] at hy
      exact h y hy
    · have : y = a := by simpa using hya
      rw [this]
      rfl
theorem part_nodup (M : GM) : ∀ (l : List Int) (s : GM), (s.map Prod.fst).Nodup → ((l.foldl (fun s x => mputT x (mgetT x M z0) s) s).map Prod.fst).Nodup
  | [], s, h => h
  | a :: l, s, h => by
    rw [List.foldl_cons]
    exact part_nodup M l _ (mput_nodup _ _ _ h)
theorem partP_has (M : GM) (l : List Int) (x : Int) : mhasT x (partP M l) = l.contains x := by
  unfold partP
  rw [part_has]
  simp [mhasT]
theorem partP_get (M : GM) (l : List Int) {x : Int} (h : x ∈ l) : mgetT x (partP M l) z0 = mgetT x M z0 := by
  refine part_get M l [] x (fun y hy => by cases hy) ?_
  have := partP_has M l x
  unfold partP at this
  rw [this]
  exact List.contains_iff_mem.2 h
theorem partP_ok {M : GM} (h : OkG M) {l : List Int} (hl : ∀ x ∈ l, mhasT x M = true) (hc : ∀ x ∈ l, ∀ q ∈ par M x, q ∈ l) : OkG (partP M l) := by
  have hx : ∀ x, mhasT x (partP M l) = true → x ∈ l := fun x hx => by rw [partP_has] at hx; exact List.contains_iff_mem.1 hx
  have hp : ∀ x, x ∈ l → par (partP M l) x = par M x := fun x hx => by unfold par; rw [partP_get M l hx]
  have hv : ∀ x, x ∈ l → lev (partP M l) x = lev M x := fun x hx => by unfold lev; rw [partP_get M l hx]
  refine ⟨part_nodup M l [] (by simp), fun x hm => ?_, fun x hm q hq => ?_, fun x hm => ?_⟩
  · rw [hp x (hx x hm)]
    exact h.ok x (hl x (hx x hm))
  · rw [hp x (hx x hm)] at hq
    rw [partP_has]
    exact List.contains_iff_mem.2 (hc x (hx x hm) q hq)
  · rw [hp x (hx x hm), hv x (hx x hm), h.lv x (hl x (hx x hm))]
    exact lvl_congr fun q hq => (hv q (hc x (hx x hm) q hq)).symm
theorem down_closed {M : GM} (h : OkG M) (hs : Sm M) {ids : List Int} (hi : ids.length ≤ 10000) : ∀ x ∈ down M ids, ∀ q ∈ par M x, q ∈ down M ids := fun x hx q hq => (down_mem h hs hi q).2 (.step ((down_mem h hs hi x).1 hx) hq)
theorem restrict_ok {M : GM} (h : OkG M) (hs : Sm M) {ids : List Int} (hi : ids.length ≤ 10000) : OkG (partP M (down M ids)) :=
  partP_ok h (fun x hx => ((down_mem h hs hi x).1 hx).has h) (down_closed h hs hi)
end Go.Proofs.Ytlgadmholjaljaa
namespace Go.Proofs.Ytlgadmholjaljaa
open Go.RowKit Go.Sort
theorem few_eq (l : List api_Node) (n : Nat) (hn : n ≤ 1000) : ref07_Few l n = some ((l.take (n + 1)).all (fun x => decide (x.Parents.length ≤ 30)) && decide (l.length ≤ n)) := by
  unfold ref07_Few
  have d0 : api_Node := ⟨0, []⟩
  have hlt : (l.take (n + 1)).length = min (n + 1) l.length := List.length_take ..
  have hb : ∀ i : Nat, i < (l.take (n + 1)).length → ref07_Few_L1 l (n : Int) (i : Int) = bif decide (((l.take (n + 1)).getD i d0).Parents.length ≤ 30) then some (.inl ((i : Int) + 1)) else some (.inr (.inr false)) := fun i hi => by
    unfold ref07_Few_L1
    have c0 : decide ((i : Int) < (l.length : Int)) = true := decide_eq_true (by omega)
    have c1 : decide ((i : Int) ≤ (n : Int)) = true := decide_eq_true (by omega)
    simp only [c0, c1, cond_true]
    rw [getI_in d0 (by omega), bind_s, wrap64 (by omega) (by omega)]
    have e : (l.take (n + 1)).getD i d0 = l.getD i d0 := by
      rw [List.getD_eq_getElem?_getD, List.getD_eq_getElem?_getD, List.getElem?_take_of_lt (by omega)]
    rw [e]
    by_cases hp : (l.getD i d0).Parents.length ≤ 30
    · rw [decide_eq_true hp, decide_eq_false (by omega)]
      rfl
    · rw [decide_eq_false hp, decide_eq_true (by omega)]
      rfl
  have he : ref07_Few_L1 l (n : Int) ((l.take (n + 1)).length : Int) = some (.inr (.inl ())) := by
    unfold ref07_Few_L1
    by_cases hc : l.length ≤ n
    · have : decide ((((l.take (n + 1)).length : Nat) : Int) < (l.length : Int)) = false := decide_eq_false (by omega)
      rw [this]
      rfl
    · have c0 : decide ((((l.take (n + 1)).length : Nat) : Int) < (l.length : Int)) || true = true := by simp
      have c1 : decide ((((l.take (n + 1)).length : Nat) : Int) ≤ (n : Int)) = false := decide_eq_false (by omega)
      rw [c1]
      cases decide ((((l.take (n + 1)).length : Nat) : Int) < (l.length : Int)) <;> rfl
  rw [loopF_idx _ _ false hb he]
  have hall : ((List.range (l.take (n + 1)).length).all fun i => decide (((l.take (n + 1)).getD i d0).Parents.length ≤ 30)) = (l.take (n + 1)).all fun x => decide (x.Parents.length ≤ 30) := by
    apply bool_ext
    rw [List.all_eq_true, List.all_eq_true]
    constructor
    · intro h x hx
      obtain ⟨i, hi, rfl⟩ := List.getElem_of_mem hx
      have := h i (List.mem_range.2 hi)
      rwa [List.getD_eq_getElem?_getD, List.getElem?_eq_getElem hi] at this
    · intro h i hi
      have hi := List.mem_range.1 hi
      rw [List.getD_eq_getElem?_getD, List.getElem?_eq_getElem hi]
      exact h _ (List.getElem_mem hi)
  rw [hall]
  cases (l.take (n + 1)).all fun x => decide (x.Parents.length ≤ 30)
  · rfl
  · simp only [cond_true, seqF_l, Bool.true_and]
    congr 2
    apply propext
    omega
theorem few_spec {l : List api_Node} {n : Nat} (h : ((l.take (n + 1)).all (fun x => decide (x.Parents.length ≤ 30)) && decide (l.length ≤ n)) = true) : l.length ≤ n ∧ ∀ x ∈ l, x.Parents.length ≤ 30 := by
  rw [Bool.and_eq_true, decide_eq_true_eq] at h
  have e : l.take (n + 1) = l := List.take_of_length_le (by omega)
  rw [e] at h
  exact ⟨h.2, fun x hx => of_decide_eq_true (List.all_eq_true.1 h.1 x hx)⟩
/- graphs made of some nodes -/
structure From (l : List api_Node) (M : GM) : Prop where
  ok : OkG M
  src : ∀ x, mhasT x M = true → ∃ n ∈ l, n.Id = x ∧ n.Parents = par M x
theorem from_nil (l : List api_Node) : From l [] := ⟨ok_nil, fun x (h : false = true) => by cases h⟩
theorem From.add {l : List api_Node} {M : GM} (h : From l M) {n : api_Node} (hn : n ∈ l) : From l (addM M n) := by
  refine ⟨addM_ok h.ok n, fun x hx => ?_⟩
  cases hm : mhasT x M
  · rw [addM_has, hm] at hx
    simp only [Bool.false_or, Bool.and_eq_true, beq_iff_eq] at hx
    obtain ⟨⟨rfl, h1⟩, h2⟩ := hx
    refine ⟨n, hn, rfl, ?_⟩
    unfold par
    rw [addM_new h1 hm h2]
  · obtain ⟨n', h1, h2, h3⟩ := h.src x hm
    refine ⟨n', h1, h2, ?_⟩
    rw [h3]
    unfold par
    rw [addM_old hm]
theorem From.len {l : List api_Node} {M : GM} (h : From l M) : M.length ≤ l.length := by
  have := sub_len (a := M.map Prod.fst) (b := l.map fun n => n.Id) h.ok.nd fun x hx => by
    obtain ⟨n, h1, h2, _⟩ := h.src x ((mhas_iff _ _).2 hx)
    exact List.mem_map.2 ⟨n, h1, h2⟩
  simpa using this
theorem From.sm {l : List api_Node} {M : GM} (h : From l M) (hl : l.length ≤ 1000) (hp : ∀ n ∈ l, n.Parents.length ≤ 100) : Sm M := by
  have := h.len
  refine ⟨by omega, fun x => ?_⟩
  cases hx : mhasT x M
  · rw [par_no hx]; simp
  · obtain ⟨n, h1, _, h3⟩ := h.src x hx
    rw [← h3]
    exact hp n h1
theorem From.mono {l l' : List api_Node} {M : GM} (h : From l M) (hs : ∀ n ∈ l, n ∈ l') : From l' M := ⟨h.ok, fun x hx => let ⟨n, h1, h2⟩ := h.src x hx; ⟨n, hs n h1, h2⟩⟩
def addAll (M : GM) (l : List api_Node) : GM := l.foldl addM M
theorem From.all {l : List api_Node} : ∀ (l' : List api_Node) {M : GM}, From l M → (∀ n ∈ l', n ∈ l) → From l (addAll M l')
  | [], _, h, _ => h
  | _ :: l', _, h, hs => From.all (l := l) l' (h.add (hs _ List.mem_cons_self)) fun n' hn => hs n' (List.mem_cons_of_mem _ hn)
theorem addM_step (M : GM) (n : api_Node) : addM M n = M ∨ (addM M n).length = M.length + 1 := by
  unfold addM
  cases h : okN n && !(mhasT n.Id M) && n.Parents.all (fun q => mhasT q M)
  · exact Or.inl rfl
  · right
    simp only [Bool.and_eq_true, Bool.not_eq_true'] at h
    rw [cond_true, mput_len, h.1.2]
    rfl
theorem addAll_len : ∀ (l : List api_Node) (M : GM), M.length ≤ (addAll M l).length ∧ ((addAll M l).length = M.length → addAll M l = M ∧ ∀ n ∈ l, addM M n = M)
  | [], M => ⟨Nat.le_refl _, fun _ => ⟨rfl, fun n hn => by cases hn⟩⟩
  | n :: l, M => by
    show M.length ≤ (addAll (addM M n) l).length ∧ ((addAll (addM M n) l).length = M.length → addAll (addM M n) l = M ∧ _)
    obtain ⟨h1, h2⟩ := addAll_len l (addM M n)
    rcases addM_step M n with h | h
    · rw [h] at h1 h2 ⊢
      refine ⟨h1, fun e => ⟨(h2 e).1, fun n' hn => ?_⟩⟩
      rcases List.mem_cons.1 hn with rfl | hn
      · exact h
      · exact (h2 e).2 n' hn
    · exact ⟨by omega, fun e => by omega⟩
theorem made_foldL (g : graph_Graph) : ∀ (l : List api_Node) (i : Int) (M : GM), foldL (B := GM ⊕ graph_Graph) (fun (x : api_Node) (s : Int × GM) => some (.inl (s.1 + 1, addM s.2 x))) (fun s => some (.inl s.2)) l (i, M) = some (.inl (addAll M l))
  | [], _, _ => rfl
  | x :: l, i, M => by
    rw [foldL]
    exact made_foldL g l _ _
theorem adds_loop {B : Type} {body : Int × GM → Option ((Int × GM) ⊕ (GM ⊕ B))} {l : List api_Node} (hl : l.length ≤ 1000) (hp : ∀ n ∈ l, n.Parents.length ≤ 100) (hb : ∀ s : Int × GM, body s = bif decide (s.1 < (l.length : Int)) then (getI l s.1).bind fun x => (graph_Graph_Add ⟨s.2⟩ x).bind fun y => some (.inl (IntKind.i64.wrap (s.1 + 1), y.2.nodes)) else some (.inr (.inl s.2))) {M : GM} (hM : OkG M) :
    loopF body ((0 : Int), M) = some (.inl (addAll M l)) := by
  refine loopF_inv (body := body) l.length (fun i s => s = ((i : Int), addAll M (l.take i)) ∧ OkG s.2) (fun r => r = some (.inl (addAll M l))) ?_ ?_ ⟨by simp [addAll], hM⟩
  · rintro i _ hi ⟨rfl, h2⟩
    left
    have hg := getI_in (⟨0, []⟩ : api_Node) hi
    have hx : l.getD i ⟨0, []⟩ ∈ l := by
      rw [List.getD_eq_getElem?_getD, List.getElem?_eq_getElem hi]
      exact List.getElem_mem hi
    have hpx := hp _ hx
    have c0 : decide ((i : Int) < (l.length : Int)) = true := decide_eq_true (by omega)
    have e : addAll M (l.take (i + 1)) = addM (addAll M (l.take i)) (l.getD i ⟨0, []⟩) := by
      unfold addAll
      rw [take_succ_getD l ⟨0, []⟩ hi, List.foldl_append]
      rfl
    refine ⟨_, ?_, rfl, by rw [e]; exact addM_ok h2 (l.getD i ⟨0, []⟩)⟩
    rw [hb]
    simp only [c0, cond_true]
    rw [hg, bind_s, gadd_eq h2 _ (by omega), bind_s, wrap64 (by omega) (by omega), e]
    rfl
  · rintro _ ⟨rfl, _⟩
    refine ⟨_, ?_, rfl⟩
    rw [hb]
    simp only [Int.lt_irrefl, decide_false, cond_false, List.take_length]
theorem made_eq {l : List api_Node} (hl : l.length ≤ 1000) (hp : ∀ n ∈ l, n.Parents.length ≤ 100) : law07_made l = some ⟨addAll [] l⟩ := by
  unfold law07_made
  rw [show graph_New = some ⟨[]⟩ from rfl, bind_s, adds_loop (body := law07_made_L1 l) hl hp (fun s => rfl) ok_nil, seqF_l]
/-- what is known of some nodes: nothing more is accepted -/
structure Known (l : List api_Node) (M : GM) : Prop extends From l M where
  st : ∀ n ∈ l, okN n = true → (∀ q ∈ n.Parents, mhasT q M = true) → mhasT n.Id M = true
theorem known_eq {l : List api_Node} (hl : l.length ≤ 1000) (hp : ∀ n ∈ l, n.Parents.length ≤ 100) : ∃ M, law07_known l = some ⟨M⟩ ∧ Known l M := by
  have key : ∃ M, loopF (law07_known_L2 l) ((0 : Int), []) = some (.inr ⟨M⟩) ∧ Known l M := by
    refine loopF_inv (body := law07_known_L2 l) (l.length + 1) (fun i s => ∃ M, s = ((i : Int), M) ∧ From l M ∧ i ≤ M.length) (fun r => ∃ M, r = some (.inr ⟨M⟩) ∧ Known l M) ?_ ?_ ⟨[], rfl, from_nil l, Nat.le_refl _⟩
    · rintro i _ hi ⟨M, rfl, hM, hlen⟩
      have c0 : decide ((i : Int) ≤ (l.length : Int)) = true := decide_eq_true (by omega)
      have hb : law07_known_L2 l ((i : Int), M) = bif (((addAll M l).length : Int) == (M.length : Int)) then some (.inr (.inr ⟨addAll M l⟩)) else some (.inl ((i : Int) + 1, addAll M l)) := by
        unfold law07_known_L2
        simp only [c0, cond_true]
        rw [len_g, bind_s, adds_loop (body := law07_known_L1 l) hl hp (fun s => rfl) hM.ok, seqF_l, len_g, bind_s, wrap64 (by omega) (by omega)]
        cases ((addAll M l).length : Int) == (M.length : Int) <;> rfl
      obtain ⟨h1, h2⟩ := addAll_len l M
      have hA : From l (addAll M l) := hM.all l fun n hn => hn
      rw [hb]
      cases he : ((addAll M l).length : Int) == (M.length : Int)
      · left
        have hne : (addAll M l).length ≠ M.length := by
          intro e
          rw [e] at he
          simp at he
        exact ⟨_, rfl, addAll M l, rfl, hA, by omega⟩
      · right
        have heq : (addAll M l).length = M.length := by
          have : ((addAll M l).length : Int) = (M.length : Int) := by simpa using he
          omega
        obtain ⟨h3, h4⟩ := h2 heq
        refine ⟨_, rfl, addAll M l, rfl, ⟨hA, fun n hn h5 h6 => ?_⟩⟩
        rw [h3] at h6 ⊢
        have := h4 n hn
        have hh := addM_has (M := M) (n := n) n.Id
        rw [this, h5, List.all_eq_true.2 h6] at hh
        rw [hh]
        simp
    · rintro _ ⟨M, rfl, hM, hlen⟩
      have := hM.len
      omega
  obtain ⟨M, h1, h2⟩ := key
  refine ⟨M, ?_, h2⟩
  unfold law07_known
  rw [show graph_New = some ⟨[]⟩ from rfl, bind_s, h1, seqF_r]
end Go.Proofs.Ytlgadmholjaljaa
namespace Go.Proofs.Ytlgadmholjaljaa
open Go.RowKit Go.Sort
theorem all_eq {M : GM} {l : List api_Node} (hl : l.length ≤ 1000) : ∃ ids, law07_all ⟨M⟩ l = some ids ∧ ids.Nodup ∧ (∀ x, x ∈ ids ↔ x ∈ l.map (fun n => n.Id) ∧ mhasT x M = true) ∧ ids.length ≤ l.length := by
  have key : ∃ ids, loopF (law07_all_L1 l ⟨M⟩) ((0 : Int), []) = some (.inl ids) ∧ ids.Nodup ∧ (∀ x, x ∈ ids ↔ x ∈ l.map (fun n => n.Id) ∧ mhasT x M = true) ∧ ids.length ≤ l.length := by
    refine loopF_inv (body := law07_all_L1 l ⟨M⟩) l.length (fun i s => ∃ out : List Int, s = ((i : Int), out) ∧ out.Nodup ∧ (∀ x, x ∈ out ↔ x ∈ (l.take i).map (fun n => n.Id) ∧ mhasT x M = true) ∧ out.length ≤ i)
      (fun r => ∃ ids, r = some (.inl ids) ∧ ids.Nodup ∧ (∀ x, x ∈ ids ↔ x ∈ l.map (fun n => n.Id) ∧ mhasT x M = true) ∧ ids.length ≤ l.length) ?_ ?_ ⟨[], rfl, List.nodup_nil, fun x => by simp, Nat.le_refl _⟩
    · rintro i _ hi ⟨out, rfl, h1, h2, h3⟩
      left
      have hg := getI_in (⟨0, []⟩ : api_Node) hi
      generalize hn : l.getD i ⟨0, []⟩ = n at hg
      have htk : (l.take (i + 1)).map (fun n => n.Id) = (l.take i).map (fun n => n.Id) ++ [n.Id] := by
        rw [take_succ_getD l ⟨0, []⟩ hi, List.map_append, hn]
        rfl
      have c0 : decide ((i : Int) < (l.length : Int)) = true := decide_eq_true (by omega)
      have hb : law07_all_L1 l ⟨M⟩ ((i : Int), out) = bif mhasT n.Id M && !(out.contains n.Id) then some (.inl ((i : Int) + 1, out ++ [n.Id])) else some (.inl ((i : Int) + 1, out)) := by
        unfold law07_all_L1
        simp only [c0, cond_true]
        rw [hg, bind_s, has_g, bind_s, wrap64 (by omega) (by omega)]
        cases mhasT n.Id M
        · rfl
        · simp only [cond_true, Bool.true_and]
          rw [has_eq _ _ (by omega), bind_s]
          cases out.contains n.Id
          · simp only [Bool.not_false, cond_true]
            rw [chk_true (by simp; omega)]
          · rfl
      rw [hb]
      cases hc : mhasT n.Id M && !(out.contains n.Id)
      · refine ⟨_, rfl, out, rfl, h1, fun x => ?_, by omega⟩
        rw [h2, htk, List.mem_append, List.mem_singleton]
        constructor
        · rintro ⟨h4, h5⟩
          exact ⟨Or.inl h4, h5⟩
        · rintro ⟨h4 | rfl, h5⟩
          · exact ⟨h4, h5⟩
          · rw [h5, Bool.true_and, Bool.not_eq_false', List.contains_iff_mem] at hc
            exact ⟨((h2 _).1 hc).1, h5⟩
      · rw [Bool.and_eq_true, Bool.not_eq_true', ← Bool.not_eq_true, List.contains_iff_mem] at hc
        refine ⟨_, rfl, out ++ [n.Id], rfl, ?_, fun x => ?_, by rw [List.length_append]; simp; omega⟩
        · rw [List.nodup_append]
          refine ⟨h1, by simp, fun a ha b hb => ?_⟩
          rw [List.mem_singleton] at hb
          subst hb
          rintro rfl
          exact hc.2 ha
        · rw [List.mem_append, List.mem_singleton, h2, htk, List.mem_append, List.mem_singleton]
          constructor
          · rintro (⟨h4, h5⟩ | rfl)
            · exact ⟨Or.inl h4, h5⟩
            · exact ⟨Or.inr rfl, hc.1⟩
          · rintro ⟨h4 | h4, h5⟩
            · exact Or.inl ⟨h4, h5⟩
            · exact Or.inr h4
    · rintro _ ⟨out, rfl, h1, h2, h3⟩
      refine ⟨.inl out, ?_, out, rfl, h1, fun x => by rw [h2, List.take_length], h3⟩
      unfold law07_all_L1
      simp only [Int.lt_irrefl, decide_false, cond_false]
  obtain ⟨ids, h1, h2⟩ := key
  refine ⟨ids, ?_, h2⟩
  unfold law07_all
  rw [h1, seqF_l]
/-- the ids of the nodes of a graph that some nodes have made -/
theorem all_from {M : GM} {l : List api_Node} (hl : l.length ≤ 1000) (h : From l M) : ∃ ids, law07_all ⟨M⟩ l = some ids ∧ ids.Nodup ∧ (∀ x, x ∈ ids ↔ mhasT x M = true) ∧ ids.length ≤ l.length ∧ ids.length = M.length := by
  obtain ⟨ids, h1, h2, h3, h4⟩ := all_eq (M := M) hl
  have hm : ∀ x, x ∈ ids ↔ mhasT x M = true := fun x => by
    rw [h3]
    refine ⟨fun h => h.2, fun hx => ⟨?_, hx⟩⟩
    obtain ⟨n, k1, k2, _⟩ := h.src x hx
    exact List.mem_map.2 ⟨n, k1, k2⟩
  refine ⟨ids, h1, h2, hm, h4, ?_⟩
  have a1 := sub_len (a := ids) (b := M.map Prod.fst) h2 fun x hx => (mhas_iff _ _).1 ((hm x).1 hx)
  have a2 := sub_len (a := M.map Prod.fst) (b := ids) h.ok.nd fun x hx => (hm x).2 ((mhas_iff _ _).2 hx)
  rw [List.length_map] at a1 a2
  omega
/- graphs that say the same -/
structure Eqv (M M' : GM) : Prop where
  has : ∀ x, mhasT x M = mhasT x M'
  get : ∀ x, mgetT x M z0 = mgetT x M' z0
theorem Eqv.refl (M : GM) : Eqv M M := ⟨fun _ => rfl, fun _ => rfl⟩
theorem Eqv.symm {M M' : GM} (h : Eqv M M') : Eqv M' M := ⟨fun x => (h.has x).symm, fun x => (h.get x).symm⟩
theorem Eqv.trans {M M' M'' : GM} (h : Eqv M M') (k : Eqv M' M'') : Eqv M M'' := ⟨fun x => (h.has x).trans (k.has x), fun x => (h.get x).trans (k.get x)⟩
theorem Eqv.par {M M' : GM} (h : Eqv M M') (x : Int) : par M x = par M' x := by unfold Go.Proofs.Ytlgadmholjaljaa.par; rw [h.get]
theorem Eqv.lev {M M' : GM} (h : Eqv M M') (x : Int) : lev M x = lev M' x := by unfold Go.Proofs.Ytlgadmholjaljaa.lev; rw [h.get]
theorem Eqv.rch {M M' : GM} (h : Eqv M M') {ids : List Int} {x : Int} (hr : Rch M ids x) : Rch M' ids x := by
  induction hr with
  | base hi hm => exact .base hi (by rw [← h.has]; exact hm)
  | step _ hx ih => exact .step ih (by rw [← h.par]; exact hx)
theorem Eqv.len {M M' : GM} (h : Eqv M M') (h1 : OkG M) (h2 : OkG M') : M.length = M'.length := by
  have a1 := sub_len (a := M.map Prod.fst) (b := M'.map Prod.fst) h1.nd fun x hx => (mhas_iff _ _).1 (by rw [← h.has]; exact (mhas_iff _ _).2 hx)
  have a2 := sub_len (a := M'.map Prod.fst) (b := M.map Prod.fst) h2.nd fun x hx => (mhas_iff _ _).1 (by rw [h.has]; exact (mhas_iff _ _).2 hx)
  rw [List.length_map, List.length_map] at a1 a2
  omega
theorem same_iff {M M' : GM} (h1 : OkG M) (h2 : OkG M') : sameB M M' = true ↔ (∀ x, mhasT x M = mhasT x M') ∧ ∀ x, par M x = par M' x := by
  unfold sameB
  rw [Bool.and_eq_true, List.all_eq_true]
  constructor
  · rintro ⟨hl, ha⟩
    have hl : M.length = M'.length := by simpa using hl
    have hsub : ∀ x, mhasT x M = true → mhasT x M' = true ∧ par M x = par M' x := fun x hx => by
      have := ha _ (mem_of_has (z := z0) x hx)
      rw [Bool.and_eq_true, beq_iff_eq] at this
      exact this
    have hsup : ∀ x, mhasT x M' = true → mhasT x M = true := fun x hx => by
      cases hq : mhasT x M
      · exfalso
        have := sub_len (a := x :: M.map Prod.fst) (b := M'.map Prod.fst) (List.nodup_cons.2 ⟨fun hx' => (by rw [(mhas_iff _ _).2 hx'] at hq; cases hq), h1.nd⟩) fun y hy => by
          rcases List.mem_cons.1 hy with rfl | hy
          · exact (mhas_iff _ _).1 hx
          · exact (mhas_iff _ _).1 (hsub y ((mhas_iff _ _).2 hy)).1
        simp only [List.length_cons, List.length_map] at this
        omega
      · rfl
    have hh : ∀ x, mhasT x M = mhasT x M' := fun x => bool_ext ⟨fun hx => (hsub x hx).1, hsup x⟩
    refine ⟨hh, fun x => ?_⟩
    cases hx : mhasT x M
    · rw [par_no hx, par_no (by rw [← hh]; exact hx)]
    · exact (hsub x hx).2
  · rintro ⟨hh, hp⟩
    have a1 := sub_len (a := M.map Prod.fst) (b := M'.map Prod.fst) h1.nd fun x hx => (mhas_iff _ _).1 (by rw [← hh]; exact (mhas_iff _ _).2 hx)
    have a2 := sub_len (a := M'.map Prod.fst) (b := M.map Prod.fst) h2.nd fun x hx => (mhas_iff _ _).1 (by rw [hh]; exact (mhas_iff _ _).2 hx)
    rw [List.length_map, List.length_map] at a1 a2
    refine ⟨by simp; omega, fun p hp' => ?_⟩
    rw [Bool.and_eq_true, beq_iff_eq, ← hh, ← hp, ← ent_par h1 hp']
    exact ⟨ent_has hp', rfl⟩
theorem Eqv.same {M M' : GM} (h : Eqv M M') (h1 : OkG M) (h2 : OkG M') : sameB M M' = true := (same_iff h1 h2).2 ⟨h.has, h.par⟩
/-- levels follow from the parents -/
theorem eqv_of {M M' : GM} (h1 : OkG M) (h2 : OkG M') (hh : ∀ x, mhasT x M = mhasT x M') (hp : ∀ x, Go.Proofs.Ytlgadmholjaljaa.par M x = Go.Proofs.Ytlgadmholjaljaa.par M' x) : Eqv M M' := by
  have hv : ∀ (n : Nat) (x : Int), x.toNat < n → mhasT x M = true → Go.Proofs.Ytlgadmholjaljaa.lev M x = Go.Proofs.Ytlgadmholjaljaa.lev M' x := by
    intro n
    induction n with
    | zero => intro x hx; omega
    | succ n ih =>
      intro x hx hm
      rw [h1.lv x hm, h2.lv x (by rw [← hh]; exact hm), ← hp x]
      refine lvl_congr fun q hq => ih q ?_ (h1.has x hm q hq)
      obtain ⟨k1, _, _, k4⟩ := okN_facts (h1.ok x hm)
      have := k4 q hq
      have h5 : q < x := this.2
      omega
  refine ⟨hh, fun x => ?_⟩
  cases hx : mhasT x M
  · rw [mget_no x hx, mget_no x (by rw [← hh]; exact hx)]
  · have a1 := hp x
    have a2 := hv (x.toNat + 1) x (by omega) hx
    unfold Go.Proofs.Ytlgadmholjaljaa.par at a1
    unfold Go.Proofs.Ytlgadmholjaljaa.lev at a2
    cases hq : mgetT x M z0
    cases hq' : mgetT x M' z0
    rw [hq, hq'] at a1 a2
    dsimp only at a1 a2
    rw [a1, a2]
theorem Eqv.past {M M' : GM} (h : Eqv M M') (h1 : OkG M) (h2 : OkG M') (s1 : Sm M) (s2 : Sm M') (x : Int) : past M x = past M' x := by
  refine asc_ext (past_asc h1 s1 x) (past_asc h2 s2 x) fun y => ?_
  rw [past_mem h1 s1, past_mem h2 s2, ← h.par]
  exact ⟨h.rch, h.symm.rch⟩
theorem Eqv.down {M M' : GM} (h : Eqv M M') (h1 : OkG M) (h2 : OkG M') (s1 : Sm M) (s2 : Sm M') {ids : List Int} (hi : ids.length ≤ 10000) : down M ids = down M' ids := by
  refine asc_ext (down_asc h1 s1 hi) (down_asc h2 s2 hi) fun y => ?_
  rw [down_mem h1 s1 hi, down_mem h2 s2 hi]
  exact ⟨h.rch, h.symm.rch⟩
theorem Eqv.heads {M M' : GM} (h : Eqv M M') (h1 : OkG M) (h2 : OkG M') : headsP M = headsP M' := by
  refine asc_ext (headsP_asc h1) (headsP_asc h2) fun y => ?_
  rw [headsP_mem h1, headsP_mem h2, h.has]
  constructor
  · rintro ⟨k1, k2⟩
    exact ⟨k1, fun z hz => by rw [← h.par]; exact k2 z (by rw [h.has]; exact hz)⟩
  · rintro ⟨k1, k2⟩
    exact ⟨k1, fun z hz => by rw [h.par]; exact k2 z (by rw [← h.has]; exact hz)⟩
theorem Eqv.sorted {M M' : GM} (h : Eqv M M') (h1 : OkG M) (h2 : OkG M') {ids : List Int} (hi : ids.length ≤ 100000) : sortedP M ids = sortedP M' ids := by
  have e : ltG M = ltG M' := by
    funext a b
    unfold ltG
    rw [h.lev, h.lev]
  refine lasc_ext (M := M) (sortedP_asc h1 hi) ?_ fun y => ?_
  · have := sortedP_asc h2 hi
    unfold LAsc at this ⊢
    rw [e]
    exact this
  · rw [sortedP_mem h1 hi, sortedP_mem h2 hi, h.has]
theorem beq_self_t (l : List Int) : (l == l) = true := by simp
theorem alike_eqv {M M' : GM} (h : Eqv M M') (h1 : OkG M) (h2 : OkG M') (s1 : Sm M) (s2 : Sm M') {ids : List Int} (hi : ids.length ≤ 1000) : law07_alike ⟨M⟩ ⟨M'⟩ ids = some true := by
  have hl := h.len h1 h2
  have a1 : (headsP M).length ≤ 1000000 := by
    have := sub_len (a := headsP M) (b := M.map Prod.fst) ((headsP_asc h1).imp fun h => by omega) fun y hy => (mhas_iff _ _).1 ((headsP_mem h1 y).1 hy).1
    rw [List.length_map] at this
    have := s1.len
    omega
  have a2 : (sortedP M ids).length ≤ 1000000 := by
    have := sub_len (a := sortedP M ids) (b := ids) (lasc_nodup (sortedP_asc h1 (by omega))) fun y hy => ((sortedP_mem h1 (by omega) y).1 hy).1
    omega
  unfold law07_alike
  rw [same_g h1, bind_s, h.same h1 h2]
  simp only [Bool.not_true, cond_false]
  rw [same_g h2, bind_s, h.symm.same h2 h1]
  simp only [Bool.not_true, cond_false]
  rw [len_g, bind_s, len_g, bind_s, hl, bne_self_eq_false, cond_false, heads_g h1 s1, bind_s, heads_g h2 s2, bind_s, h.heads h1 h2, same_eq _ _ (by rw [← h.heads h1 h2]; exact a1), bind_s, beq_self_t]
  simp only [Bool.not_true, cond_false]
  rw [sortedP_eq h1 (by omega), bind_s, sortedP_eq h2 (by omega), bind_s, h.sorted h1 h2 (by omega), same_eq _ _ (by rw [← h.sorted h1 h2 (by omega)]; exact a2), bind_s, beq_self_t]
  simp only [Bool.not_true, cond_false]
  have hb : ∀ i : Nat, i < ids.length → law07_alike_L1 ids ⟨M⟩ ⟨M'⟩ (i : Int) = bif (fun _ => true) i then some (.inl ((i : Int) + 1)) else some (.inr (.inr false)) := fun i hi' => by
    unfold law07_alike_L1
    have c0 : decide ((i : Int) < (ids.length : Int)) = true := decide_eq_true (by omega)
    simp only [c0, cond_true]
    have e1 : levO M (ids.getD i 0) = levO M' (ids.getD i 0) := by unfold levO; rw [h.has, h.lev]
    have hp := par_len h1 (ids.getD i 0)
    have hq := past_len h1 s1 (ids.getD i 0)
    rw [getI_in 0 hi', bind_s, level_g, bind_s, level_g, bind_s, e1, bne_self_eq_false, cond_false, past_g h1 s1, bind_s, past_g h2 s2, bind_s, ← h.past h1 h2 s1 s2, same_eq _ _ (by omega), bind_s, beq_self_t]
    simp only [Bool.not_true, cond_false]
    rw [parents_g h1, bind_s, parents_g h2, bind_s, ← h.par, same_eq _ _ (by omega), bind_s, beq_self_t]
    simp only [Bool.not_true, cond_false]
    rw [wrap64 (by omega) (by omega)]
  have he : law07_alike_L1 ids ⟨M⟩ ⟨M'⟩ (ids.length : Int) = some (.inr (.inl ())) := by
    unfold law07_alike_L1
    simp only [Int.lt_irrefl, decide_false, cond_false]
  rw [loopF_idx ids.length (fun _ => true) false hb he]
  have : ((List.range ids.length).all fun _ => true) = true := by simp
  rw [this]
  rfl
/- the small example -/
def M5 : GM := [(0, ⟨[], 0⟩), (1, ⟨[0], 1⟩), (2, ⟨[0], 1⟩), (3, ⟨[1, 2], 2⟩), (7, ⟨[], 0⟩)]
theorem made5 : addAll [] [⟨0, []⟩, ⟨1, [0]⟩, ⟨2, [0]⟩, ⟨3, [1, 2]⟩, ⟨7, []⟩] = M5 := rfl
theorem ok5 : OkG M5 := by
  rw [← made5]
  exact (From.all (l := [⟨0, []⟩, ⟨1, [0]⟩, ⟨2, [0]⟩, ⟨3, [1, 2]⟩, ⟨7, []⟩]) _ (from_nil _) fun n hn => hn).ok
theorem has5 (x : Int) : mhasT x M5 = true ↔ x = 0 ∨ x = 1 ∨ x = 2 ∨ x = 3 ∨ x = 7 := by
  rw [mhas_iff]
  simp [M5]
theorem sm5 : Sm M5 := by
  refine ⟨by decide, fun x => ?_⟩
  cases hx : mhasT x M5
  · rw [par_no hx]; simp
  · rw [has5] at hx
    rcases hx with rfl | rfl | rfl | rfl | rfl <;> decide
theorem rch5 (ids l : List Int) (h1 : ∀ x ∈ ids, mhasT x M5 = true → x ∈ l) (h2 : ∀ y ∈ l, ∀ x ∈ par M5 y, x ∈ l) {x : Int} (h : Rch M5 ids x) : x ∈ l := by
  induction h with
  | base hi hm => exact h1 _ hi hm
  | step _ hx ih => exact h2 _ ih _ hx
theorem past5 : past M5 3 = [0, 1, 2] := by
  refine asc_ext (past_asc ok5 sm5 3) (by unfold Asc; decide) fun x => ?_
  rw [past_mem ok5 sm5]
  have e : par M5 3 = [1, 2] := rfl
  have b1 : Rch M5 [1, 2] 1 := .base (by simp) rfl
  have b2 : Rch M5 [1, 2] 2 := .base (by simp) rfl
  have b0 : Rch M5 [1, 2] 0 := .step b1 (by show (0 : Int) ∈ [0]; simp)
  rw [e]
  constructor
  · refine rch5 _ _ (fun x hx _ => ?_) fun y hy x hx => ?_
    · simp only [List.mem_cons, List.not_mem_nil, or_false] at hx ⊢
      omega
    · simp only [List.mem_cons, List.not_mem_nil, or_false] at hy
      rcases hy with rfl | rfl | rfl
      · exact absurd hx (by show x ∉ []; simp)
      · have hx : x ∈ [0] := hx
        simp at hx ⊢
        omega
      · have hx : x ∈ [0] := hx
        simp at hx ⊢
        omega
  · intro hx
    simp only [List.mem_cons, List.not_mem_nil, or_false] at hx
    rcases hx with rfl | rfl | rfl
    · exact b0
    · exact b1
    · exact b2
theorem down5 : down M5 [1, 7] = [0, 1, 7] := by
  refine asc_ext (down_asc ok5 sm5 (by decide)) (by unfold Asc; decide) fun x => ?_
  rw [down_mem ok5 sm5 (by decide)]
  have b1 : Rch M5 [1, 7] 1 := .base (by simp) rfl
  have b7 : Rch M5 [1, 7] 7 := .base (by simp) rfl
  have b0 : Rch M5 [1, 7] 0 := .step b1 (by show (0 : Int) ∈ [0]; simp)
  constructor
  · refine rch5 _ _ (fun x hx _ => ?_) fun y hy x hx => ?_
    · simp only [List.mem_cons, List.not_mem_nil, or_false] at hx ⊢
      omega
    · simp only [List.mem_cons, List.not_mem_nil, or_false] at hy
      rcases hy with rfl | rfl | rfl
      · exact absurd hx (by show x ∉ []; simp)
      · have hx : x ∈ [0] := hx
        simp at hx ⊢
        omega
      · exact absurd hx (by show x ∉ []; simp)
  · intro hx
    simp only [List.mem_cons, List.not_mem_nil, or_false] at hx
    rcases hx with rfl | rfl | rfl
    · exact b0
    · exact b1
    · exact b7
theorem heads5 : headsP M5 = [3, 7] := by
  refine asc_ext (headsP_asc ok5) (by unfold Asc; decide) fun x => ?_
  rw [headsP_mem ok5, has5]
  constructor
  · rintro ⟨h1, h2⟩
    rcases h1 with rfl | rfl | rfl | rfl | rfl
    · exact absurd (show (0 : Int) ∈ [0] by simp) (h2 1 rfl)
    · exact absurd (show (1 : Int) ∈ [1, 2] by simp) (h2 3 rfl)
    · exact absurd (show (2 : Int) ∈ [1, 2] by simp) (h2 3 rfl)
    · simp
    · simp
  · intro hx
    simp only [List.mem_cons, List.not_mem_nil, or_false] at hx
    refine ⟨by omega, fun y hy hm => ?_⟩
    rw [has5] at hy
    rcases hy with rfl | rfl | rfl | rfl | rfl
    · exact absurd hm (by show x ∉ []; simp)
    · have hm : x ∈ [0] := hm
      simp at hm
      omega
    · have hm : x ∈ [0] := hm
      simp at hm
      omega
    · have hm : x ∈ [1, 2] := hm
      simp at hm
      omega
    · exact absurd hm (by show x ∉ []; simp)
theorem sorted5 : sortedP M5 [3, 7, 2] = [7, 2, 3] := by
  refine lasc_ext (M := M5) (sortedP_asc ok5 (by decide)) (by unfold LAsc; decide) fun x => ?_
  rw [sortedP_mem ok5 (by decide), has5]
  simp only [List.mem_cons, List.not_mem_nil, or_false]
  omega
theorem small_true : law07_small = some true := by
  unfold law07_small law07_node
  simp only [bind_s]
  rw [made_eq (by decide) (by decide), bind_s, made5, past_g ok5 sm5, bind_s, past5, same_eq _ _ (by decide), bind_s, heads_g ok5 sm5]
  simp only [bind_s]
  rw [heads5, same_eq _ _ (by decide)]
  simp only [bind_s, level_g]
  have l3 : levO M5 3 = 2 := rfl
  have l7 : levO M5 7 = 0 := rfl
  have l5 : levO M5 5 = -1 := rfl
  rw [l3, l7, l5, sortedP_eq ok5 (by decide), sorted5, down_eq ok5 sm5 (by decide), down5]
  simp only [bind_s, beq_self_eq_true, cond_true, seqF_l]
  rw [same_eq _ _ (by decide)]
  simp only [bind_s, beq_self_eq_true, cond_true]
  rw [same_eq _ _ (by decide)]
  simp only [bind_s, beq_self_eq_true, cond_true]
  have c3 : addC M5 ⟨3, [1]⟩ = 5 := rfl
  have m3 : addM M5 ⟨3, [1]⟩ = M5 := rfl
  have c8 : addC M5 ⟨8, [5]⟩ = 14 := rfl
  have m8 : addM M5 ⟨8, [5]⟩ = M5 := rfl
  rw [gadd_eq ok5 _ (by decide), bind_s, c3, m3]
  simp only [beq_self_eq_true, cond_true]
  rw [gadd_eq ok5 _ (by decide), bind_s, c8, m8]
  simp only [beq_self_eq_true, cond_true]
  rfl
end Go.Proofs.Ytlgadmholjaljaa
namespace Go.Proofs.Ytlgadmholjaljaa
open Go.RowKit Go.Sort
theorem chk_i {i n : Nat} (h : i < n) : (decide (0 ≤ (i : Int)) && decide ((i : Int) < ((n : Nat) : Int))) = true := by simp; omega
theorem nn (i : Nat) : decide (0 ≤ (i : Int)) = true := by simp
theorem par_lt {M : GM} (h : OkG M) {x q : Int} (hq : q ∈ par M x) : mhasT x M = true ∧ mhasT q M = true ∧ q < x ∧ lev M q < lev M x := by
  cases hx : mhasT x M
  · rw [par_no hx] at hq; cases hq
  · have h1 : q < x := ((okN_facts (h.ok x hx)).2.2.2 q hq).2
    refine ⟨rfl, h.has x hx q hq, h1, ?_⟩
    have := (foldl_up_ge (f := fun q => lev M q + 1) (par M x) 0).2 q hq
    rw [h.lv x hx]
    unfold lvl
    omega
theorem rch_lt {M : GM} (h : OkG M) {x y : Int} (hr : Rch M (par M x) y) : y < x ∧ lev M y < lev M x := by
  induction hr with
  | base hi _ => exact (par_lt h hi).2.2
  | step _ hq ih =>
    have := (par_lt h hq).2.2
    omega
theorem rch_iff {M : GM} (h : OkG M) (x y : Int) : Rch M (par M x) y ↔ y ∈ par M x ∨ ∃ q ∈ par M x, Rch M (par M q) y := by
  constructor
  · intro hr
    induction hr with
    | base hi _ => exact Or.inl hi
    | step _ hx ih =>
      rename_i a b _
      right
      rcases ih with ih | ⟨q, hq, ih⟩
      · exact ⟨a, ih, .base hx (par_lt h hx).2.1⟩
      · exact ⟨q, hq, .step ih hx⟩
  · rintro (hi | ⟨q, hq, hr⟩)
    · exact .base hi (par_lt h hi).2.1
    · have hb : Rch M (par M x) q := .base hq (par_lt h hq).2.1
      induction hr with
      | base hi _ => exact .step hb hi
      | step _ hx ih => exact .step ih hx
/-- what the law asks: a parent, or before a parent -/
noncomputable def anc (M : GM) (P : List Int) (y : Int) : Bool := P.contains y || P.any fun q => (past M q).contains y
theorem past_anc {M : GM} (h : OkG M) (hs : Sm M) (x y : Int) : (past M x).contains y = anc M (par M x) y := by
  apply bool_ext
  unfold anc
  rw [List.contains_iff_mem, past_mem h hs, rch_iff h, Bool.or_eq_true, List.contains_iff_mem, List.any_eq_true]
  refine or_congr Iff.rfl ⟨fun ⟨q, h1, h2⟩ => ⟨q, h1, ?_⟩, fun ⟨q, h1, h2⟩ => ⟨q, h1, ?_⟩⟩
  · rw [List.contains_iff_mem, past_mem h hs]; exact h2
  · rw [List.contains_iff_mem, past_mem h hs] at h2; exact h2
theorem levO_in {M : GM} {x : Int} (h : mhasT x M = true) : levO M x = lev M x := by unfold levO; rw [h]; rfl
theorem up_same (f : Int → Int) (a b : List Int) (h : ∀ x, x ∈ a ↔ x ∈ b) : a.foldl (fun m q => up m (f q)) 0 = b.foldl (fun m q => up m (f q)) 0 := by
  have h1 := foldl_up_ge (f := f) a 0
  have h2 := foldl_up_ge (f := f) b 0
  have h3 := foldl_up_le (f := f) a 0 h2.1 fun q hq => h2.2 q ((h q).1 hq)
  have h4 := foldl_up_le (f := f) b 0 h1.1 fun q hq => h1.2 q ((h q).2 hq)
  omega
theorem up_filter (f : Int → Int) (c : Int → Bool) : ∀ (l : List Int) (m : Int), l.foldl (fun m q => bif c q then up m (f q) else m) m = (l.filter c).foldl (fun m q => up m (f q)) m
  | [], _ => rfl
  | x :: l, m => by
    rw [List.foldl_cons, up_filter f c l, List.filter_cons]
    cases c x <;> rfl
theorem getD_mem {l : List Int} {i : Nat} (h : i < l.length) : l.getD i 0 ∈ l := by
  rw [List.getD_eq_getElem?_getD, List.getElem?_eq_getElem h]
  exact List.getElem_mem h
theorem any_succ (l : List Int) (p : Int → Bool) {k : Nat} (h : k < l.length) : (l.take (k + 1)).any p = ((l.take k).any p || p (l.getD k 0)) := by
  rw [take_succ_getD _ 0 h, List.any_append]
  simp
end Go.Proofs.Ytlgadmholjaljaa

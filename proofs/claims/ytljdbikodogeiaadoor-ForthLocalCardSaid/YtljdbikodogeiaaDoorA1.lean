/-
  Words: what lex.Word and its reference compute (plain law).
-/
import Derived.Test.YtljdbikodogeiaaDoorG1
import Derived.Test.YtljdbikodogeiaaDoorEvV
namespace Go.Proofs.YtljdbikodogeiaaDoor
open Go.RowKit
def letB (c : Int) : Bool := decide (97 ≤ c) && decide (c ≤ 122)
def digB (c : Int) : Bool := decide (48 ≤ c) && decide (c ≤ 57)
def wchB (c : UInt8) : Bool := letB (c.toNat : Int) || digB (c.toNat : Int)
def wordB (l : List UInt8) : Bool := match l with
  | [] => false
  | c :: r => letB (c.toNat : Int) && decide ((c :: r).length ≤ 20) && (c :: r).all wchB
theorem lex_letter_eq (c : Int) : lex_letter c = some (letB c) := by
  unfold lex_letter letB
  cases decide (97 ≤ c) <;> rfl
theorem lex_digit_eq (c : Int) : lex_digit c = some (digB c) := by
  unfold lex_digit digB
  cases decide (48 ≤ c) <;> rfl
theorem lex_Word_1_eq (c : Int) : lex_Word_1 c = some (letB c || digB c) := by
  unfold lex_Word_1
  rw [lex_letter_eq, bind_some_of rfl]
  cases letB c
  · simp only [cond_false, lex_digit_eq, Option.bind_some, Bool.false_or]
  · rfl
theorem foldL_span (p : UInt8 → Bool) {B : Type} (fin : Int → Option B) (hend : Int → Option B) : ∀ (l : List UInt8) (i : Int), foldL (fun (x : UInt8) (s : Int) => bif p x then some (.inl (s + 1)) else (hend s).map .inr) fin l i = if (l.takeWhile p).length = l.length then fin (i + l.length) else hend (i + (l.takeWhile p).length)
  | [], i => by simp [foldL]
  | x :: l, i => by
    rw [foldL]
    cases hp : p x
    · simp only [cond_false, List.takeWhile_cons, hp, Bool.false_eq_true, if_false, List.length_nil, List.length_cons]
      rw [if_neg (by omega), show i + ((0 : Nat) : Int) = i by omega]
      cases hend i <;> rfl
    · simp only [cond_true, List.takeWhile_cons, hp, if_true, List.length_cons]
      rw [foldL_span p fin hend l (i + 1)]
      have e1 : i + 1 + (l.length : Int) = i + ((l.length + 1 : Nat) : Int) := by omega
      have e2 : i + 1 + ((l.takeWhile p).length : Int) = i + (((l.takeWhile p).length + 1 : Nat) : Int) := by omega
      rw [e1, e2]
      by_cases h : (l.takeWhile p).length = l.length
      · rw [if_pos h, if_pos (by omega)]
      · rw [if_neg h, if_neg (by omega)]
/-- a byte of a string -/
theorem byte_get (s : ByteArray) (i : Nat) (x : UInt8) (h : s.data.toList[i]? = some x) : s.data.toList.getD i 0 = x := by
  rw [List.getD_eq_getElem?_getD, h]
  rfl
theorem size_list (s : ByteArray) : s.size = s.data.toList.length := rfl
theorem lex_span_eq (s : ByteArray) (hs : s.size ≤ maxLen) (is : Int → Option Bool) (p : UInt8 → Bool) (hp : ∀ c : UInt8, is (c.toNat : Int) = some (p c)) : lex_span s is = some ((s.data.toList.takeWhile p).length : Int) := by
  unfold maxLen at hs
  have key := loopF_range (body := lex_span_L1 s is) s.data.toList (fun i => i) (fun x i => bif p x then some (.inl (i + 1)) else some (.inr (.inl i))) (fun i => .inl i) (fun _ => True)
    (fun i x _ h0 hx => by
      have hlt : i.toNat < s.data.toList.length := (List.getElem?_eq_some_iff.1 hx).1
      rw [← size_list] at hlt
      have h1 : i < (s.size : Int) := by omega
      unfold lex_span_L1
      simp only [h1, h0, decide_true, cond_true, Bool.and_self, chkO_true, byte_get s i.toNat x hx]
      rw [bind_some_of (hp x)]
      rw [wrap64 (by omega) (by omega)])
    (fun i _ hi => by
      unfold lex_span_L1
      rw [← size_list] at hi
      simp only [hi, Int.lt_irrefl, decide_false, cond_false])
    (fun x i i' _ h0 h1 hf => by
      cases hpx : p x
      · rw [hpx] at hf; cases hf
      · rw [hpx] at hf
        injection hf with hf
        injection hf with hf
        exact ⟨hf.symm, trivial⟩)
    0 trivial (Int.le_refl _) (Int.natCast_nonneg _)
  unfold lex_span
  rw [key]
  have := foldL_span p (B := Int ⊕ Int) (fun i => some (.inl i)) (fun i => some (.inl i)) s.data.toList 0
  simp only [Option.map_some] at this
  rw [show List.drop (0 : Int).toNat s.data.toList = s.data.toList from rfl, this]
  split
  · rename_i h
    simp [seqF, h]
  · simp [seqF]
theorem all_takeWhile (p : UInt8 → Bool) : ∀ l : List UInt8, ((l.takeWhile p).length = l.length) ↔ l.all p = true
  | [] => by simp
  | x :: l => by
    have ih := all_takeWhile p l
    cases hp : p x
    · simp [hp]
    · simp [hp] at ih ⊢
      exact ih
theorem empty_list : (ByteArray.mk #[]).toList = [] := by rw [ByteArray.toList_eq]
theorem lex_Word_eq (s : ByteArray) (hs : s.size ≤ maxLen) : lex_Word s = some (wordB s.data.toList) := by
  unfold lex_Word
  rw [lex_span_eq s hs lex_Word_1 wchB (fun c => lex_Word_1_eq _), empty_list, ByteArray.toList_eq, size_list]
  cases hl : s.data.toList with
  | nil => rfl
  | cons c r =>
    have h1 : ((c :: r) == ([] : List UInt8)) = false := rfl
    have h2 : (0 : Int) < ((c :: r).length : Int) := by rw [List.length_cons]; omega
    have h3 : (c :: r).getD (0 : Int).toNat 0 = c := rfl
    simp only [h1, cond_false, Int.le_refl, h2, decide_true, Bool.and_self, chkO_true, h3]
    rw [bind_some_of (lex_letter_eq _)]
    cases hb : letB (c.toNat : Int)
    · simp [wordB, hb]
    · by_cases h20 : (20 : Int) < ((c :: r).length : Int)
      · simp only [h20, decide_true, Bool.not_true, cond_false, cond_true]
        have : ¬ (c :: r).length ≤ 20 := by omega
        simp only [wordB, hb, this, decide_false, Bool.and_false, Bool.false_and]
      · simp only [h20, decide_false, Bool.not_true, cond_false]
        have : (c :: r).length ≤ 20 := by omega
        simp only [wordB, hb, this, decide_true, Bool.true_and, Option.bind_some]
        congr 1
        have ha := all_takeWhile wchB (c :: r)
        cases hq : (c :: r).all wchB
        · have : ¬ ((c :: r).takeWhile wchB).length = (c :: r).length := fun h => by
            have := ha.1 h
            rw [hq] at this
            cases this
          simp only [beq_eq_false_iff_ne, ne_eq]
          omega
        · have := ha.2 hq
          rw [this]
          simp
end Go.Proofs.YtljdbikodogeiaaDoor

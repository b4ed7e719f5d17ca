/-
  Words: what lex.Word and its reference compute (plain law).
  Profiles: what syntax.Right computes (plain law).
  Profiles: what profile.Check and its reference compute (plain law).
  Profiles: what profile.Check and its reference compute (plain law).
-/
import Derived.Test.YtljdbikodogeiaaGreatDoorGA
import Derived.Test.YtljdbikodogeiaaGreatDoorEvV
namespace Go.Proofs.YtljdbikodogeiaaGreatDoor
open Go.RowKit
def letB (c : Int) : Bool := decide (97 ≤ c) && decide (c ≤ 122)
def digB (c : Int) : Bool := decide (48 ≤ c) && decide (c ≤ 57)
def wchB (c : UInt8) : Bool := letB (c.toNat : Int) || digB (c.toNat : Int)
def wordB (l : List UInt8) : Bool := match l with
  | [] => false
  | c :: r => letB (c.toNat : Int) && decide ((c :: r).length ≤ 20) && (c :: r).all wchB
theorem lex_letter_eq (c : Int) : lex_letter c = some (letB c) := by
  unfold lex_letter letB
  cases decide (97 ≤ c) <;> rfl
theorem lex_digit_eq (c : Int) : lex_digit c = some (digB c) := by
  unfold lex_digit digB
  cases decide (48 ≤ c) <;> rfl
theorem lex_Word_1_eq (c : Int) : lex_Word_1 c = some (letB c || digB c) := by
  unfold lex_Word_1
  rw [lex_letter_eq, bind_some_of rfl]
  cases letB c
  · simp only [cond_false, lex_digit_eq, Option.bind_some, Bool.false_or]
  · rfl
theorem foldL_span (p : UInt8 → Bool) {B : Type} (fin : Int → Option B) (hend : Int → Option B) : ∀ (l : List UInt8) (i : Int), foldL (fun (x : UInt8) (s : Int) => bif p x then some (.inl (s + 1)) else (hend s).map .inr) fin l i = if (l.takeWhile p).length = l.length then fin (i + l.length) else hend (i + (l.takeWhile p).length)
  | [], i => by simp [foldL]
  | x :: l, i => by
    rw [foldL]
    cases hp : p x
    · simp only [cond_false, List.takeWhile_cons, hp, Bool.false_eq_true, if_false, List.length_nil, List.length_cons]
      rw [if_neg (by omega), show i + ((0 : Nat) : Int) = i by omega]
      cases hend i <;> rfl
    · simp only [cond_true, List.takeWhile_cons, hp, if_true, List.length_cons]
      rw [foldL_span p fin hend l (i + 1)]
      have e1 : i + 1 + (l.length : Int) = i + ((l.length + 1 : Nat) : Int) := by omega
      have e2 : i + 1 + ((l.takeWhile p).length : Int) = i + (((l.takeWhile p).length + 1 : Nat) : Int) := by omega
      rw [e1, e2]
      by_cases h : (l.takeWhile p).length = l.length
      · rw [if_pos h, if_pos (by omega)]
      · rw [if_neg h, if_neg (by omega)]
/-- a byte of a string -/
theorem byte_get (s : ByteArray) (i : Nat) (x : UInt8) (h : s.data.toList[i]? = some x) : s.data.toList.getD i 0 = x := by
  rw [List.getD_eq_getElem?_getD, h]
  rfl
theorem size_list (s : ByteArray) : s.size = s.data.toList.length := rfl
theorem lex_span_eq (s : ByteArray) (hs : s.size ≤ maxLen) (is : Int → Option Bool) (p : UInt8 → Bool) (hp : ∀ c : UInt8, is (c.toNat : Int) = some (p c)) : lex_span s is = some ((s.data.toList.takeWhile p).length : Int) := by
  unfold maxLen at hs
  have key := loopF_range (body := lex_span_L1 s is) s.data.toList (fun i => i) (fun x i => bif p x then some (.inl (i + 1)) else some (.inr (.inl i))) (fun i => .inl i) (fun _ => True)
    (fun i x _ h0 hx => by
      have hlt : i.toNat < s.data.toList.length := (List.getElem?_eq_some_iff.1 hx).1
      rw [← size_list] at hlt
      have h1 : i < (s.size : Int) := by omega
      unfold lex_span_L1
      simp only [h1, h0, decide_true, cond_true, Bool.and_self, chkO_true, byte_get s i.toNat x hx]
      rw [bind_some_of (hp x)]
      rw [wrap64 (by omega) (by omega)])
    (fun i _ hi => by
      unfold lex_span_L1
      rw [← size_list] at hi
      simp only [hi, Int.lt_irrefl, decide_false, cond_false])
    (fun x i i' _ h0 h1 hf => by
      cases hpx : p x
      · rw [hpx] at hf; cases hf
      · rw [hpx] at hf
        injection hf with hf
        injection hf with hf
        exact ⟨hf.symm, trivial⟩)
    0 trivial (Int.le_refl _) (Int.natCast_nonneg _)
  unfold lex_span
  rw [key]
  have := foldL_span p (B := Int ⊕ Int) (fun i => some (.inl i)) (fun i => some (.inl i)) s.data.toList 0
  simp only [Option.map_some] at this
  rw [show List.drop (0 : Int).toNat s.data.toList = s.data.toList from rfl, this]
  split
  · rename_i h
    simp [seqF, h]
  · simp [seqF]
theorem all_takeWhile (p : UInt8 → Bool) : ∀ l : List UInt8, ((l.takeWhile p).length = l.length) ↔ l.all p = true
  | [] => by simp
  | x :: l => by
    have ih := all_takeWhile p l
    cases hp : p x
    · simp [hp]
    · simp [hp] at ih ⊢
      exact ih
theorem empty_list : (ByteArray.mk #[]).toList = [] := by rw [ByteArray.toList_eq]
theorem lex_Word_eq (s : ByteArray) (hs : s.size ≤ maxLen) : lex_Word s = some (wordB s.data.toList) := by
  unfold lex_Word
  rw [lex_span_eq s hs lex_Word_1 wchB (fun c => lex_Word_1_eq _), empty_list, ByteArray.toList_eq, size_list]
  cases hl : s.data.toList with
  | nil => rfl
  | cons c r =>
    have h1 : ((c :: r) == ([] : List UInt8)) = false := rfl
    have h2 : (0 : Int) < ((c :: r).length : Int) := by rw [List.length_cons]; omega
    have h3 : (c :: r).getD (0 : Int).toNat 0 = c := rfl
    simp only [h1, cond_false, Int.le_refl, h2, decide_true, Bool.and_self, chkO_true, h3]
    rw [bind_some_of (lex_letter_eq _)]
    cases hb : letB (c.toNat : Int)
    · simp [wordB, hb]
    · by_cases h20 : (20 : Int) < ((c :: r).length : Int)
      · simp only [h20, decide_true, Bool.not_true, cond_false, cond_true]
        have : ¬ (c :: r).length ≤ 20 := by omega
        simp only [wordB, hb, this, decide_false, Bool.and_false, Bool.false_and]
      · simp only [h20, decide_false, Bool.not_true, cond_false]
        have : (c :: r).length ≤ 20 := by omega
        simp only [wordB, hb, this, decide_true, Bool.true_and, Option.bind_some]
        congr 1
        have ha := all_takeWhile wchB (c :: r)
        cases hq : (c :: r).all wchB
        · have : ¬ ((c :: r).takeWhile wchB).length = (c :: r).length := fun h => by
            have := ha.1 h
            rw [hq] at this
            cases this
          simp only [beq_eq_false_iff_ne, ne_eq]
          omega
        · have := ha.2 hq
          rw [this]
          simp
end Go.Proofs.YtljdbikodogeiaaGreatDoor
namespace Go.Proofs.YtljdbikodogeiaaGreatDoor
open Go.RowKit
def rangeB (lo hi x : Int) : Bool := decide (lo ≤ x) && decide (x ≤ hi)
def numsOf (p : api_Profile) : List Int := [p.Within, p.Size, p.Parts, p.Files, p.Bytes, p.Rate, p.Down, p.Window, p.Keep]
def kindsOf (p : api_Profile) : List Arr2_Int := [(Arr2_Int.mk p.Delete 3), (Arr2_Int.mk p.Thread 3), (Arr2_Int.mk p.Join 3), (Arr2_Int.mk p.History 2), (Arr2_Int.mk p.Remove 2), (Arr2_Int.mk p.Level 5)]
theorem syntax_L1 (p : api_Profile) : loopF (syntax_Right_L1 p) 0 = some (bif (numsOf p).all (rangeB 0 1073741824) then (.inl () : Unit ⊕ Bool) else .inr false) := by
  refine loopF_all (numsOf p) (rangeB 0 1073741824) false (fun i x h0 hlt hx => ?_) ?_
  · have h9 : i < ((9 : Nat) : Int) := hlt
    have hw : IntKind.i64.wrap (i + 1) = i + 1 := wrap64 (by omega) (by omega)
    unfold syntax_Right_L1
    have hl : i < (([p.Within, p.Size, p.Parts, p.Files, p.Bytes, p.Rate, p.Down, p.Window, p.Keep].length : Nat) : Int) := hlt
    have hx' : getI [p.Within, p.Size, p.Parts, p.Files, p.Bytes, p.Rate, p.Down, p.Window, p.Keep] i = some x := by rw [getI_of h0]; exact hx
    simp only [h9, hl, h0, decide_true, cond_true, Bool.and_self, chkO_true, hw]
    rw [bind_some_of hx']
    unfold rangeB
    by_cases h1 : x < 0
    · have : ¬ 0 ≤ x := by omega
      simp [h1, this]
    · have h1' : 0 ≤ x := by omega
      by_cases h2 : 1073741824 < x
      · have : ¬ x ≤ 1073741824 := by omega
        simp [h1, h2, this]
      · have : x ≤ 1073741824 := by omega
        simp [h1, h1', h2, this]
  · unfold syntax_Right_L1
    rfl
theorem syntax_L2 (p : api_Profile) : loopF (syntax_Right_L2 p) 0 = some (bif (kindsOf p).all (fun x => rangeB 0 (x.a1 - 1) x.a0) then (.inl () : Unit ⊕ Bool) else .inr false) := by
  refine loopF_all (kindsOf p) (fun x => rangeB 0 (x.a1 - 1) x.a0) false (fun i x h0 hlt hx => ?_) ?_
  · have h9 : i < ((6 : Nat) : Int) := hlt
    have hw : IntKind.i64.wrap (i + 1) = i + 1 := wrap64 (by omega) (by omega)
    have hx' : getI (kindsOf p) i = some x := by rw [getI_of h0]; exact hx
    unfold syntax_Right_L2
    change _ = _ at hx'
    unfold kindsOf at hx' hlt
    simp only [h9, hlt, h0, decide_true, cond_true, Bool.and_self, chkO_true, hw]
    rw [bind_some_of hx']
    unfold rangeB
    by_cases h1 : x.a0 < 0
    · have : ¬ 0 ≤ x.a0 := by omega
      simp [h1, this]
    · have h1' : 0 ≤ x.a0 := by omega
      by_cases h2 : x.a1 ≤ x.a0
      · have : ¬ x.a0 ≤ x.a1 - 1 := by omega
        simp [h1, h2, this]
      · have : x.a0 ≤ x.a1 - 1 := by omega
        simp [h1, h1', h2, this]
  · unfold syntax_Right_L2
    rfl
theorem contF (l : List ByteArray) (hl : l.length ≤ maxLen) (f : ByteArray → Option Bool) (q : ByteArray → Bool) (hf : ∀ x ∈ l, f x = some (q x)) : slices_ContainsFunc_string_string l f = some (l.any q) := by
  unfold maxLen at hl
  have key := loopF_range (body := slices_IndexFunc_string_string_L1 l f) l (fun i => i) (fun x i => bif q x then some (.inr (.inr i)) else some (.inl (i + 1))) (fun _ => .inl ()) (fun _ => True)
    (fun i x _ h0 hx => by
      have hlt := (List.getElem?_eq_some_iff.1 hx).1
      have h1 : i < (l.length : Int) := by omega
      have hw : IntKind.i64.wrap (i + 1) = i + 1 := wrap64 (by omega) (by omega)
      have hg : getI l i = some x := by rw [getI_of h0]; exact hx
      unfold slices_IndexFunc_string_string_L1
      simp only [h1, decide_true, cond_true, hw]
      rw [bind_some_of hg, bind_some_of (hf x (List.mem_of_getElem? hx))])
    (fun i _ hi => by
      unfold slices_IndexFunc_string_string_L1
      simp only [hi, Int.lt_irrefl, decide_false, cond_false])
    (fun x i i' _ h0 h1 hf => by
      cases hpx : q x
      · rw [hpx] at hf
        injection hf with hf
        injection hf with hf
        exact ⟨hf.symm, trivial⟩
      · rw [hpx] at hf
        injection hf with hf
        cases hf)
    0 trivial (Int.le_refl _) (Int.natCast_nonneg _)
  have fold : ∀ (r : List ByteArray) (i : Int), 0 ≤ i → (foldL (fun (x : ByteArray) (i : Int) => bif q x then some (.inr (.inr i)) else some (Sum.inl (i + 1))) (fun _ => some (.inl ())) r i = some (.inl () : Unit ⊕ Int) ∧ r.any q = false) ∨ ∃ j, 0 ≤ j ∧ foldL (fun (x : ByteArray) (i : Int) => bif q x then some (.inr (.inr i)) else some (Sum.inl (i + 1))) (fun _ => some (.inl ())) r i = some (.inr j : Unit ⊕ Int) ∧ r.any q = true := by
    intro r
    induction r with
    | nil => exact fun i _ => Or.inl ⟨rfl, rfl⟩
    | cons x r ih =>
      intro i hi
      cases hx : q x
      · rcases ih (i + 1) (by omega) with ⟨h1, h2⟩ | ⟨j, h1, h2, h3⟩
        · exact Or.inl ⟨by rw [foldL]; simp only [hx, cond_false]; exact h1, by simp [hx, h2]⟩
        · exact Or.inr ⟨j, h1, by rw [foldL]; simp only [hx, cond_false]; exact h2, by simp [hx, h3]⟩
      · exact Or.inr ⟨i, hi, by rw [foldL]; simp only [hx, cond_true], by simp [hx]⟩
  unfold slices_ContainsFunc_string_string slices_IndexFunc_string_string
  rw [key, show List.drop (0 : Int).toNat l = l from rfl]
  rcases fold l 0 (Int.le_refl _) with ⟨h1, h2⟩ | ⟨j, h1, h2, h3⟩
  · rw [h1, h2]
    rfl
  · rw [h2, h3]
    simp [seqF, h1]
/-- what a right profile is (layer 12) -/
def profB (p : api_Profile) : Bool :=
  (numsOf p).all (rangeB 0 1073741824) && (kindsOf p).all (fun x => rangeB 0 (x.a1 - 1) x.a0) && wordB p.Name.data.toList && (p.Edit == 0 || p.Edit == 2) && !(p.Edit == 0 && decide (0 < p.Within)) &&
    (bif p.Files == 0 then p.Bytes == 0 && (p.Types.length : Int) == 0 else decide ((1 : Int) ≤ (p.Types.length : Int)) && decide ((p.Types.length : Int) ≤ 20) && p.Types.all fun t => wordB t.data.toList)
theorem syntax_Right_eq (p : api_Profile) (hn : p.Name.size ≤ maxLen) (ht : p.Types.length ≤ maxLen) (hts : ∀ t ∈ p.Types, t.size ≤ maxLen) : syntax_Right p = some (profB p) := by
  have hc := contF p.Types ht syntax_Right_1 (fun t => !wordB t.data.toList) (fun t hm => by
    unfold syntax_Right_1
    rw [lex_Word_eq t (hts t hm)]
    rfl)
  unfold syntax_Right profB
  rw [syntax_L1, syntax_L2, lex_Word_eq _ hn, hc]
  have hall : (!(p.Types.any fun t => !wordB t.data.toList)) = p.Types.all fun t => wordB t.data.toList := by
    rw [List.all_eq_not_any_not]
  cases h1 : (numsOf p).all (rangeB 0 1073741824)
  · rfl
  · cases h2 : (kindsOf p).all (fun x => rangeB 0 (x.a1 - 1) x.a0)
    · rfl
    · simp only [cond_true, seqF, Option.bind_some, Bool.true_and]
      cases h3 : wordB p.Name.data.toList
      · rfl
      · have hne : ∀ a b : Int, (a != b) = !(a == b) := fun a b => rfl
        simp only [Bool.not_true, cond_false, hne, Bool.true_and]
        cases h4 : (p.Edit == 0) <;> cases h5 : (p.Edit == 2) <;> cases h6 : decide (0 < p.Within) <;> cases h7 : (p.Files == 0) <;> cases h8 : (p.Bytes == 0) <;> cases h9 : decide ((1 : Int) ≤ (p.Types.length : Int)) <;> cases h10 : decide ((p.Types.length : Int) ≤ 20) <;> simp [hall]
end Go.Proofs.YtljdbikodogeiaaGreatDoor
namespace Go.Proofs.YtljdbikodogeiaaGreatDoor
open Go.RowKit
theorem contS (l : List ByteArray) (hl : l.length ≤ maxLen) (v : ByteArray) : slices_Contains_string_string l v = some (l.any fun y => v.toList == y.toList) := by
  unfold maxLen at hl
  have key := loopF_range (body := slices_Index_string_string_L1 l v) l (fun i => i) (fun x i => bif v.toList == x.toList then some (.inr (.inr i)) else some (.inl (i + 1))) (fun _ => .inl ()) (fun _ => True)
    (fun i x _ h0 hx => by
      have hlt := (List.getElem?_eq_some_iff.1 hx).1
      have h1 : i < (l.length : Int) := by omega
      have hw : IntKind.i64.wrap (i + 1) = i + 1 := wrap64 (by omega) (by omega)
      have hg : getI l i = some x := by rw [getI_of h0]; exact hx
      unfold slices_Index_string_string_L1
      simp only [h1, decide_true, cond_true, hw]
      rw [bind_some_of hg])
    (fun i _ hi => by
      unfold slices_Index_string_string_L1
      simp only [hi, Int.lt_irrefl, decide_false, cond_false])
    (fun x i i' _ h0 h1 hf => by
      cases hpx : (v.toList == x.toList)
      · rw [hpx] at hf
        injection hf with hf
        injection hf with hf
        exact ⟨hf.symm, trivial⟩
      · rw [hpx] at hf
        injection hf with hf
        cases hf)
    0 trivial (Int.le_refl _) (Int.natCast_nonneg _)
  have fold : ∀ (q : ByteArray → Bool) (r : List ByteArray) (i : Int), 0 ≤ i → (foldL (fun (x : ByteArray) (i : Int) => bif q x then some (.inr (.inr i)) else some (Sum.inl (i + 1))) (fun _ => some (.inl ())) r i = some (.inl () : Unit ⊕ Int) ∧ r.any q = false) ∨ ∃ j, 0 ≤ j ∧ foldL (fun (x : ByteArray) (i : Int) => bif q x then some (.inr (.inr i)) else some (Sum.inl (i + 1))) (fun _ => some (.inl ())) r i = some (.inr j : Unit ⊕ Int) ∧ r.any q = true := by
    intro q r
    induction r with
    | nil => exact fun i _ => Or.inl ⟨rfl, rfl⟩
    | cons x r ih =>
      intro i hi
      cases hx : q x
      · rcases ih (i + 1) (by omega) with ⟨h1, h2⟩ | ⟨j, h1, h2, h3⟩
        · exact Or.inl ⟨by rw [foldL]; simp only [hx, cond_false]; exact h1, by simp [hx, h2]⟩
        · exact Or.inr ⟨j, h1, by rw [foldL]; simp only [hx, cond_false]; exact h2, by simp [hx, h3]⟩
      · exact Or.inr ⟨i, hi, by rw [foldL]; simp only [hx, cond_true], by simp [hx]⟩
  unfold slices_Contains_string_string slices_Index_string_string
  rw [key, show List.drop (0 : Int).toNat l = l from rfl]
  rcases fold (fun y => v.toList == y.toList) l 0 (Int.le_refl _) with ⟨h1, h2⟩ | ⟨j, h1, h2, h3⟩
  · rw [h1, h2]
    rfl
  · rw [h2, h3]
    simp [seqF, h1]
end Go.Proofs.YtljdbikodogeiaaGreatDoor
namespace Go.Proofs.YtljdbikodogeiaaGreatDoor
open Go.RowKit
def noB : ByteArray := ByteArray.mk #[]
/-- an item that stands before, too -/
def oneS (l : List ByteArray) (i : Nat) : Bool := !((l.take i).any fun y => (l.getD i noB).toList == y.toList)
def dupS (l : List ByteArray) : Bool := !((List.range l.length).all (oneS l))
theorem profile_L (p : api_Profile) (ht : p.Types.length ≤ maxLen) (body : Int → Option (Int ⊕ (Unit ⊕ Int))) (hbody : body = profile_Check_L1 p ∨ body = profile_Check_L2 p) : loopF body 0 = some (bif (List.range p.Types.length).all (oneS p.Types) then (.inl () : Unit ⊕ Int) else .inr 5) := by
  unfold maxLen at ht
  refine loopF_idx p.Types.length (oneS p.Types) 5 (fun i hi => ?_) ?_
  · have hw : IntKind.i64.wrap ((i : Int) + 1) = (i : Int) + 1 := wrap64 (by omega) (by omega)
    have hlt : ((i : Int) < (p.Types.length : Int)) := by omega
    have hc : cutO (0 : Int) (i : Int) (p.Types.length : Int) = true := by
      simp only [cutO, Bool.and_eq_true, decide_eq_true_eq]
      omega
    have hcon := contS (List.take i p.Types) (by simp only [List.length_take, maxLen]; omega) (p.Types.getD i noB)
    rcases hbody with rfl | rfl
    all_goals
      first | unfold profile_Check_L1 | unfold profile_Check_L2
      simp only [hlt, decide_true, cond_true, hw, hc, chkO_true, Int.toNat_natCast, Int.toNat_zero, List.drop_zero]
      rw [bind_some_of (getI_in noB hi), bind_some_of hcon]
      unfold oneS
      cases (List.take i p.Types).any fun y => (p.Types.getD i noB).toList == y.toList <;> rfl
  · rcases hbody with rfl | rfl
    · unfold profile_Check_L1
      simp only [Int.lt_irrefl, decide_false, cond_false]
    · unfold profile_Check_L2
      simp only [Int.lt_irrefl, decide_false, cond_false]
def rngP (p : api_Profile) : Bool :=
  rangeB 40 4000 p.Size && rangeB 1 20 p.Parts && decide (p.Files ≤ 4) && decide (p.Bytes ≤ 65536) && decide (1 ≤ p.Rate) && (p.Down == 0 || decide (p.Down < p.Window)) && ((p.Files == 0) == (p.Bytes == 0)) && ((p.Files == 0) == ((p.Types.length : Int) == 0))
/-- what the check of a profile says -/
def chk (p : api_Profile) : Int := bif profB p then (bif rngP p then (bif dupS p.Types then 5 else 0) else 3) else 1
structure ProfOk (p : api_Profile) : Prop where
  name : p.Name.size ≤ maxLen
  types : p.Types.length ≤ maxLen
  each : ∀ t ∈ p.Types, t.size ≤ maxLen
theorem not_lt_le (a b : Int) : decide (a < b) = !decide (b ≤ a) := by
  by_cases h : b ≤ a
  · have : ¬ a < b := by omega
    simp [h, this]
  · have : a < b := by omega
    simp [h, this]
theorem profile_Check_eq (p : api_Profile) (h : ProfOk p) : profile_Check p = some (chk p) := by
  unfold profile_Check chk
  rw [syntax_Right_eq p h.name h.types h.each, bind_some_of rfl]
  cases profB p
  · rfl
  · simp only [Bool.not_true, cond_false, cond_true]
    unfold profile_within profile_together rngP rangeB
    rw [profile_L p h.types _ (Or.inl rfl), profile_L p h.types _ (Or.inr rfl)]
    have e : dupS p.Types = !((List.range p.Types.length).all (oneS p.Types)) := rfl
    rw [e]
    generalize (List.range p.Types.length).all (oneS p.Types) = b0
    rw [not_lt_le 4 p.Files, not_lt_le 65536 p.Bytes, not_lt_le p.Rate 1, show decide (p.Window ≤ p.Down) = !decide (p.Down < p.Window) by rw [not_lt_le, Bool.not_not]]
    have hne : ∀ a b : Int, (a != b) = !(a == b) := fun a b => rfl
    simp only [hne]
    generalize decide (40 ≤ p.Size) = b1
    generalize decide (p.Size ≤ 4000) = b2
    generalize decide (1 ≤ p.Parts) = b3
    generalize decide (p.Parts ≤ 20) = b4
    generalize decide (p.Files ≤ 4) = b5
    generalize decide (p.Bytes ≤ 65536) = b6
    generalize decide (1 ≤ p.Rate) = b7
    generalize (p.Down == 0) = b8
    generalize decide (p.Down < p.Window) = b9
    generalize (p.Files == 0) = b10
    generalize (p.Bytes == 0) = b11
    generalize ((p.Types.length : Int) == 0) = b12
    cases b1 <;> cases b2 <;> simp <;> cases b3 <;> cases b4 <;> simp <;> cases b5 <;> cases b6 <;> simp <;> cases b7 <;> simp <;> cases b8 <;> cases b9 <;> simp <;> cases b10 <;> cases b11 <;> cases b12 <;> simp <;> cases b0 <;> rfl
end Go.Proofs.YtljdbikodogeiaaGreatDoor

/-
  Plain programs that the texts behind this one speak of.
  Words: what lex.Word and its reference compute (plain law).
  Profiles: what syntax.Right computes (plain law).
  Profiles: what profile.Check and its reference compute (plain law).
  Profiles: what profile.Check and its reference compute (plain law).
  What a link gives at least (plain law of layer 28).
  Jobs: which lists are valid, and their order (plain law of layer 29).
  Plans: what admit.Plan, Check, Room and their references compute (plain law of layer 29).
  Plans without their order: what stands before a job, and when a plan is made (plain law of layer 29).
  What checks of slack say (plain law of layer 29).
-/
import Derived.Test.YtbijnfgjcbfpmaaGreatUA
import Derived.Test.YtbijnfgjcbfpmaaGreatEvV
namespace Go.Proofs.YtbijnfgjcbfpmaaGreat
open Go.RowKit
noncomputable def supply_Given_L1 (up_ : (List Bool)) (s3 : Int × Int) : Option ((Int × Int) ⊕ ((Int) ⊕ (Int × Int))) :=
  (bif (decide (s3.2 < (up_.length : Int))) then
    (getI up_ s3.2).bind fun x14 =>
    (bif x14 then
      some (.inl ((IntKind.i64.wrap (s3.1 + (1 : Int))), (IntKind.i64.wrap (s3.2 + (1 : Int)))))
    else
      some (.inl (s3.1, (IntKind.i64.wrap (s3.2 + (1 : Int))))))
  else
    some (.inr (.inl s3.1)))
noncomputable def supply_Given (p_ : api_Profile) (up_ : (List Bool)) : Option (Int × Int) :=
  (profile_Check p_).bind fun y2 =>
  (bif (y2 != (0 : Int)) then
    some ((0 : Int), (1 : Int))
  else
    (seqF (A := Int) (
      loopF (supply_Given_L1 up_) ((0 : Int), (0 : Int)))
    fun s2 =>
      (supply_places p_ s2).bind fun y15 =>
      some (y15.1, y15.2)))
noncomputable def supply_Worst_L1 (t_ : Int) (p_ : api_Profile) (s3 : Int × (List Bool)) : Option ((Int × (List Bool)) ⊕ (((List Bool)) ⊕ ((List Bool)))) :=
  (bif (decide (s3.1 < t_)) then
    (bif (p_.Down == (0 : Int)) then
      (chkO (decide (s3.2.length + [true].length ≤ 1000000))).bind fun _ =>
      some (.inl ((IntKind.i64.wrap (s3.1 + (1 : Int))), (s3.2 ++ [true])))
    else
      (chkO (p_.Window != 0)).bind fun _ =>
      (chkO (decide (s3.2.length + [(decide (p_.Down ≤ (Int.tmod s3.1 p_.Window)))].length ≤ 1000000))).bind fun _ =>
      some (.inl ((IntKind.i64.wrap (s3.1 + (1 : Int))), (s3.2 ++ [(decide (p_.Down ≤ (Int.tmod s3.1 p_.Window)))]))))
  else
    some (.inr (.inl s3.2)))
noncomputable def supply_Worst (p_ : api_Profile) (t_ : Int) : Option ((List Bool)) :=
  (profile_Check p_).bind fun y4 =>
  (bif (y4 != (0 : Int)) then
    some ([] : List Bool)
  else
    (bif (decide (t_ < (0 : Int))) then
      some ([] : List Bool)
    else
      (bif (decide ((50000 : Int) < t_)) then
        some ([] : List Bool)
      else
        (seqF (A := (List Bool)) (
          loopF (supply_Worst_L1 t_ p_) ((0 : Int), ([] : List Bool)))
        fun s2 =>
          some s2))))
end Go.Proofs.YtbijnfgjcbfpmaaGreat
namespace Go.Proofs.YtbijnfgjcbfpmaaGreat
open Go.RowKit
def letB (c : Int) : Bool := decide (97 ≤ c) && decide (c ≤ 122)
def digB (c : Int) : Bool := decide (48 ≤ c) && decide (c ≤ 57)
def wchB (c : UInt8) : Bool := letB (c.toNat : Int) || digB (c.toNat : Int)
def wordB (l : List UInt8) : Bool := match l with
  | [] => false
  | c :: r => letB (c.toNat : Int) && decide ((c :: r).length ≤ 20) && (c :: r).all wchB
theorem lex_letter_eq (c : Int) : lex_letter c = some (letB c) := by
  unfold lex_letter letB
  cases decide (97 ≤ c) <;> rfl
theorem ref11_letter_eq (c : Int) : ref11_letter c = some (letB c) := by
  unfold ref11_letter letB
  cases decide (97 ≤ c) <;> rfl
theorem lex_digit_eq (c : Int) : lex_digit c = some (digB c) := by
  unfold lex_digit digB
  cases decide (48 ≤ c) <;> rfl
theorem ref11_digit_eq (c : Int) : ref11_digit c = some (digB c) := by
  unfold ref11_digit digB
  cases decide (48 ≤ c) <;> rfl
theorem lex_Word_1_eq (c : Int) : lex_Word_1 c = some (letB c || digB c) := by
  unfold lex_Word_1
  rw [lex_letter_eq, bind_some_of rfl]
  cases letB c
  · simp only [cond_false, lex_digit_eq, Option.bind_some, Bool.false_or]
  · rfl
theorem foldL_span (p : UInt8 → Bool) {B : Type} (fin : Int → Option B) (hend : Int → Option B) : ∀ (l : List UInt8) (i : Int), foldL (fun (x : UInt8) (s : Int) => bif p x then some (.inl (s + 1)) else (hend s).map .inr) fin l i = if (l.takeWhile p).length = l.length then fin (i + l.length) else hend (i + (l.takeWhile p).length)
  | [], i => by simp [foldL]
  | x :: l, i => by
    rw [foldL]
    cases hp : p x
    · simp only [cond_false, List.takeWhile_cons, hp, Bool.false_eq_true, if_false, List.length_nil, List.length_cons]
      rw [if_neg (by omega), show i + ((0 : Nat) : Int) = i by omega]
      cases hend i <;> rfl
    · simp only [cond_true, List.takeWhile_cons, hp, if_true, List.length_cons]
      rw [foldL_span p fin hend l (i + 1)]
      have e1 : i + 1 + (l.length : Int) = i + ((l.length + 1 : Nat) : Int) := by omega
      have e2 : i + 1 + ((l.takeWhile p).length : Int) = i + (((l.takeWhile p).length + 1 : Nat) : Int) := by omega
      rw [e1, e2]
      by_cases h : (l.takeWhile p).length = l.length
      · rw [if_pos h, if_pos (by omega)]
      · rw [if_neg h, if_neg (by omega)]
/-- a byte of a string -/
theorem byte_get (s : ByteArray) (i : Nat) (x : UInt8) (h : s.data.toList[i]? = some x) : s.data.toList.getD i 0 = x := by
  rw [List.getD_eq_getElem?_getD, h]
  rfl
theorem size_list (s : ByteArray) : s.size = s.data.toList.length := rfl
theorem lex_span_eq (s : ByteArray) (hs : s.size ≤ maxLen) (is : Int → Option Bool) (p : UInt8 → Bool) (hp : ∀ c : UInt8, is (c.toNat : Int) = some (p c)) : lex_span s is = some ((s.data.toList.takeWhile p).length : Int) := by
  unfold maxLen at hs
  have key := loopF_range (body := lex_span_L1 s is) s.data.toList (fun i => i) (fun x i => bif p x then some (.inl (i + 1)) else some (.inr (.inl i))) (fun i => .inl i) (fun _ => True)
    (fun i x _ h0 hx => by
      have hlt : i.toNat < s.data.toList.length := (List.getElem?_eq_some_iff.1 hx).1
      rw [← size_list] at hlt
      have h1 : i < (s.size : Int) := by omega
      unfold lex_span_L1
      simp only [h1, h0, decide_true, cond_true, Bool.and_self, chkO_true, byte_get s i.toNat x hx]
      rw [bind_some_of (hp x)]
      rw [wrap64 (by omega) (by omega)])
    (fun i _ hi => by
      unfold lex_span_L1
      rw [← size_list] at hi
      simp only [hi, Int.lt_irrefl, decide_false, cond_false])
    (fun x i i' _ h0 h1 hf => by
      cases hpx : p x
      · rw [hpx] at hf; cases hf
      · rw [hpx] at hf
        injection hf with hf
        injection hf with hf
        exact ⟨hf.symm, trivial⟩)
    0 trivial (Int.le_refl _) (Int.natCast_nonneg _)
  unfold lex_span
  rw [key]
  have := foldL_span p (B := Int ⊕ Int) (fun i => some (.inl i)) (fun i => some (.inl i)) s.data.toList 0
  simp only [Option.map_some] at this
  rw [show List.drop (0 : Int).toNat s.data.toList = s.data.toList from rfl, this]
  split
  · rename_i h
    simp [seqF, h]
  · simp [seqF]
theorem all_takeWhile (p : UInt8 → Bool) : ∀ l : List UInt8, ((l.takeWhile p).length = l.length) ↔ l.all p = true
  | [] => by simp
  | x :: l => by
    have ih := all_takeWhile p l
    cases hp : p x
    · simp [hp]
    · simp [hp] at ih ⊢
      exact ih
theorem empty_list : (ByteArray.mk #[]).toList = [] := by rw [ByteArray.toList_eq]
theorem lex_Word_eq (s : ByteArray) (hs : s.size ≤ maxLen) : lex_Word s = some (wordB s.data.toList) := by
  unfold lex_Word
  rw [lex_span_eq s hs lex_Word_1 wchB (fun c => lex_Word_1_eq _), empty_list, ByteArray.toList_eq, size_list]
  cases hl : s.data.toList with
  | nil => rfl
  | cons c r =>
    have h1 : ((c :: r) == ([] : List UInt8)) = false := rfl
    have h2 : (0 : Int) < ((c :: r).length : Int) := by rw [List.length_cons]; omega
    have h3 : (c :: r).getD (0 : Int).toNat 0 = c := rfl
    simp only [h1, cond_false, Int.le_refl, h2, decide_true, Bool.and_self, chkO_true, h3]
    rw [bind_some_of (lex_letter_eq _)]
    cases hb : letB (c.toNat : Int)
    · simp [wordB, hb]
    · by_cases h20 : (20 : Int) < ((c :: r).length : Int)
      · simp only [h20, decide_true, Bool.not_true, cond_false, cond_true]
        have : ¬ (c :: r).length ≤ 20 := by omega
        simp only [wordB, hb, this, decide_false, Bool.and_false, Bool.false_and]
      · simp only [h20, decide_false, Bool.not_true, cond_false]
        have : (c :: r).length ≤ 20 := by omega
        simp only [wordB, hb, this, decide_true, Bool.true_and, Option.bind_some]
        congr 1
        have ha := all_takeWhile wchB (c :: r)
        cases hq : (c :: r).all wchB
        · have : ¬ ((c :: r).takeWhile wchB).length = (c :: r).length := fun h => by
            have := ha.1 h
            rw [hq] at this
            cases this
          simp only [beq_eq_false_iff_ne, ne_eq]
          omega
        · have := ha.2 hq
          rw [this]
          simp
theorem ref11_Word_eq (s : ByteArray) (hs : s.size ≤ maxLen) : ref11_Word s = some (wordB s.data.toList) := by
  unfold ref11_Word
  have hs' := hs
  unfold maxLen at hs'
  have key := loopF_range (body := ref11_Word_L1 s) s.data.toList (fun i => i) (fun x i => bif wchB x then some (.inl (i + 1)) else some (.inr (.inr false))) (fun _ => .inl ()) (fun _ => True)
    (fun i x _ h0 hx => by
      have hlt : i.toNat < s.data.toList.length := (List.getElem?_eq_some_iff.1 hx).1
      rw [← size_list] at hlt
      have h1 : i < (s.size : Int) := by omega
      have hw : IntKind.i64.wrap (i + 1) = i + 1 := wrap64 (by omega) (by omega)
      unfold ref11_Word_L1
      simp only [h1, h0, decide_true, cond_true, Bool.and_self, chkO_true, byte_get s i.toNat x hx, hw]
      rw [bind_some_of (ref11_letter_eq _)]
      unfold wchB
      cases letB (x.toNat : Int)
      · simp only [Bool.not_false, cond_true, Bool.false_or]
        rw [bind_some_of (ref11_digit_eq _)]
        cases digB (x.toNat : Int) <;> rfl
      · rfl)
    (fun i _ hi => by
      unfold ref11_Word_L1
      rw [← size_list] at hi
      simp only [hi, Int.lt_irrefl, decide_false, cond_false])
    (fun x i i' _ h0 h1 hf => by
      cases hpx : wchB x
      · rw [hpx] at hf; cases hf
      · rw [hpx] at hf
        injection hf with hf
        injection hf with hf
        exact ⟨hf.symm, trivial⟩)
  have fold : ∀ (l : List UInt8) (i : Int), foldL (fun (x : UInt8) (i : Int) => bif wchB x then some (Sum.inl (i + 1)) else some (.inr (.inr false))) (fun _ => some (.inl ())) l i = some (bif l.all wchB then (.inl () : Unit ⊕ Bool) else .inr false) := by
    intro l
    induction l with
    | nil => intro i; rfl
    | cons x l ih =>
      intro i
      rw [foldL]
      cases hx : wchB x
      · simp [hx]
      · simp [hx, ih]
  rw [size_list]
  cases hl : s.data.toList with
  | nil => rfl
  | cons c r =>
    rw [hl] at key
    have h2 : (0 : Int) < ((c :: r).length : Int) := by rw [List.length_cons]; omega
    have h1 : ¬ ((c :: r).length : Int) < 1 := by omega
    have h3 : (c :: r).getD (0 : Int).toNat 0 = c := rfl
    simp only [h1, decide_false, cond_false]
    by_cases h20 : (20 : Int) < ((c :: r).length : Int)
    · have : ¬ (c :: r).length ≤ 20 := by omega
      simp only [h20, decide_true, cond_true, wordB, this, decide_false, Bool.and_false, Bool.false_and]
    · have h20' : (c :: r).length ≤ 20 := by omega
      simp only [h20, decide_false, cond_false, Int.le_refl, h2, decide_true, Bool.and_self, chkO_true, h3]
      rw [bind_some_of (ref11_letter_eq _)]
      cases hb : letB (c.toNat : Int)
      · simp [wordB, hb]
      · have k1 := key 1 trivial (by omega) (by omega)
        rw [show List.drop (1 : Int).toNat (c :: r) = r from rfl, fold] at k1
        simp only [Bool.not_true, cond_false]
        rw [k1]
        have hc : wchB c = true := by simp [wchB, hb]
        simp only [wordB, hb, h20', decide_true, Bool.true_and, List.all_cons, hc]
        cases r.all wchB <;> rfl
end Go.Proofs.YtbijnfgjcbfpmaaGreat
namespace Go.Proofs.YtbijnfgjcbfpmaaGreat
open Go.RowKit
def rangeB (lo hi x : Int) : Bool := decide (lo ≤ x) && decide (x ≤ hi)
def numsOf (p : api_Profile) : List Int := [p.Within, p.Size, p.Parts, p.Files, p.Bytes, p.Rate, p.Down, p.Window, p.Keep]
def kindsOf (p : api_Profile) : List Arr2_Int := [(Arr2_Int.mk p.Delete 3), (Arr2_Int.mk p.Thread 3), (Arr2_Int.mk p.Join 3), (Arr2_Int.mk p.History 2), (Arr2_Int.mk p.Remove 2), (Arr2_Int.mk p.Level 5)]
theorem syntax_L1 (p : api_Profile) : loopF (syntax_Right_L1 p) 0 = some (bif (numsOf p).all (rangeB 0 1073741824) then (.inl () : Unit ⊕ Bool) else .inr false) := by
  refine loopF_all (numsOf p) (rangeB 0 1073741824) false (fun i x h0 hlt hx => ?_) ?_
  · have h9 : i < ((9 : Nat) : Int) := hlt
    have hw : IntKind.i64.wrap (i + 1) = i + 1 := wrap64 (by omega) (by omega)
    unfold syntax_Right_L1
    have hl : i < (([p.Within, p.Size, p.Parts, p.Files, p.Bytes, p.Rate, p.Down, p.Window, p.Keep].length : Nat) : Int) := hlt
    have hx' : getI [p.Within, p.Size, p.Parts, p.Files, p.Bytes, p.Rate, p.Down, p.Window, p.Keep] i = some x := by rw [getI_of h0]; exact hx
    simp only [h9, hl, h0, decide_true, cond_true, Bool.and_self, chkO_true, hw]
    rw [bind_some_of hx']
    unfold rangeB
    by_cases h1 : x < 0
    · have : ¬ 0 ≤ x := by omega
      simp [h1, this]
    · have h1' : 0 ≤ x := by omega
      by_cases h2 : 1073741824 < x
      · have : ¬ x ≤ 1073741824 := by omega
        simp [h1, h2, this]
      · have : x ≤ 1073741824 := by omega
        simp [h1, h1', h2, this]
  · unfold syntax_Right_L1
    rfl
theorem syntax_L2 (p : api_Profile) : loopF (syntax_Right_L2 p) 0 = some (bif (kindsOf p).all (fun x => rangeB 0 (x.a1 - 1) x.a0) then (.inl () : Unit ⊕ Bool) else .inr false) := by
  refine loopF_all (kindsOf p) (fun x => rangeB 0 (x.a1 - 1) x.a0) false (fun i x h0 hlt hx => ?_) ?_
  · have h9 : i < ((6 : Nat) : Int) := hlt
    have hw : IntKind.i64.wrap (i + 1) = i + 1 := wrap64 (by omega) (by omega)
    have hx' : getI (kindsOf p) i = some x := by rw [getI_of h0]; exact hx
    unfold syntax_Right_L2
    change _ = _ at hx'
    unfold kindsOf at hx' hlt
    simp only [h9, hlt, h0, decide_true, cond_true, Bool.and_self, chkO_true, hw]
    rw [bind_some_of hx']
    unfold rangeB
    by_cases h1 : x.a0 < 0
    · have : ¬ 0 ≤ x.a0 := by omega
      simp [h1, this]
    · have h1' : 0 ≤ x.a0 := by omega
      by_cases h2 : x.a1 ≤ x.a0
      · have : ¬ x.a0 ≤ x.a1 - 1 := by omega
        simp [h1, h2, this]
      · have : x.a0 ≤ x.a1 - 1 := by omega
        simp [h1, h1', h2, this]
  · unfold syntax_Right_L2
    rfl
theorem contF (l : List ByteArray) (hl : l.length ≤ maxLen) (f : ByteArray → Option Bool) (q : ByteArray → Bool) (hf : ∀ x ∈ l, f x = some (q x)) : slices_ContainsFunc_string_string l f = some (l.any q) := by
  unfold maxLen at hl
  have key := loopF_range (body := slices_IndexFunc_string_string_L1 l f) l (fun i => i) (fun x i => bif q x then some (.inr (.inr i)) else some (.inl (i + 1))) (fun _ => .inl ()) (fun _ => True)
    (fun i x _ h0 hx => by
      have hlt := (List.getElem?_eq_some_iff.1 hx).1
      have h1 : i < (l.length : Int) := by omega
      have hw : IntKind.i64.wrap (i + 1) = i + 1 := wrap64 (by omega) (by omega)
      have hg : getI l i = some x := by rw [getI_of h0]; exact hx
      unfold slices_IndexFunc_string_string_L1
      simp only [h1, decide_true, cond_true, hw]
      rw [bind_some_of hg, bind_some_of (hf x (List.mem_of_getElem? hx))])
    (fun i _ hi => by
      unfold slices_IndexFunc_string_string_L1
      simp only [hi, Int.lt_irrefl, decide_false, cond_false])
    (fun x i i' _ h0 h1 hf => by
      cases hpx : q x
      · rw [hpx] at hf
        injection hf with hf
        injection hf with hf
        exact ⟨hf.symm, trivial⟩
      · rw [hpx] at hf
        injection hf with hf
        cases hf)
    0 trivial (Int.le_refl _) (Int.natCast_nonneg _)
  have fold : ∀ (r : List ByteArray) (i : Int), 0 ≤ i → (foldL (fun (x : ByteArray) (i : Int) => bif q x then some (.inr (.inr i)) else some (Sum.inl (i + 1))) (fun _ => some (.inl ())) r i = some (.inl () : Unit ⊕ Int) ∧ r.any q = false) ∨ ∃ j, 0 ≤ j ∧ foldL (fun (x : ByteArray) (i : Int) => bif q x then some (.inr (.inr i)) else some (Sum.inl (i + 1))) (fun _ => some (.inl ())) r i = some (.inr j : Unit ⊕ Int) ∧ r.any q = true := by
    intro r
    induction r with
    | nil => exact fun i _ => Or.inl ⟨rfl, rfl⟩
    | cons x r ih =>
      intro i hi
      cases hx : q x
      · rcases ih (i + 1) (by omega) with ⟨h1, h2⟩ | ⟨j, h1, h2, h3⟩
        · exact Or.inl ⟨by rw [foldL]; simp only [hx, cond_false]; exact h1, by simp [hx, h2]⟩
        · exact Or.inr ⟨j, h1, by rw [foldL]; simp only [hx, cond_false]; exact h2, by simp [hx, h3]⟩
      · exact Or.inr ⟨i, hi, by rw [foldL]; simp only [hx, cond_true], by simp [hx]⟩
  unfold slices_ContainsFunc_string_string slices_IndexFunc_string_string
  rw [key, show List.drop (0 : Int).toNat l = l from rfl]
  rcases fold l 0 (Int.le_refl _) with ⟨h1, h2⟩ | ⟨j, h1, h2, h3⟩
  · rw [h1, h2]
    rfl
  · rw [h2, h3]
    simp [seqF, h1]
/-- what a right profile is (layer 12) -/
def profB (p : api_Profile) : Bool :=
  (numsOf p).all (rangeB 0 1073741824) && (kindsOf p).all (fun x => rangeB 0 (x.a1 - 1) x.a0) && wordB p.Name.data.toList && (p.Edit == 0 || p.Edit == 2) && !(p.Edit == 0 && decide (0 < p.Within)) &&
    (bif p.Files == 0 then p.Bytes == 0 && (p.Types.length : Int) == 0 else decide ((1 : Int) ≤ (p.Types.length : Int)) && decide ((p.Types.length : Int) ≤ 20) && p.Types.all fun t => wordB t.data.toList)
theorem syntax_Right_eq (p : api_Profile) (hn : p.Name.size ≤ maxLen) (ht : p.Types.length ≤ maxLen) (hts : ∀ t ∈ p.Types, t.size ≤ maxLen) : syntax_Right p = some (profB p) := by
  have hc := contF p.Types ht syntax_Right_1 (fun t => !wordB t.data.toList) (fun t hm => by
    unfold syntax_Right_1
    rw [lex_Word_eq t (hts t hm)]
    rfl)
  unfold syntax_Right profB
  rw [syntax_L1, syntax_L2, lex_Word_eq _ hn, hc]
  have hall : (!(p.Types.any fun t => !wordB t.data.toList)) = p.Types.all fun t => wordB t.data.toList := by
    rw [List.all_eq_not_any_not]
  cases h1 : (numsOf p).all (rangeB 0 1073741824)
  · rfl
  · cases h2 : (kindsOf p).all (fun x => rangeB 0 (x.a1 - 1) x.a0)
    · rfl
    · simp only [cond_true, seqF, Option.bind_some, Bool.true_and]
      cases h3 : wordB p.Name.data.toList
      · rfl
      · have hne : ∀ a b : Int, (a != b) = !(a == b) := fun a b => rfl
        simp only [Bool.not_true, cond_false, hne, Bool.true_and]
        cases h4 : (p.Edit == 0) <;> cases h5 : (p.Edit == 2) <;> cases h6 : decide (0 < p.Within) <;> cases h7 : (p.Files == 0) <;> cases h8 : (p.Bytes == 0) <;> cases h9 : decide ((1 : Int) ≤ (p.Types.length : Int)) <;> cases h10 : decide ((p.Types.length : Int) ≤ 20) <;> simp [hall]
theorem ref12_within_eq (n a b : Int) : ref12_within n a b = some (rangeB a b n) := by
  unfold ref12_within rangeB
  cases decide (a ≤ n) <;> rfl
theorem ref12_L1 (p : api_Profile) (ht : p.Types.length ≤ maxLen) (hts : ∀ t ∈ p.Types, t.size ≤ maxLen) : loopF (ref12_Right_L1 p) 0 = some (bif p.Types.all (fun t => wordB t.data.toList) then (.inl () : Unit ⊕ Bool) else .inr false) := by
  unfold maxLen at ht
  refine loopF_all p.Types (fun t => wordB t.data.toList) false (fun i x h0 hlt hx => ?_) ?_
  · have hw : IntKind.i64.wrap (i + 1) = i + 1 := wrap64 (by omega) (by omega)
    have hg : getI p.Types i = some x := by rw [getI_of h0]; exact hx
    unfold ref12_Right_L1
    simp only [hlt, decide_true, cond_true, hw]
    rw [bind_some_of hg, bind_some_of (ref11_Word_eq x (hts x (List.mem_of_getElem? hx)))]
    cases wordB x.data.toList <;> rfl
  · unfold ref12_Right_L1
    simp only [Int.lt_irrefl, decide_false, cond_false]
theorem ref12_Right_eq (p : api_Profile) (hn : p.Name.size ≤ maxLen) (ht : p.Types.length ≤ maxLen) (hts : ∀ t ∈ p.Types, t.size ≤ maxLen) : ref12_Right p = some (profB p) := by
  unfold ref12_Right profB
  rw [ref12_L1 p ht hts, ref11_Word_eq _ hn]
  simp only [ref12_within_eq, Option.bind_some]
  have e1 : (numsOf p).all (rangeB 0 1073741824) = (rangeB 0 1073741824 p.Within && (rangeB 0 1073741824 p.Size && (rangeB 0 1073741824 p.Parts && (rangeB 0 1073741824 p.Files && (rangeB 0 1073741824 p.Bytes && (rangeB 0 1073741824 p.Rate && (rangeB 0 1073741824 p.Down && (rangeB 0 1073741824 p.Window && rangeB 0 1073741824 p.Keep)))))))) := by
    simp [numsOf, List.all_cons]
  have e2 : ((kindsOf p).all fun x => rangeB 0 (x.a1 - 1) x.a0) = (rangeB 0 2 p.Delete && (rangeB 0 2 p.Thread && (rangeB 0 2 p.Join && (rangeB 0 1 p.History && (rangeB 0 1 p.Remove && rangeB 0 4 p.Level))))) := by
    simp [kindsOf, List.all_cons]
  rw [e1, e2]
  have hwp : rangeB 0 1073741824 p.Within = true → (!decide (0 < p.Within)) = (p.Within == 0) := by
    intro h
    unfold rangeB at h
    simp only [Bool.and_eq_true, decide_eq_true_eq] at h
    by_cases h0 : 0 < p.Within
    · have : ¬ p.Within = 0 := by omega
      simp [h0, this]
    · have : p.Within = 0 := by omega
      simp [this]
  have bi : ∀ (a b : Bool), (bif a then (some (.inl b) : Option (Bool ⊕ Bool)) else some (.inl false)) = some (.inl (a && b)) := by
    intro a b
    cases a <;> rfl
  simp only [bi]
  generalize hK : (rangeB 0 2 p.Delete && (rangeB 0 2 p.Thread && (rangeB 0 2 p.Join && (rangeB 0 1 p.History && (rangeB 0 1 p.Remove && rangeB 0 4 p.Level))))) = K
  generalize hM : (rangeB 0 1073741824 p.Size && (rangeB 0 1073741824 p.Parts && (rangeB 0 1073741824 p.Files && (rangeB 0 1073741824 p.Bytes && (rangeB 0 1073741824 p.Rate && (rangeB 0 1073741824 p.Down && (rangeB 0 1073741824 p.Window && rangeB 0 1073741824 p.Keep))))))) = M
  have hne : ∀ a b : Int, (a != b) = !(a == b) := fun a b => rfl
  have e1 : decide ((p.Types.length : Int) < 1) = !decide ((1 : Int) ≤ (p.Types.length : Int)) := by
    by_cases h : (1 : Int) ≤ (p.Types.length : Int)
    · have : ¬ (p.Types.length : Int) < 1 := by omega
      simp [h, this]
    · have : (p.Types.length : Int) < 1 := by omega
      simp [h, this]
  have e2 : decide ((20 : Int) < (p.Types.length : Int)) = !decide ((p.Types.length : Int) ≤ 20) := by
    by_cases h : (p.Types.length : Int) ≤ 20
    · have : ¬ (20 : Int) < (p.Types.length : Int) := by omega
      simp [h, this]
    · have : (20 : Int) < (p.Types.length : Int) := by omega
      simp [h, this]
  simp only [hne, e1, e2]
  cases h0 : rangeB 0 1073741824 p.Within
  · cases (p.Edit == 0) <;> cases (p.Edit == 2) <;> cases K <;> rfl
  · have hwp := hwp h0
    rw [← hwp]
    generalize decide (0 < p.Within) = Wt
    generalize (p.Types.all fun t => wordB t.data.toList) = Al
    generalize decide ((1 : Int) ≤ (p.Types.length : Int)) = T1
    generalize decide ((p.Types.length : Int) ≤ 20) = T2
    generalize ((p.Types.length : Int) == 0) = T0
    generalize (p.Files == 0) = F0
    generalize (p.Bytes == 0) = B0
    generalize wordB p.Name.data.toList = Nm
    generalize (p.Edit == 2) = E2
    generalize (p.Edit == 0) = E0
    cases E0 <;> cases E2 <;> cases K <;> cases M <;> cases Nm <;> cases Wt <;> cases F0 <;> cases B0 <;> cases T1 <;> cases T2 <;> cases Al <;> rfl
end Go.Proofs.YtbijnfgjcbfpmaaGreat
namespace Go.Proofs.YtbijnfgjcbfpmaaGreat
open Go.RowKit
theorem contS (l : List ByteArray) (hl : l.length ≤ maxLen) (v : ByteArray) : slices_Contains_string_string l v = some (l.any fun y => v.toList == y.toList) := by
  unfold maxLen at hl
  have key := loopF_range (body := slices_Index_string_string_L1 l v) l (fun i => i) (fun x i => bif v.toList == x.toList then some (.inr (.inr i)) else some (.inl (i + 1))) (fun _ => .inl ()) (fun _ => True)
    (fun i x _ h0 hx => by
      have hlt := (List.getElem?_eq_some_iff.1 hx).1
      have h1 : i < (l.length : Int) := by omega
      have hw : IntKind.i64.wrap (i + 1) = i + 1 := wrap64 (by omega) (by omega)
      have hg : getI l i = some x := by rw [getI_of h0]; exact hx
      unfold slices_Index_string_string_L1
      simp only [h1, decide_true, cond_true, hw]
      rw [bind_some_of hg])
    (fun i _ hi => by
      unfold slices_Index_string_string_L1
      simp only [hi, Int.lt_irrefl, decide_false, cond_false])
    (fun x i i' _ h0 h1 hf => by
      cases hpx : (v.toList == x.toList)
      · rw [hpx] at hf
        injection hf with hf
        injection hf with hf
        exact ⟨hf.symm, trivial⟩
      · rw [hpx] at hf
        injection hf with hf
        cases hf)
    0 trivial (Int.le_refl _) (Int.natCast_nonneg _)
  have fold : ∀ (q : ByteArray → Bool) (r : List ByteArray) (i : Int), 0 ≤ i → (foldL (fun (x : ByteArray) (i : Int) => bif q x then some (.inr (.inr i)) else some (Sum.inl (i + 1))) (fun _ => some (.inl ())) r i = some (.inl () : Unit ⊕ Int) ∧ r.any q = false) ∨ ∃ j, 0 ≤ j ∧ foldL (fun (x : ByteArray) (i : Int) => bif q x then some (.inr (.inr i)) else some (Sum.inl (i + 1))) (fun _ => some (.inl ())) r i = some (.inr j : Unit ⊕ Int) ∧ r.any q = true := by
    intro q r
    induction r with
    | nil => exact fun i _ => Or.inl ⟨rfl, rfl⟩
    | cons x r ih =>
      intro i hi
      cases hx : q x
      · rcases ih (i + 1) (by omega) with ⟨h1, h2⟩ | ⟨j, h1, h2, h3⟩
        · exact Or.inl ⟨by rw [foldL]; simp only [hx, cond_false]; exact h1, by simp [hx, h2]⟩
        · exact Or.inr ⟨j, h1, by rw [foldL]; simp only [hx, cond_false]; exact h2, by simp [hx, h3]⟩
      · exact Or.inr ⟨i, hi, by rw [foldL]; simp only [hx, cond_true], by simp [hx]⟩
  unfold slices_Contains_string_string slices_Index_string_string
  rw [key, show List.drop (0 : Int).toNat l = l from rfl]
  rcases fold (fun y => v.toList == y.toList) l 0 (Int.le_refl _) with ⟨h1, h2⟩ | ⟨j, h1, h2, h3⟩
  · rw [h1, h2]
    rfl
  · rw [h2, h3]
    simp [seqF, h1]
end Go.Proofs.YtbijnfgjcbfpmaaGreat
namespace Go.Proofs.YtbijnfgjcbfpmaaGreat
open Go.RowKit
def noB : ByteArray := ByteArray.mk #[]
/-- an item that stands before, too -/
def oneS (l : List ByteArray) (i : Nat) : Bool := !((l.take i).any fun y => (l.getD i noB).toList == y.toList)
def dupS (l : List ByteArray) : Bool := !((List.range l.length).all (oneS l))
theorem profile_L (p : api_Profile) (ht : p.Types.length ≤ maxLen) (body : Int → Option (Int ⊕ (Unit ⊕ Int))) (hbody : body = profile_Check_L1 p ∨ body = profile_Check_L2 p) : loopF body 0 = some (bif (List.range p.Types.length).all (oneS p.Types) then (.inl () : Unit ⊕ Int) else .inr 5) := by
  unfold maxLen at ht
  refine loopF_idx p.Types.length (oneS p.Types) 5 (fun i hi => ?_) ?_
  · have hw : IntKind.i64.wrap ((i : Int) + 1) = (i : Int) + 1 := wrap64 (by omega) (by omega)
    have hlt : ((i : Int) < (p.Types.length : Int)) := by omega
    have hc : cutO (0 : Int) (i : Int) (p.Types.length : Int) = true := by
      simp only [cutO, Bool.and_eq_true, decide_eq_true_eq]
      omega
    have hcon := contS (List.take i p.Types) (by simp only [List.length_take, maxLen]; omega) (p.Types.getD i noB)
    rcases hbody with rfl | rfl
    all_goals
      first | unfold profile_Check_L1 | unfold profile_Check_L2
      simp only [hlt, decide_true, cond_true, hw, hc, chkO_true, Int.toNat_natCast, Int.toNat_zero, List.drop_zero]
      rw [bind_some_of (getI_in noB hi), bind_some_of hcon]
      unfold oneS
      cases (List.take i p.Types).any fun y => (p.Types.getD i noB).toList == y.toList <;> rfl
  · rcases hbody with rfl | rfl
    · unfold profile_Check_L1
      simp only [Int.lt_irrefl, decide_false, cond_false]
    · unfold profile_Check_L2
      simp only [Int.lt_irrefl, decide_false, cond_false]
theorem ref13_L1 (p : api_Profile) (ht : p.Types.length ≤ maxLen) (i : Nat) (hi : i < p.Types.length) : loopF (ref13_Check_L1 (i : Int) p) 0 = some (bif oneS p.Types i then (.inl () : Unit ⊕ (Int ⊕ (Unit ⊕ Int))) else .inr (.inr (.inr 5))) := by
  unfold maxLen at ht
  have := loopF_idx (body := ref13_Check_L1 (i : Int) p) i (fun k => !((p.Types.getD i noB).toList == (p.Types.getD k noB).toList)) (.inr (.inr 5)) (fun k hk => by
      have hw : IntKind.i64.wrap ((k : Int) + 1) = (k : Int) + 1 := wrap64 (by omega) (by omega)
      have hlt : ((k : Int) < (i : Int)) := by omega
      unfold ref13_Check_L1
      simp only [hlt, decide_true, cond_true, hw]
      rw [bind_some_of (getI_in noB hi), bind_some_of (getI_in noB (show k < p.Types.length by omega))]
      cases ((p.Types.getD i noB).toList == (p.Types.getD k noB).toList) <;> rfl)
    (by
      unfold ref13_Check_L1
      simp only [Int.lt_irrefl, decide_false, cond_false])
  rw [this]
  have e : (List.range i).all (fun k => !((p.Types.getD i noB).toList == (p.Types.getD k noB).toList)) = oneS p.Types i := by
    unfold oneS
    rw [take_range p.Types noB i (by omega), List.any_map, List.all_eq_not_any_not]
    simp only [Bool.not_not]
    rfl
  rw [e]
theorem ref13_L2 (p : api_Profile) (ht : p.Types.length ≤ maxLen) : loopF (ref13_Check_L2 p) 0 = some (bif (List.range p.Types.length).all (oneS p.Types) then (.inl () : Unit ⊕ Int) else .inr 5) := by
  have ht' := ht
  unfold maxLen at ht'
  refine loopF_idx p.Types.length (oneS p.Types) 5 (fun i hi => ?_) ?_
  · have hw : IntKind.i64.wrap ((i : Int) + 1) = (i : Int) + 1 := wrap64 (by omega) (by omega)
    have hlt : ((i : Int) < (p.Types.length : Int)) := by omega
    unfold ref13_Check_L2
    simp only [hlt, decide_true, cond_true, hw]
    rw [ref13_L1 p ht i hi]
    cases oneS p.Types i <;> rfl
  · unfold ref13_Check_L2
    simp only [Int.lt_irrefl, decide_false, cond_false]
def rngP (p : api_Profile) : Bool :=
  rangeB 40 4000 p.Size && rangeB 1 20 p.Parts && decide (p.Files ≤ 4) && decide (p.Bytes ≤ 65536) && decide (1 ≤ p.Rate) && (p.Down == 0 || decide (p.Down < p.Window)) && ((p.Files == 0) == (p.Bytes == 0)) && ((p.Files == 0) == ((p.Types.length : Int) == 0))
/-- what the check of a profile says -/
def chk (p : api_Profile) : Int := bif profB p then (bif rngP p then (bif dupS p.Types then 5 else 0) else 3) else 1
structure ProfOk (p : api_Profile) : Prop where
  name : p.Name.size ≤ maxLen
  types : p.Types.length ≤ maxLen
  each : ∀ t ∈ p.Types, t.size ≤ maxLen
theorem not_lt_le (a b : Int) : decide (a < b) = !decide (b ≤ a) := by
  by_cases h : b ≤ a
  · have : ¬ a < b := by omega
    simp [h, this]
  · have : a < b := by omega
    simp [h, this]
theorem profile_Check_eq (p : api_Profile) (h : ProfOk p) : profile_Check p = some (chk p) := by
  unfold profile_Check chk
  rw [syntax_Right_eq p h.name h.types h.each, bind_some_of rfl]
  cases profB p
  · rfl
  · simp only [Bool.not_true, cond_false, cond_true]
    unfold profile_within profile_together rngP rangeB
    rw [profile_L p h.types _ (Or.inl rfl), profile_L p h.types _ (Or.inr rfl)]
    have e : dupS p.Types = !((List.range p.Types.length).all (oneS p.Types)) := rfl
    rw [e]
    generalize (List.range p.Types.length).all (oneS p.Types) = b0
    rw [not_lt_le 4 p.Files, not_lt_le 65536 p.Bytes, not_lt_le p.Rate 1, show decide (p.Window ≤ p.Down) = !decide (p.Down < p.Window) by rw [not_lt_le, Bool.not_not]]
    have hne : ∀ a b : Int, (a != b) = !(a == b) := fun a b => rfl
    simp only [hne]
    generalize decide (40 ≤ p.Size) = b1
    generalize decide (p.Size ≤ 4000) = b2
    generalize decide (1 ≤ p.Parts) = b3
    generalize decide (p.Parts ≤ 20) = b4
    generalize decide (p.Files ≤ 4) = b5
    generalize decide (p.Bytes ≤ 65536) = b6
    generalize decide (1 ≤ p.Rate) = b7
    generalize (p.Down == 0) = b8
    generalize decide (p.Down < p.Window) = b9
    generalize (p.Files == 0) = b10
    generalize (p.Bytes == 0) = b11
    generalize ((p.Types.length : Int) == 0) = b12
    cases b1 <;> cases b2 <;> simp <;> cases b3 <;> cases b4 <;> simp <;> cases b5 <;> cases b6 <;> simp <;> cases b7 <;> simp <;> cases b8 <;> cases b9 <;> simp <;> cases b10 <;> cases b11 <;> cases b12 <;> simp <;> cases b0 <;> rfl
theorem ref13_Check_eq (p : api_Profile) (h : ProfOk p) : ref13_Check p = some (chk p) := by
  unfold ref13_Check chk
  rw [ref12_Right_eq p h.name h.types h.each, bind_some_of rfl]
  cases profB p
  · rfl
  · simp only [Bool.not_true, cond_false, cond_true]
    unfold rngP rangeB
    rw [ref13_L2 p h.types]
    have e : dupS p.Types = !((List.range p.Types.length).all (oneS p.Types)) := rfl
    rw [e]
    generalize (List.range p.Types.length).all (oneS p.Types) = b0
    rw [not_lt_le p.Size 40, not_lt_le 4000 p.Size, not_lt_le p.Parts 1, not_lt_le 20 p.Parts, not_lt_le 4 p.Files, not_lt_le 65536 p.Bytes, not_lt_le p.Rate 1, show decide (p.Window ≤ p.Down) = !decide (p.Down < p.Window) by rw [not_lt_le, Bool.not_not]]
    have hne : ∀ a b : Int, (a != b) = !(a == b) := fun a b => rfl
    simp only [hne]
    generalize decide (40 ≤ p.Size) = b1
    generalize decide (p.Size ≤ 4000) = b2
    generalize decide (1 ≤ p.Parts) = b3
    generalize decide (p.Parts ≤ 20) = b4
    generalize decide (p.Files ≤ 4) = b5
    generalize decide (p.Bytes ≤ 65536) = b6
    generalize decide (1 ≤ p.Rate) = b7
    generalize (p.Down == 0) = b8
    generalize decide (p.Down < p.Window) = b9
    generalize (p.Files == 0) = b10
    generalize (p.Bytes == 0) = b11
    generalize ((p.Types.length : Int) == 0) = b12
    cases b1 <;> simp <;> cases b2 <;> simp <;> cases b3 <;> simp <;> cases b4 <;> simp <;> cases b5 <;> simp <;> cases b6 <;> simp <;> cases b7 <;> simp [seqF] <;> cases b8 <;> cases b9 <;> simp <;> cases b10 <;> cases b11 <;> cases b12 <;> simp <;> cases b0 <;> rfl
end Go.Proofs.YtbijnfgjcbfpmaaGreat
namespace Go.Proofs.YtbijnfgjcbfpmaaGreat
open Go.RowKit
structure ChkOk (p : api_Profile) : Prop where
  rate : 1 ≤ p.Rate
  rateM : p.Rate ≤ 1073741824
  down : 0 ≤ p.Down
  downM : p.Down ≤ 1073741824
  win : p.Down ≠ 0 → p.Down < p.Window
  winM : p.Window ≤ 1073741824
  winN : 0 ≤ p.Window
theorem chk_ok {p : api_Profile} (h : chk p = 0) : ChkOk p := by
  unfold chk at h
  cases h1 : profB p
  · rw [h1] at h; cases h
  cases h2 : rngP p
  · rw [h1, h2] at h; cases h
  have h3 : (numsOf p).all (rangeB 0 1073741824) = true := by
    unfold profB at h1
    simp only [Bool.and_eq_true] at h1
    exact h1.1.1.1.1.1
  have g : ∀ x ∈ numsOf p, 0 ≤ x ∧ x ≤ 1073741824 := fun x hx => by
    have := List.all_eq_true.1 h3 x hx
    simpa [rangeB] using this
  have a1 := g p.Rate (by simp [numsOf])
  have a2 := g p.Down (by simp [numsOf])
  have a3 := g p.Window (by simp [numsOf])
  unfold rngP at h2
  simp only [Bool.and_eq_true, Bool.or_eq_true, decide_eq_true_eq, beq_iff_eq] at h2
  refine ⟨h2.1.1.1.2, a1.2, a2.1, a2.2, fun hd => ?_, a3.2, a3.1⟩
  rcases h2.1.1.2 with h | h
  · exact absurd h hd
  · exact h
/-- the steps with service that are left of t steps -/
def stepsS (p : api_Profile) (t : Int) : Int := if 0 < p.Down then t - (t / p.Window * p.Down + min (t % p.Window) p.Down) else t
def timesS (p : api_Profile) (s : Int) : Int × Int := bif decide (0 < s) && decide (4503599627370496 / s < p.Rate) then (0, 3) else (p.Rate * s, 0)
def leastS (p : api_Profile) (t : Int) : Int × Int := bif chk p == 0 && decide (0 ≤ t) && decide (t ≤ 1073741824) then timesS p (stepsS p t) else (0, 1)
theorem stepsS_range {p : api_Profile} (h : ChkOk p) {t : Int} (h0 : 0 ≤ t) : 0 ≤ stepsS p t ∧ stepsS p t ≤ t ∧ (0 < p.Down → 0 ≤ t / p.Window * p.Down ∧ t / p.Window * p.Down ≤ t ∧ t / p.Window * p.Down + min (t % p.Window) p.Down ≤ t ∧ 0 ≤ t % p.Window ∧ t % p.Window < p.Window ∧ 0 ≤ t / p.Window ∧ t / p.Window ≤ t) := by
  unfold stepsS
  by_cases hd : 0 < p.Down
  · have hw := h.win (by omega)
    have hwp : 0 < p.Window := by omega
    have q0 : 0 ≤ t / p.Window := Int.ediv_nonneg h0 (by omega)
    have r0 := Int.emod_nonneg t (show p.Window ≠ 0 by omega)
    have r1 := Int.emod_lt_of_pos t hwp
    have e := Int.mul_ediv_add_emod t p.Window
    have m1 : t / p.Window * p.Down ≤ t / p.Window * p.Window := Int.mul_le_mul_of_nonneg_left (by omega) q0
    have m0 : 0 ≤ t / p.Window * p.Down := Int.mul_nonneg q0 (by omega)
    have m2 : t / p.Window ≤ t := Int.ediv_le_self _ h0
    rw [Int.mul_comm p.Window] at e
    have hmin : min (t % p.Window) p.Down ≤ t % p.Window := Int.min_le_left _ _
    have hmin0 : 0 ≤ min (t % p.Window) p.Down := by
      rw [Int.min_def]; split <;> omega
    rw [if_pos hd]
    refine ⟨by omega, by omega, fun _ => ⟨m0, by omega, by omega, r0, r1, q0, m2⟩⟩
  · rw [if_neg hd]
    exact ⟨h0, Int.le_refl _, fun h => absurd h hd⟩
theorem times_eq (p : api_Profile) (h : ChkOk p) {s : Int} (h0 : 0 ≤ s) (h1 : s ≤ 1073741824) : supply_places p s = some (timesS p s) ∧ ref28_times p s = some (timesS p s) := by
  have hq : ∀ s : Int, 0 < s → IntKind.i64.wrap (Int.tdiv 4503599627370496 s) = 4503599627370496 / s := by
    intro s hs
    rw [Int.tdiv_eq_ediv_of_nonneg (by omega)]
    have a := Int.ediv_nonneg (a := 4503599627370496) (b := s) (by omega) (by omega)
    have b := Int.ediv_le_self (a := 4503599627370496) s (by omega)
    exact wrap64 (by omega) (by omega)
  have hm : IntKind.i64.wrap (p.Rate * s) = p.Rate * s := by
    have a : 0 ≤ p.Rate * s := Int.mul_nonneg (by have := h.rate; omega) h0
    have b : p.Rate * s ≤ 1073741824 * 1073741824 := Int.mul_le_mul h.rateM h1 h0 (by omega)
    exact wrap64 (by omega) (by omega)
  unfold supply_places ref28_times timesS
  rw [hm]
  by_cases hs : 0 < s
  · have hne : (s != 0) = true := by simp; omega
    simp only [hs, decide_true, cond_true, hne, chkO_true, hq s hs, Bool.true_and]
    cases decide (4503599627370496 / s < p.Rate) <;> exact ⟨rfl, rfl⟩
  · simp only [hs, decide_false, cond_false, Bool.false_and]
    exact ⟨trivial, trivial⟩
theorem ne_zero (n : Int) : (n != 0) = !(n == 0) := rfl
theorem supply_Least_eq (p : api_Profile) (hp : ProfOk p) (t : Int) : supply_Least p t = some (leastS p t) := by
  unfold supply_Least leastS
  rw [profile_Check_eq p hp, bind_some_of rfl, ne_zero]
  cases hc : chk p == 0
  · rfl
  · have hok := chk_ok (by simpa using hc)
    by_cases h0 : 0 ≤ t
    · by_cases h1 : t ≤ 1073741824
      · obtain ⟨s0, s1, s2⟩ := stepsS_range hok h0
        have n0 : ¬ t < 0 := by omega
        have n1 : ¬ (1073741824 < t) := by omega
        simp only [Bool.not_true, cond_false, n0, n1, decide_false, h0, h1, decide_true, Bool.and_self, cond_true]
        have ht := (times_eq p hok s0 (by omega)).1
        by_cases hd : 0 < p.Down
        · obtain ⟨m0, m1, m2, r0, r1, q0, q1⟩ := s2 hd
          have hwn : (p.Window != 0) = true := by simp; omega
          have e1 : IntKind.i64.wrap (Int.tdiv t p.Window) = t / p.Window := by
            rw [Int.tdiv_eq_ediv_of_nonneg h0]
            exact wrap64 (by omega) (by omega)
          have e2 : Int.tmod t p.Window = t % p.Window := Int.tmod_eq_emod_of_nonneg h0
          have e3 : (if p.Down < t % p.Window then p.Down else t % p.Window) = min (t % p.Window) p.Down := by
            rw [Int.min_def]; split <;> split <;> omega
          have hmin0 : 0 ≤ min (t % p.Window) p.Down := by
            rw [Int.min_def]; split <;> omega
          have hsteps : stepsS p t = t - (t / p.Window * p.Down + min (t % p.Window) p.Down) := by unfold stepsS; rw [if_pos hd]
          simp only [hd, decide_true, cond_true, hwn, chkO_true, e1, e2, e3]
          rw [wrap64 (n := t / p.Window * p.Down) (by omega) (by omega), wrap64 (n := t / p.Window * p.Down + min (t % p.Window) p.Down) (by omega) (by omega), wrap64 (by omega) (by omega), ← hsteps, ht]
          rfl
        · have hsteps : stepsS p t = t := by unfold stepsS; rw [if_neg hd]
          simp only [hd, decide_false, cond_false, Int.sub_zero]
          rw [wrap64 (n := t) (by omega) (by omega)]
          rw [hsteps] at ht ⊢
          rw [ht]
          rfl
      · have n0 : ¬ t < 0 := by omega
        have n1 : (1073741824 < t) := by omega
        simp [h0, h1, n0, n1]
    · have n0 : t < 0 := by omega
      simp [h0, n0]
theorem ref28_Least_eq (p : api_Profile) (hp : ProfOk p) (t : Int) : ref28_Least p t = some (leastS p t) := by
  unfold ref28_Least leastS
  rw [ref13_Check_eq p hp, bind_some_of rfl, ne_zero]
  cases hc : chk p == 0
  · rfl
  · have hok := chk_ok (by simpa using hc)
    by_cases h0 : 0 ≤ t
    · by_cases h1 : t ≤ 1073741824
      · obtain ⟨s0, s1, s2⟩ := stepsS_range hok h0
        have n0 : ¬ t < 0 := by omega
        have n1 : ¬ (1073741824 < t) := by omega
        simp only [Bool.not_true, cond_false, n0, n1, decide_false, h0, h1, decide_true, Bool.and_self, cond_true]
        have ht := (times_eq p hok s0 (by omega)).2
        by_cases hd : 0 < p.Down
        · obtain ⟨m0, m1, m2, r0, r1, q0, q1⟩ := s2 hd
          have hd0 : (p.Down == 0) = false := by simp; omega
          have hwn : (p.Window != 0) = true := by simp; omega
          have hww := hok.win (by omega)
          have e1 : IntKind.i64.wrap (Int.tdiv t p.Window) = t / p.Window := by
            rw [Int.tdiv_eq_ediv_of_nonneg h0]
            exact wrap64 (by omega) (by omega)
          have e2 : Int.tmod t p.Window = t % p.Window := Int.tmod_eq_emod_of_nonneg h0
          have hwM := hok.winM
          have e := Int.mul_ediv_add_emod t p.Window
          rw [Int.mul_comm p.Window] at e
          have e4 : t / p.Window * (p.Window - p.Down) = t / p.Window * p.Window - t / p.Window * p.Down := Int.mul_sub _ _ _
          have hsteps : stepsS p t = t - (t / p.Window * p.Down + min (t % p.Window) p.Down) := by unfold stepsS; rw [if_pos hd]
          have hmax : (if t % p.Window - p.Down < 0 then (0 : Int) else t % p.Window - p.Down) = t % p.Window - min (t % p.Window) p.Down := by
            rw [Int.min_def]; split <;> split <;> omega
          simp only [hd0, cond_false, hwn, chkO_true, e1, e2]
          rw [wrap64 (n := p.Window - p.Down) (by omega) (by omega), wrap64 (n := t % p.Window - p.Down) (by omega) (by omega), hmax, e4,
            wrap64 (n := t / p.Window * p.Window - t / p.Window * p.Down) (by omega) (by omega)]
          have e5 : t / p.Window * p.Window - t / p.Window * p.Down + (t % p.Window - min (t % p.Window) p.Down) = stepsS p t := by rw [hsteps]; omega
          rw [e5, wrap64 (n := stepsS p t) (by omega) (by omega), ht]
          rfl
        · have hd0 : (p.Down == 0) = true := by
            have := hok.down
            simp; omega
          have hsteps : stepsS p t = t := by unfold stepsS; rw [if_neg hd]
          simp only [hd0, cond_true]
          rw [hsteps] at ht ⊢
          rw [ht]
          rfl
      · have n0 : ¬ t < 0 := by omega
        have n1 : (1073741824 < t) := by omega
        simp [h0, h1, n0, n1]
    · have n0 : t < 0 := by omega
      simp [h0, n0]
/-- what a link gives until a step -/
def givesS (p : api_Profile) (now due : Int) : Int := bif decide (due < now) then 0 else bif (leastS p (due - now)).2 == 3 then 4503599627370496 else (leastS p (due - now)).1
theorem gives_eq (p : api_Profile) (hp : ProfOk p) (now due : Int) (h0 : 0 ≤ now) (h1 : now ≤ 1073741824) (h2 : 0 ≤ due) (h3 : due ≤ 1073741824) : admit_gives p now due = some (givesS p now due) ∧ ref29_gives p now due = some (givesS p now due) := by
  unfold admit_gives ref29_gives givesS
  rw [wrap64 (n := due - now) (by omega) (by omega), supply_Least_eq p hp, ref28_Least_eq p hp]
  cases decide (due < now)
  · simp only [cond_false, Option.bind_some]
    cases (leastS p (due - now)).2 == 3 <;> exact ⟨rfl, rfl⟩
  · exact ⟨rfl, rfl⟩
theorem stepsS_succ {p : api_Profile} (h : ChkOk p) {t : Int} (_h0 : 0 ≤ t) : stepsS p t ≤ stepsS p (t + 1) ∧ stepsS p (t + 1) ≤ stepsS p t + 1 := by
  unfold stepsS
  by_cases hd : 0 < p.Down
  · have hw := h.win (by omega)
    have hwp : 0 < p.Window := by omega
    rw [if_pos hd, if_pos hd]
    have r0 := Int.emod_nonneg t (show p.Window ≠ 0 by omega)
    have r1 := Int.emod_lt_of_pos t hwp
    have e := Int.mul_ediv_add_emod t p.Window
    by_cases hl : t % p.Window + 1 < p.Window
    · have e1 : (t + 1) / p.Window = t / p.Window := by
        have : t + 1 = (t % p.Window + 1) + p.Window * (t / p.Window) := by omega
        rw [this, Int.add_mul_ediv_left _ _ (by omega), Int.ediv_eq_zero_of_lt (by omega) hl]
        omega
      have e2 : (t + 1) % p.Window = t % p.Window + 1 := by
        have : t + 1 = (t % p.Window + 1) + p.Window * (t / p.Window) := by omega
        rw [this, Int.add_mul_emod_self_left, Int.emod_eq_of_lt (by omega) hl]
      rw [e1, e2, Int.min_def, Int.min_def]
      split <;> split <;> omega
    · have hl : t % p.Window + 1 = p.Window := by omega
      have e1 : (t + 1) / p.Window = t / p.Window + 1 := by
        have : t + 1 = p.Window * (t / p.Window + 1) := by rw [Int.mul_add, Int.mul_one]; omega
        rw [this, Int.mul_ediv_cancel_left _ (by omega)]
      have e2 : (t + 1) % p.Window = 0 := by
        have : t + 1 = p.Window * (t / p.Window + 1) := by rw [Int.mul_add, Int.mul_one]; omega
        rw [this, Int.mul_emod_right]
      rw [e1, e2, Int.add_mul, Int.one_mul, Int.min_def, Int.min_def]
      split <;> split <;> omega
  · rw [if_neg hd, if_neg hd]
    omega
theorem stepsS_mono {p : api_Profile} (h : ChkOk p) {t : Int} (h0 : 0 ≤ t) : ∀ n : Nat, stepsS p t ≤ stepsS p (t + n)
  | 0 => by simp
  | n + 1 => by
    have := (stepsS_succ h (t := t + n) (by omega)).1
    have ih := stepsS_mono h h0 n
    have e : t + ((n + 1 : Nat) : Int) = t + n + 1 := by omega
    rw [e]
    omega
end Go.Proofs.YtbijnfgjcbfpmaaGreat
namespace Go.Proofs.YtbijnfgjcbfpmaaGreat
open Go.RowKit Go.Shelf Go.Lib Go.Sort
def j0 : api_Job := ⟨0, 0, 0⟩
def okJ (j : api_Job) : Bool := decide (0 ≤ j.Id) && decide (1 ≤ j.Size) && decide (j.Size ≤ 1099511627776) && decide (0 ≤ j.Due) && decide (j.Due ≤ 1073741824)
def oneJ (l : List api_Job) (i : Nat) : Bool := okJ (l.getD i j0) && !((l.take i).any fun y => y.Id == (l.getD i j0).Id)
def validB (l : List api_Job) : Bool := (List.range l.length).all (oneJ l) && decide (l.length ≤ 1000)
theorem len1000 (l : List api_Job) : decide ((l.length : Int) ≤ 1000) = decide (l.length ≤ 1000) := by
  apply bool_ext
  simp only [decide_eq_true_eq]
  omega
theorem ref29_Right_eq (l : List api_Job) (hl : l.length ≤ maxLen) : ref29_Right l = some (validB l) := by
  unfold maxLen at hl
  have inner : ∀ i, i < l.length → loopF (ref29_Right_L1 (i : Int) l (l.getD i j0)) 0 = some (bif !((l.take i).any fun y => y.Id == (l.getD i j0).Id) then (.inl () : Unit ⊕ (Int ⊕ (Unit ⊕ Bool))) else .inr (.inr (.inr false))) := by
    intro i hi
    have := loopF_idx (body := ref29_Right_L1 (i : Int) l (l.getD i j0)) i (fun k => !((l.getD k j0).Id == (l.getD i j0).Id)) (.inr (.inr false)) (fun k hk => by
        have hw : IntKind.i64.wrap ((k : Int) + 1) = (k : Int) + 1 := wrap64 (by omega) (by omega)
        have hlt : ((k : Int) < (i : Int)) := by omega
        unfold ref29_Right_L1
        simp only [hlt, decide_true, cond_true, hw]
        rw [bind_some_of (getI_in j0 (show k < l.length by omega))]
        cases (l.getD k j0).Id == (l.getD i j0).Id <;> rfl)
      (by
        unfold ref29_Right_L1
        simp only [Int.lt_irrefl, decide_false, cond_false])
    rw [this]
    have e : (List.range i).all (fun k => !((l.getD k j0).Id == (l.getD i j0).Id)) = !((l.take i).any fun y => y.Id == (l.getD i j0).Id) := by
      rw [take_range l j0 i (by omega), List.any_map, List.all_eq_not_any_not]
      simp only [Bool.not_not]
      rfl
    rw [e]
  have outer := loopF_idx (body := ref29_Right_L2 l) l.length (oneJ l) false (fun i hi => by
      have hw : IntKind.i64.wrap ((i : Int) + 1) = (i : Int) + 1 := wrap64 (by omega) (by omega)
      have hlt : ((i : Int) < (l.length : Int)) := by omega
      unfold ref29_Right_L2 oneJ okJ
      simp only [hlt, decide_true, cond_true, hw]
      rw [bind_some_of (getI_in j0 hi), inner i hi]
      generalize l.getD i j0 = x
      rw [not_lt_le x.Id 0, not_lt_le x.Size 1, not_lt_le 1099511627776 x.Size, not_lt_le x.Due 0, not_lt_le 1073741824 x.Due]
      generalize (l.take i).any (fun y => y.Id == x.Id) = b0
      cases decide (0 ≤ x.Id) <;> cases decide (1 ≤ x.Size) <;> cases decide (x.Size ≤ 1099511627776) <;> cases decide (0 ≤ x.Due) <;> cases decide (x.Due ≤ 1073741824) <;> cases b0 <;> rfl)
    (by
      unfold ref29_Right_L2
      simp only [Int.lt_irrefl, decide_false, cond_false])
  unfold ref29_Right validB
  rw [outer, len1000]
  cases (List.range l.length).all (oneJ l) <;> rfl
theorem all_false {n : Nat} {q : Nat → Bool} {i : Nat} (hi : i < n) (h : q i = false) : (List.range n).all q = false := by
  rw [Bool.eq_false_iff]
  intro ha
  have := List.all_eq_true.1 ha i (List.mem_range.2 hi)
  rw [h] at this
  cases this
theorem admit_valid_eq (l : List api_Job) (hl : l.length ≤ maxLen) : admit_valid l = some (validB l) := by
  unfold maxLen at hl
  have outer := loopF_inv (body := admit_valid_L1 l) l.length (fun i s => s.1 = (i : Int) ∧ (∀ id, mgetT id s.2 false = (l.take i).any fun y => y.Id == id) ∧ ∀ k, k < i → oneJ l k = true)
    (fun r => r = some (bif (List.range l.length).all (oneJ l) then (.inl () : Unit ⊕ Bool) else .inr false))
    (fun i s hi hJ => by
      obtain ⟨s1, s2⟩ := s
      obtain ⟨h1, h2, h3⟩ := hJ
      dsimp only at h1 h2
      subst h1
      have hw : IntKind.i64.wrap ((i : Int) + 1) = (i : Int) + 1 := wrap64 (by omega) (by omega)
      have hlt : ((i : Int) < (l.length : Int)) := by omega
      have hbody : admit_valid_L1 l ((i : Int), s2) = bif oneJ l i then some (.inl ((i : Int) + 1, mputT (l.getD i j0).Id true s2)) else some (.inr (.inr false)) := by
        unfold admit_valid_L1 oneJ okJ
        simp only [hlt, decide_true, cond_true, hw]
        rw [bind_some_of (getI_in j0 hi), h2]
        generalize l.getD i j0 = x
        rw [not_lt_le x.Id 0, not_lt_le x.Size 1, not_lt_le 1099511627776 x.Size, not_lt_le x.Due 0, not_lt_le 1073741824 x.Due]
        generalize (l.take i).any (fun y => y.Id == x.Id) = b0
        cases decide (0 ≤ x.Id) <;> cases decide (1 ≤ x.Size) <;> cases decide (x.Size ≤ 1099511627776) <;> cases decide (0 ≤ x.Due) <;> cases decide (x.Due ≤ 1073741824) <;> cases b0 <;> rfl
      cases ho : oneJ l i
      · right
        rw [hbody, ho]
        exact ⟨_, rfl, by rw [all_false hi ho]; rfl⟩
      · left
        rw [hbody, ho]
        refine ⟨_, rfl, by dsimp only; omega, fun id => ?_, fun k hk => ?_⟩
        · dsimp only
          rw [mget_mput, h2, take_succ_getD l j0 hi, List.any_append]
          simp only [List.any_cons, List.any_nil, Bool.or_false]
          by_cases hid : id = (l.getD i j0).Id
          · subst hid
            simp
          · have e1 : (id == (l.getD i j0).Id) = false := by simpa using hid
            have e2 : ((l.getD i j0).Id == id) = false := by simp only [beq_eq_false_iff_ne]; exact fun e => hid e.symm
            rw [e1, e2, Bool.or_false]
            rfl
        · by_cases hk' : k < i
          · exact h3 k hk'
          · have : k = i := by omega
            subst this
            exact ho)
    (fun s hJ => by
      obtain ⟨s1, s2⟩ := s
      obtain ⟨h1, h2, h3⟩ := hJ
      dsimp only at h1
      subst h1
      refine ⟨.inl (), ?_, ?_⟩
      · unfold admit_valid_L1
        simp only [Int.lt_irrefl, decide_false, cond_false]
      · have : (List.range l.length).all (oneJ l) = true := List.all_eq_true.2 fun k hk => h3 k (List.mem_range.1 hk)
        rw [this]
        rfl)
    (s0 := (0, [])) ⟨rfl, fun id => rfl, fun k hk => by omega⟩
  unfold admit_valid validB
  rw [outer, len1000]
  cases (List.range l.length).all (oneJ l) <;> rfl
/- the order of jobs -/
def ltJ (a b : api_Job) : Bool := decide (a.Due < b.Due) || (a.Due == b.Due && decide (a.Id < b.Id))
def leJ (a b : api_Job) : Bool := !(ltJ b a)
theorem ltJ_iff {a b : api_Job} : ltJ a b = true ↔ a.Due < b.Due ∨ (a.Due = b.Due ∧ a.Id < b.Id) := by simp [ltJ]
theorem ltJ_not {a b : api_Job} : ltJ a b = false ↔ b.Due < a.Due ∨ (a.Due = b.Due ∧ b.Id ≤ a.Id) := by
  rw [Bool.eq_false_iff, ne_eq, ltJ_iff]
  omega
theorem leJ_iff {a b : api_Job} : leJ a b = true ↔ a.Due < b.Due ∨ (a.Due = b.Due ∧ a.Id ≤ b.Id) := by
  unfold leJ
  rw [Bool.not_eq_true', ltJ_not]
  omega
def insJ (out : List api_Job) (x : api_Job) : List api_Job := out.takeWhile (fun y => ltJ y x) ++ [x] ++ out.dropWhile (fun y => ltJ y x)
def ordR (l : List api_Job) : List api_Job := l.foldl insJ []
theorem insJ_perm (out : List api_Job) (x : api_Job) : (insJ out x).Perm (x :: out) := by
  have h : (out.takeWhile (fun y => ltJ y x) ++ out.dropWhile (fun y => ltJ y x)) = out := List.takeWhile_append_dropWhile
  unfold insJ
  rw [List.append_assoc]
  refine (List.perm_middle).trans ?_
  show (x :: (out.takeWhile (fun y => ltJ y x) ++ out.dropWhile (fun y => ltJ y x))).Perm _
  rw [h]
theorem insJ_len (out : List api_Job) (x : api_Job) : (insJ out x).length = out.length + 1 := by
  have := (insJ_perm out x).length_eq
  simpa using this
theorem foldl_perm (l : List api_Job) : ∀ out, (l.foldl insJ out).Perm (l ++ out) := by
  induction l with
  | nil => exact fun out => .refl _
  | cons x l ih =>
    intro out
    rw [List.foldl_cons]
    refine (ih _).trans ?_
    refine (List.Perm.append_left l (insJ_perm out x)).trans ?_
    exact List.perm_middle
theorem ordR_perm (l : List api_Job) : (ordR l).Perm l := by
  have := foldl_perm l []
  rw [List.append_nil] at this
  exact this
theorem drop_ge (x : api_Job) : ∀ (out : List api_Job), out.Pairwise (fun a b => leJ a b = true) → ∀ y ∈ out.dropWhile (fun y => ltJ y x), leJ x y = true
  | [], _, y, hy => by simp at hy
  | a :: out, hs, y, hy => by
    rw [List.dropWhile_cons] at hy
    rw [List.pairwise_cons] at hs
    cases ha : ltJ a x
    · rw [ha] at hy
      rcases List.mem_cons.1 hy with rfl | hy
      · exact by unfold leJ; rw [ha]; rfl
      · have h1 := hs.1 y hy
        rw [leJ_iff] at h1 ⊢
        rw [ltJ_not] at ha
        omega
    · rw [ha] at hy
      exact drop_ge x out hs.2 y hy
theorem insJ_sorted (out : List api_Job) (x : api_Job) (h : out.Pairwise fun a b => leJ a b = true) : (insJ out x).Pairwise fun a b => leJ a b = true := by
  have hc : (out.takeWhile (fun y => ltJ y x) ++ out.dropWhile (fun y => ltJ y x)) = out := List.takeWhile_append_dropWhile
  rw [← hc, List.pairwise_append] at h
  unfold insJ
  rw [List.append_assoc, List.pairwise_append]
  have ht : ∀ a ∈ out.takeWhile (fun y => ltJ y x), ltJ a x = true := fun a ha => List.all_eq_true.1 List.all_takeWhile a ha
  have hd := drop_ge x out (by rw [← hc, List.pairwise_append]; exact h)
  refine ⟨h.1, ?_, ?_⟩
  · rw [List.singleton_append, List.pairwise_cons]
    exact ⟨hd, h.2.1⟩
  · intro a ha b hb
    rw [List.singleton_append] at hb
    rcases List.mem_cons.1 hb with rfl | hb
    · have := ht a ha
      rw [ltJ_iff] at this
      rw [leJ_iff]
      omega
    · exact h.2.2 a ha b hb
theorem foldl_sorted (l : List api_Job) : ∀ out, out.Pairwise (fun a b => leJ a b = true) → (l.foldl insJ out).Pairwise fun a b => leJ a b = true := by
  induction l with
  | nil => exact fun out h => h
  | cons x l ih => exact fun out h => ih _ (insJ_sorted out x h)
theorem ordR_sorted (l : List api_Job) : (ordR l).Pairwise fun a b => leJ a b = true := foldl_sorted l [] .nil
theorem ordR_len (l : List api_Job) : (ordR l).length = l.length := (ordR_perm l).length_eq
theorem ref29_Order_eq (l : List api_Job) (hl : l.length ≤ 1000) : ref29_Order l = some (ordR l) := by
  have inner : ∀ (out : List api_Job) (i : Nat), i < l.length → out.length = i → loopF (ref29_Order_L1 ((i : Int), out) l) 0 = some (.inl ((out.takeWhile fun y => ltJ y (l.getD i j0)).length : Int)) := by
    intro out i hi ho
    refine loopF_inv (body := ref29_Order_L1 ((i : Int), out) l) (out.takeWhile fun y => ltJ y (l.getD i j0)).length (fun k s => s = (k : Int)) (fun r => r = some (.inl ((out.takeWhile fun y => ltJ y (l.getD i j0)).length : Int))) (fun k s hk hs => ?_) (fun s hs => ?_) rfl
    · left
      subst hs
      obtain ⟨h1, h2⟩ := tw_lt (fun y => ltJ y (l.getD i j0)) j0 out k hk
      have hw : IntKind.i64.wrap ((k : Int) + 1) = (k : Int) + 1 := wrap64 (by omega) (by omega)
      have hlt : ((k : Int) < ((out.length : Nat) : Int)) := by omega
      have h0 : (0 : Int) ≤ (k : Int) := by omega
      refine ⟨(k : Int) + 1, ?_, by omega⟩
      unfold ref29_Order_L1
      simp only [hlt, h0, decide_true, cond_true, Bool.and_self, chkO_true, hw]
      rw [bind_some_of (getI_in j0 h1), bind_some_of (getI_in j0 hi)]
      unfold ltJ at h2
      generalize out.getD k j0 = a at h2 ⊢
      generalize l.getD i j0 = b at h2 ⊢
      cases h3 : decide (a.Due < b.Due)
      · rw [h3] at h2
        simp only [Bool.false_or, Bool.and_eq_true] at h2
        rw [h2.1, h2.2]
        rfl
      · rfl
    · subst hs
      refine ⟨_, ?_, rfl⟩
      unfold ref29_Order_L1
      by_cases hk : (out.takeWhile fun y => ltJ y (l.getD i j0)).length < out.length
      · have h2 := tw_end (fun y => ltJ y (l.getD i j0)) j0 out hk
        generalize hg : (out.takeWhile fun y => ltJ y (l.getD i j0)).length = k at hk h2 ⊢
        have hlt : ((k : Int) < ((out.length : Nat) : Int)) := by omega
        have h0 : (0 : Int) ≤ (k : Int) := by omega
        simp only [hlt, h0, decide_true, cond_true, Bool.and_self, chkO_true]
        rw [bind_some_of (getI_in j0 hk), bind_some_of (getI_in j0 hi)]
        unfold ltJ at h2
        generalize out.getD k j0 = a at h2 ⊢
        generalize l.getD i j0 = b at h2 ⊢
        rw [Bool.or_eq_false_iff] at h2
        rw [h2.1]
        cases h3 : (a.Due == b.Due)
        · rfl
        · rw [h3] at h2
          have := h2.2
          rw [Bool.true_and] at this
          rw [this]
          rfl
      · have hle : (out.takeWhile fun y => ltJ y (l.getD i j0)).length ≤ out.length := by
          have := congrArg List.length (List.takeWhile_append_dropWhile (p := fun y => ltJ y (l.getD i j0)) (l := out))
          rw [List.length_append] at this
          omega
        have e : (out.takeWhile fun y => ltJ y (l.getD i j0)).length = out.length := by omega
        rw [e]
        simp only [Int.lt_irrefl, decide_false, cond_false]
  have outer := loopF_inv (body := ref29_Order_L2 l) l.length (fun i s => s = ((i : Int), (l.take i).foldl insJ [])) (fun r => r = some (.inl (ordR l)))
    (fun i s hi hs => by
      left
      subst hs
      have ho : ((l.take i).foldl insJ []).length = i := by
        have := (foldl_perm (l.take i) []).length_eq
        simp at this
        omega
      have hw : IntKind.i64.wrap ((i : Int) + 1) = (i : Int) + 1 := wrap64 (by omega) (by omega)
      have hlt : ((i : Int) < (l.length : Int)) := by omega
      refine ⟨(((i + 1 : Nat) : Int), (l.take (i + 1)).foldl insJ []), ?_, rfl⟩
      have hin := inner _ i hi ho
      have hnext : (l.take (i + 1)).foldl insJ [] = insJ ((l.take i).foldl insJ []) (l.getD i j0) := by
        rw [take_succ_getD l j0 hi, List.foldl_append]
        rfl
      rw [hnext]
      generalize (l.take i).foldl insJ [] = out at ho hin ⊢
      obtain ⟨t1, t2⟩ := tw_take (fun y => ltJ y (l.getD i j0)) out
      have hle : (out.takeWhile fun y => ltJ y (l.getD i j0)).length ≤ out.length := by
        have := congrArg List.length (List.takeWhile_append_dropWhile (p := fun y => ltJ y (l.getD i j0)) (l := out))
        rw [List.length_append] at this
        omega
      have hins : insJ out (l.getD i j0) = out.take (out.takeWhile fun y => ltJ y (l.getD i j0)).length ++ [l.getD i j0] ++ out.drop (out.takeWhile fun y => ltJ y (l.getD i j0)).length := by
        rw [t1, t2]
        rfl
      rw [hins]
      generalize (out.takeWhile fun y => ltJ y (l.getD i j0)).length = k at hin hle ⊢
      unfold ref29_Order_L2
      simp only [hlt, decide_true, cond_true, hw]
      rw [seqF_inl (a := (out.take k ++ [l.getD i j0]) ++ out.drop k)]
      · have : ((i + 1 : Nat) : Int) = (i : Int) + 1 := by omega
        rw [this]
      · rw [seqF_inl hin]
        have c1 : cutO (0 : Int) (k : Int) ((out.length : Nat) : Int) = true := by
          simp only [cutO, Bool.and_eq_true, decide_eq_true_eq]; omega
        have c2 : cutO (k : Int) ((out.length : Nat) : Int) ((out.length : Nat) : Int) = true := by
          simp only [cutO, Bool.and_eq_true, decide_eq_true_eq]; omega
        have e1 : ((k : Int) - 0).toNat = k := by omega
        have e2 : (((out.length : Nat) : Int) - (k : Int)).toNat = out.length - k := by omega
        have e3 : (out.drop k).take (out.length - k) = out.drop k := List.take_of_length_le (by simp)
        simp only [c1, c2, chkO_true, e1, e2, Int.toNat_zero, List.drop_zero, Int.toNat_natCast, e3, List.nil_append, Nat.zero_add]
        have d1 : decide ((out.take k).length ≤ 1000000) = true := by simp; omega
        have d2 : decide ((out.take k).length + [l.getD i j0].length ≤ 1000000) = true := by simp; omega
        have d3 : decide ((out.take k ++ [l.getD i j0]).length + (out.drop k).length ≤ 1000000) = true := by simp; omega
        simp only [d1, chkO_true]
        rw [bind_some_of (getI_in j0 hi)]
        simp only [d2, d3, chkO_true])
    (fun s hs => by
      subst hs
      refine ⟨.inl (ordR l), ?_, rfl⟩
      unfold ref29_Order_L2
      simp only [Int.lt_irrefl, decide_false, cond_false, List.take_length]
      rfl)
    (s0 := (0, [])) rfl
  unfold ref29_Order
  rw [outer]
  rfl
end Go.Proofs.YtbijnfgjcbfpmaaGreat
namespace Go.Proofs.YtbijnfgjcbfpmaaGreat
open Go.RowKit Go.Shelf Go.Lib Go.Sort
def sumS : List api_Job → Int
  | [] => 0
  | j :: r => j.Size + sumS r
theorem sumS_append : ∀ (a b : List api_Job), sumS (a ++ b) = sumS a + sumS b
  | [], b => by simp [sumS]
  | x :: a, b => by
    simp only [List.cons_append, sumS, sumS_append a b]
    omega
theorem sumS_bound : ∀ (l : List api_Job), (∀ x ∈ l, okJ x = true) → 0 ≤ sumS l ∧ sumS l ≤ l.length * 1099511627776
  | [], _ => by simp [sumS]
  | x :: l, h => by
    have ih := sumS_bound l fun y hy => h y (by simp [hy])
    have hx := h x (by simp)
    simp only [okJ, Bool.and_eq_true, decide_eq_true_eq] at hx
    simp only [sumS, List.length_cons]
    omega
theorem sumS_perm {a b : List api_Job} (h : a.Perm b) : sumS a = sumS b := by
  induction h with
  | nil => rfl
  | cons x _ ih => simp only [sumS, ih]
  | swap x y l => simp only [sumS]; omega
  | trans _ _ ih1 ih2 => exact ih1.trans ih2
/- valid lists -/
theorem valid_ok {l : List api_Job} (h : validB l = true) : (∀ x ∈ l, okJ x = true) ∧ l.length ≤ 1000 ∧ l.Pairwise fun a b => a.Id ≠ b.Id := by
  unfold validB at h
  rw [Bool.and_eq_true] at h
  have h1 : ∀ i, i < l.length → oneJ l i = true := fun i hi => List.all_eq_true.1 h.1 i (List.mem_range.2 hi)
  refine ⟨fun x hx => ?_, by simpa using h.2, ?_⟩
  · obtain ⟨i, hi, rfl⟩ := List.mem_iff_getElem.1 hx
    have := h1 i hi
    unfold oneJ at this
    rw [Bool.and_eq_true, List.getD_eq_getElem?_getD, List.getElem?_eq_getElem hi] at this
    exact this.1
  · rw [List.pairwise_iff_getElem]
    intro i j hi hj hij e
    have := h1 j hj
    unfold oneJ at this
    rw [Bool.and_eq_true, List.getD_eq_getElem?_getD, List.getElem?_eq_getElem hj, Bool.not_eq_true', List.any_eq_false] at this
    have h2 := this.2 l[i] (by
      rw [List.mem_take_iff_getElem]
      exact ⟨i, by omega, rfl⟩)
    apply h2
    simpa using e
theorem valid_of {l : List api_Job} (h1 : ∀ x ∈ l, okJ x = true) (h2 : l.length ≤ 1000) (h3 : l.Pairwise fun a b => a.Id ≠ b.Id) : validB l = true := by
  unfold validB
  rw [Bool.and_eq_true]
  refine ⟨List.all_eq_true.2 fun i hi => ?_, by simpa using h2⟩
  have hi := List.mem_range.1 hi
  unfold oneJ
  rw [Bool.and_eq_true, List.getD_eq_getElem?_getD, List.getElem?_eq_getElem hi, Bool.not_eq_true', List.any_eq_false]
  refine ⟨h1 _ (List.getElem_mem hi), fun y hy => ?_⟩
  rw [List.mem_take_iff_getElem] at hy
  obtain ⟨k, hk, rfl⟩ := hy
  rw [List.pairwise_iff_getElem] at h3
  have := h3 k i (by omega) hi (by omega)
  simpa using this
theorem id_inj {l : List api_Job} (h : l.Pairwise fun a b => a.Id ≠ b.Id) {x y : api_Job} (hx : x ∈ l) (hy : y ∈ l) (e : x.Id = y.Id) : x = y := by
  obtain ⟨i, hi, rfl⟩ := List.mem_iff_getElem.1 hx
  obtain ⟨j, hj, rfl⟩ := List.mem_iff_getElem.1 hy
  rw [List.pairwise_iff_getElem] at h
  rcases Nat.lt_trichotomy i j with hij | hij | hij
  · exact absurd e (h i j hi hj hij)
  · subst hij; rfl
  · exact absurd e.symm (h j i hj hi hij)
/- sorting -/
def cmpJ (a b : api_Job) : Int := if cmpI a.Due b.Due ≠ 0 then cmpI a.Due b.Due else cmpI a.Id b.Id
theorem demands_cmp (a b : api_Job) : admit_demands_1 a b = some (cmpJ a b) := by
  unfold admit_demands_1
  rw [cmp_Compare_eq, cmp_Compare_eq, bind_some_of rfl, bind_some_of rfl, cmp_Or_eq]
  rfl
theorem ltOf_cmp (a b : api_Job) : ltOf cmpJ a b = ltJ a b := by
  apply bool_ext
  rw [ltJ_iff]
  unfold ltOf cmpJ cmpI
  rw [decide_eq_true_eq]
  by_cases h1 : a.Due < b.Due
  · simp [h1]
  · by_cases h2 : b.Due < a.Due
    · simp only [h1, h2, if_true, if_false]
      simp
      omega
    · by_cases h3 : a.Id < b.Id
      · simp only [h1, h2, h3, if_true, if_false]
        simp
        omega
      · by_cases h4 : b.Id < a.Id
        · simp only [h1, h2, h3, h4, if_true, if_false]
          simp
        · simp only [h1, h2, h3, h4, if_false]
          simp
theorem sort_eq {l : List api_Job} (h : validB l = true) : sortF admit_demands_1 l = some (ordR l) := by
  obtain ⟨h1, h2, h3⟩ := valid_ok h
  have hok : SortOk admit_demands_1 l cmpJ := by
    refine ⟨demands_cmp, ⟨fun x => ?_, fun x y z => ?_, fun x y z => ?_⟩, fun x hx y hy e1 e2 => ?_, by omega⟩
    · rw [ltOf_cmp, ltJ_not]; omega
    · rw [ltOf_cmp, ltOf_cmp, ltOf_cmp, ltJ_iff, ltJ_iff, ltJ_iff]; omega
    · rw [ltOf_cmp, ltOf_cmp, ltOf_cmp, ltJ_not, ltJ_not, ltJ_not]; omega
    · rw [ltOf_cmp, ltJ_not] at e1 e2
      exact id_inj h3 hx hy (by omega)
  rw [sortF_eq hok]
  congr 1
  refine List.Perm.eq_of_pairwise (le := fun x y => leJ x y = true) ?_ ?_ (ordR_sorted l) ((List.mergeSort_perm _ _).trans (ordR_perm l).symm)
  · intro a b ha hb e1 e2
    have ha := (List.mergeSort_perm _ _).mem_iff.1 ha
    have hb := (ordR_perm l).mem_iff.1 hb
    rw [leJ_iff] at e1 e2
    exact id_inj h3 ha hb (by omega)
  · have := List.pairwise_mergeSort (le := fun x y => !ltOf cmpJ y x) (fun a b c e1 e2 => by
        simp only [Bool.not_eq_true', ltOf_cmp] at e1 e2 ⊢
        rw [ltJ_not] at e1 e2 ⊢
        omega) (fun a b => by
        simp only [ltOf_cmp]
        cases h : ltJ b a
        · rfl
        · have : ltJ a b = false := by
            rw [ltJ_iff] at h
            rw [ltJ_not]
            omega
          rw [this]
          rfl) l
    exact this.imp fun {a b} h => by
      unfold leJ
      rw [← ltOf_cmp]
      exact h
/- plans -/
theorem gives_range {p : api_Profile} (now due : Int) (h : chk p = 0) (h2 : due - now ≤ 1073741824) : 0 ≤ givesS p now due ∧ givesS p now due ≤ 4503599627370496 := by
  have hok := chk_ok h
  unfold givesS
  by_cases hd : due < now
  · simp [hd]
  · simp only [hd, decide_false, cond_false]
    cases h3 : (leastS p (due - now)).2 == 3
    · simp only [cond_false]
      unfold leastS at h3 ⊢
      have h0 : 0 ≤ due - now := by omega
      simp only [h, h0, h2, decide_true, Bool.and_self, beq_self_eq_true, cond_true] at h3 ⊢
      obtain ⟨s0, s1, _⟩ := stepsS_range hok h0
      unfold timesS at h3 ⊢
      by_cases hs : 0 < stepsS p (due - now)
      · by_cases hr : 4503599627370496 / stepsS p (due - now) < p.Rate
        · simp [hs, hr] at h3
        · simp only [hs, hr, decide_true, decide_false, Bool.and_false, cond_false]
          refine ⟨Int.mul_nonneg (by have := hok.rate; omega) s0, ?_⟩
          have hr : p.Rate ≤ 4503599627370496 / stepsS p (due - now) := by omega
          have := Int.mul_le_mul_of_nonneg_right hr s0
          have h5 := Int.ediv_mul_le 4503599627370496 (b := stepsS p (due - now)) (by omega)
          omega
      · have : stepsS p (due - now) = 0 := by omega
        simp [this]
    · simp
def okA (p : api_Profile) (jobs : List api_Job) (now : Int) : Bool := chk p == 0 && validB jobs && decide (0 ≤ now) && decide (now ≤ 1073741824)
/-- what the first jobs need -/
def need (l : List api_Job) (i : Nat) : Int := sumS (l.take (i + 1))
def give (p : api_Profile) (now : Int) (l : List api_Job) (i : Nat) : Int := givesS p now (l.getD i j0).Due
def demS (p : api_Profile) (now : Int) (l : List api_Job) (i : Nat) : admit_demand := ⟨l.getD i j0, need l i, give p now l i⟩
structure Fine (p : api_Profile) (now : Int) (l : List api_Job) : Prop where
  prof : ProfOk p
  chk0 : chk p = 0
  now0 : 0 ≤ now
  nowM : now ≤ 1073741824
  ok : ∀ x ∈ l, okJ x = true
  len : l.length ≤ 1000
theorem need_succ {l : List api_Job} {i : Nat} (h : i < l.length) : need l i = sumS (l.take i) + (l.getD i j0).Size := by
  unfold need
  rw [take_succ_getD l j0 h, sumS_append]
  simp [sumS]
theorem getD_mem {l : List api_Job} {i : Nat} (h : i < l.length) : l.getD i j0 ∈ l := by
  rw [List.getD_eq_getElem?_getD, List.getElem?_eq_getElem h]
  exact List.getElem_mem h
theorem Fine.at_ {p : api_Profile} {now : Int} {l : List api_Job} (h : Fine p now l) {i : Nat} (hi : i < l.length) :
    0 ≤ sumS (l.take i) ∧ sumS (l.take i) ≤ 1099511627776000 ∧ 0 ≤ need l i ∧ need l i ≤ 1099511627776000 ∧ 0 ≤ give p now l i ∧ give p now l i ≤ 4503599627370496 ∧ okJ (l.getD i j0) = true ∧ admit_gives p now (l.getD i j0).Due = some (give p now l i) ∧ ref29_gives p now (l.getD i j0).Due = some (give p now l i) := by
  have hm := getD_mem hi
  have hj := h.ok _ hm
  have b1 := sumS_bound (l.take i) fun x hx => h.ok x (List.mem_of_mem_take hx)
  have b2 := sumS_bound (l.take (i + 1)) fun x hx => h.ok x (List.mem_of_mem_take hx)
  have hl := h.len
  rw [List.length_take] at b1 b2
  have hj' := hj
  simp only [okJ, Bool.and_eq_true, decide_eq_true_eq] at hj'
  have hg := gives_range (p := p) now (l.getD i j0).Due h.chk0 (by have := h.now0; omega)
  have he := gives_eq p h.prof now (l.getD i j0).Due h.now0 h.nowM (by omega) (by omega)
  refine ⟨b1.1, by omega, b2.1, ?_, hg.1, hg.2, hj, he.1, he.2⟩
  unfold need
  omega
theorem okA_fine {p : api_Profile} (hp : ProfOk p) {jobs : List api_Job} {now : Int} (h : okA p jobs now = true) : Fine p now (ordR jobs) := by
  unfold okA at h
  simp only [Bool.and_eq_true, beq_iff_eq, decide_eq_true_eq] at h
  obtain ⟨⟨⟨h1, h2⟩, h3⟩, h4⟩ := h
  obtain ⟨v1, v2, _⟩ := valid_ok h2
  exact ⟨hp, h1, h3, h4, fun x hx => v1 x ((ordR_perm jobs).mem_iff.1 hx), by rw [ordR_len]; exact v2⟩
theorem demands_loop {p : api_Profile} {now : Int} {l : List api_Job} (h : Fine p now l) (y9 : List api_Job) (hy : y9.length = l.length) : loopF (admit_demands_L1 y9 l p now) (0, 0, []) = some (.inl ((List.range l.length).map (demS p now l))) := by
  refine loopF_inv (body := admit_demands_L1 y9 l p now) l.length (fun i s => s = (sumS (l.take i), (i : Int), (List.range i).map (demS p now l))) (fun r => r = some (.inl ((List.range l.length).map (demS p now l)))) (fun i s hi hs => ?_) (fun s hs => ?_) rfl
  · left
    subst hs
    obtain ⟨b1, b2, b3, b4, b5, b6, b7, b8, b9⟩ := h.at_ hi
    have hl := h.len
    have hw : IntKind.i64.wrap ((i : Int) + 1) = (i : Int) + 1 := wrap64 (by omega) (by omega)
    have hlt : ((i : Int) < ((y9.length : Nat) : Int)) := by omega
    have hlt2 : ((i : Int) < ((l.length : Nat) : Int)) := by omega
    have h0 : (0 : Int) ≤ (i : Int) := by omega
    have hs : IntKind.i64.wrap (sumS (l.take i) + (l.getD i j0).Size) = need l i := by
      rw [← need_succ hi]
      exact wrap64 (by omega) (by omega)
    refine ⟨(need l i, (i : Int) + 1, (List.range i).map (demS p now l) ++ [demS p now l i]), ?_, ?_⟩
    · unfold admit_demands_L1
      simp only [hlt, hlt2, h0, decide_true, cond_true, Bool.and_self, chkO_true, hw]
      rw [bind_some_of (getI_in j0 hi), bind_some_of b8, hs]
      have hc : decide (((List.range i).map (demS p now l)).length + [(admit_demand.mk (l.getD i j0) (need l i) (give p now l i))].length ≤ 1000000) = true := by simp; omega
      rw [hc, chkO_true]
      rfl
    · rw [List.range_succ, List.map_append]
      simp only [Prod.mk.injEq]
      exact ⟨rfl, by omega, rfl⟩
  · subst hs
    refine ⟨_, ?_, rfl⟩
    unfold admit_demands_L1
    simp only [hy, Int.lt_irrefl, decide_false, cond_false]
theorem gt_not (a b : Int) : decide (a < b) = !decide (b ≤ a) := not_lt_le a b
theorem demands_eq (p : api_Profile) (hp : ProfOk p) (jobs : List api_Job) (hj : jobs.length ≤ 1000) (now : Int) :
    admit_demands p jobs now = some (bif okA p jobs now then ((List.range jobs.length).map (demS p now (ordR jobs)), true) else ([], false)) := by
  unfold admit_demands
  rw [profile_Check_eq p hp, bind_some_of rfl, admit_valid_eq jobs (by unfold maxLen; omega), ne_zero, gt_not now 0, gt_not 1073741824 now]
  have hf := fun h => okA_fine hp (jobs := jobs) (now := now) h
  unfold okA at hf ⊢
  cases h1 : chk p == 0
  · rfl
  · cases h2 : validB jobs
    · rfl
    · cases h3 : decide (0 ≤ now)
      · rfl
      · cases h4 : decide (now ≤ 1073741824)
        · rfl
        · rw [h1, h2, h3, h4] at hf
          have hclone : slices_Clone_api_Job_api_Job jobs = some jobs := by
            unfold slices_Clone_api_Job_api_Job
            have : decide (jobs.length ≤ 1000000) = true := by simp; omega
            rw [this]
            rfl
          simp only [Bool.not_true, cond_false, Option.bind_some, Bool.and_self, cond_true]
          rw [hclone, bind_some_of rfl, sort_eq h2, bind_some_of rfl, demands_loop (hf rfl) jobs (ordR_len jobs).symm, ordR_len]
          rfl
theorem valid_eq (p : api_Profile) (hp : ProfOk p) (jobs : List api_Job) (hj : jobs.length ≤ 1000) (now : Int) : ref29_valid p jobs now = some (okA p jobs now) := by
  unfold ref29_valid okA
  rw [ref13_Check_eq p hp, bind_some_of rfl, ref29_Right_eq jobs (by unfold maxLen; omega)]
  cases chk p == 0
  · rfl
  · cases validB jobs
    · rfl
    · cases decide (0 ≤ now) <;> rfl
/-- a job could be late -/
def late (p : api_Profile) (now : Int) (l : List api_Job) (i : Nat) : Bool := decide (give p now l i < need l i)
def slackS (p : api_Profile) (now : Int) (l : List api_Job) (i : Nat) : Int := give p now l i - need l i
def planS (p : api_Profile) (jobs : List api_Job) (now : Int) : List Int × Int × Int :=
  bif okA p jobs now then (match (List.range jobs.length).find? (late p now (ordR jobs)) with
    | some i => ([], ((ordR jobs).getD i j0).Id, 16)
    | none => ((List.range jobs.length).map (slackS p now (ordR jobs)), -1, 0)) else ([], -1, 1)
def planL (p : api_Profile) (now : Int) (l : List api_Job) : List Int ⊕ (List Int × Int × Int) := match (List.range l.length).find? (late p now l) with
  | some i => .inr ([], (l.getD i j0).Id, 16)
  | none => .inl ((List.range l.length).map (slackS p now l))
theorem find_late {n : Nat} {q : Nat → Bool} {i : Nat} (hi : i < n) (h : q i = true) (hk : ∀ k, k < i → q k = false) : (List.range n).find? q = some i := List.find?_range_eq_some.2 ⟨h, List.mem_range.2 hi, fun j hj => by rw [hk j hj]; rfl⟩
theorem find_none {n : Nat} {q : Nat → Bool} (hk : ∀ k, k < n → q k = false) : (List.range n).find? q = none := List.find?_range_eq_none.2 fun j hj => by rw [hk j hj]; rfl
theorem getD_dem (p : api_Profile) (now : Int) (l : List api_Job) {i : Nat} (hi : i < l.length) : getI ((List.range l.length).map (demS p now l)) (i : Int) = some (demS p now l i) := by
  rw [getI_nat, List.getElem?_map, List.getElem?_range hi]
  rfl
theorem Fine.slack {p : api_Profile} {now : Int} {l : List api_Job} (h : Fine p now l) {i : Nat} (hi : i < l.length) : IntKind.i64.wrap (give p now l i - need l i) = slackS p now l i := by
  obtain ⟨b1, b2, b3, b4, b5, b6, b7, b8, b9⟩ := h.at_ hi
  exact wrap64 (by omega) (by omega)
theorem plan_loop {p : api_Profile} {now : Int} {l : List api_Job} (h : Fine p now l) : loopF (admit_Plan_L1 ((List.range l.length).map (demS p now l), true)) (0, []) = some (planL p now l) := by
  refine loopF_inv (body := admit_Plan_L1 ((List.range l.length).map (demS p now l), true)) l.length (fun i s => s = ((i : Int), (List.range i).map (slackS p now l)) ∧ ∀ k, k < i → late p now l k = false) (fun r => r = some (planL p now l)) (fun i s hi hs => ?_) (fun s hs => ?_) ⟨rfl, fun k hk => by omega⟩
  · obtain ⟨rfl, hk⟩ := hs
    have hl := h.len
    have hw : IntKind.i64.wrap ((i : Int) + 1) = (i : Int) + 1 := wrap64 (by omega) (by omega)
    have hlt : ((i : Int) < ((((List.range l.length).map (demS p now l)).length : Nat) : Int)) := by simp; omega
    have h0 : (0 : Int) ≤ (i : Int) := by omega
    have hc : decide (((List.range i).map (slackS p now l)).length + [slackS p now l i].length ≤ 1000000) = true := by simp; omega
    have hbody : admit_Plan_L1 ((List.range l.length).map (demS p now l), true) ((i : Int), (List.range i).map (slackS p now l)) = bif late p now l i then some (.inr (.inr ([], (l.getD i j0).Id, 16))) else some (.inl ((i : Int) + 1, (List.range i).map (slackS p now l) ++ [slackS p now l i])) := by
      unfold admit_Plan_L1
      simp only [hlt, h0, decide_true, cond_true, Bool.and_self, chkO_true, hw]
      rw [bind_some_of (getD_dem p now l hi)]
      have e : IntKind.i64.wrap ((demS p now l i).gives - (demS p now l i).needs) = slackS p now l i := h.slack hi
      rw [e, hc, chkO_true]
      rfl
    cases hlate : late p now l i
    · left
      rw [hbody, hlate]
      refine ⟨_, rfl, ?_, fun k hk' => ?_⟩
      · rw [List.range_succ, List.map_append]
        simp only [Prod.mk.injEq]
        exact ⟨by omega, rfl⟩
      · by_cases hki : k < i
        · exact hk k hki
        · have : k = i := by omega
          subst this
          exact hlate
    · right
      rw [hbody, hlate]
      refine ⟨_, rfl, ?_⟩
      unfold planL
      rw [find_late hi hlate hk]
  · obtain ⟨rfl, hk⟩ := hs
    refine ⟨.inl ((List.range l.length).map (slackS p now l)), ?_, ?_⟩
    · unfold admit_Plan_L1
      simp only [List.length_map, List.length_range, Int.lt_irrefl, decide_false, cond_false]
    · unfold planL
      rw [find_none hk]
theorem plan_eq (p : api_Profile) (hp : ProfOk p) (jobs : List api_Job) (hj : jobs.length ≤ 1000) (now : Int) : admit_Plan p jobs now = some (planS p jobs now) := by
  unfold admit_Plan planS
  rw [demands_eq p hp jobs hj, bind_some_of rfl]
  cases h : okA p jobs now
  · rfl
  · have := plan_loop (okA_fine hp h)
    rw [ordR_len] at this
    simp only [cond_true, Bool.not_true, cond_false]
    rw [this]
    unfold planL
    rw [ordR_len]
    cases (List.range jobs.length).find? (late p now (ordR jobs)) <;> rfl
theorem ref_plan_loop {p : api_Profile} {now : Int} {l : List api_Job} (h : Fine p now l) : loopF (ref29_Plan_L1 l p now) (0, 0, []) = some (planL p now l) := by
  refine loopF_inv (body := ref29_Plan_L1 l p now) l.length (fun i s => s = (sumS (l.take i), (i : Int), (List.range i).map (slackS p now l)) ∧ ∀ k, k < i → late p now l k = false) (fun r => r = some (planL p now l)) (fun i s hi hs => ?_) (fun s hs => ?_) ⟨rfl, fun k hk => by omega⟩
  · obtain ⟨rfl, hk⟩ := hs
    obtain ⟨b1, b2, b3, b4, b5, b6, b7, b8, b9⟩ := h.at_ hi
    have hl := h.len
    have hw : IntKind.i64.wrap ((i : Int) + 1) = (i : Int) + 1 := wrap64 (by omega) (by omega)
    have hlt : ((i : Int) < ((l.length : Nat) : Int)) := by omega
    have h0 : (0 : Int) ≤ (i : Int) := by omega
    have hs : IntKind.i64.wrap (sumS (l.take i) + (l.getD i j0).Size) = need l i := by
      rw [← need_succ hi]
      exact wrap64 (by omega) (by omega)
    have hc : decide (((List.range i).map (slackS p now l)).length + [slackS p now l i].length ≤ 1000000) = true := by simp; omega
    have hd : decide (slackS p now l i < 0) = late p now l i := by
      unfold late slackS
      apply bool_ext
      simp only [decide_eq_true_eq]
      omega
    have hbody : ref29_Plan_L1 l p now (sumS (l.take i), (i : Int), (List.range i).map (slackS p now l)) = bif late p now l i then some (.inr (.inr ([], (l.getD i j0).Id, 16))) else some (.inl (need l i, (i : Int) + 1, (List.range i).map (slackS p now l) ++ [slackS p now l i])) := by
      unfold ref29_Plan_L1
      simp only [hlt, h0, decide_true, cond_true, Bool.and_self, chkO_true, hw]
      rw [bind_some_of (getI_in j0 hi), bind_some_of b9, hs, h.slack hi, hc, chkO_true, hd]
    cases hlate : late p now l i
    · left
      rw [hbody, hlate]
      refine ⟨_, rfl, ?_, fun k hk' => ?_⟩
      · rw [List.range_succ, List.map_append]
        simp only [Prod.mk.injEq]
        exact ⟨rfl, by omega, rfl⟩
      · by_cases hki : k < i
        · exact hk k hki
        · have : k = i := by omega
          subst this
          exact hlate
    · right
      rw [hbody, hlate]
      refine ⟨_, rfl, ?_⟩
      unfold planL
      rw [find_late hi hlate hk]
  · obtain ⟨rfl, hk⟩ := hs
    refine ⟨.inl ((List.range l.length).map (slackS p now l)), ?_, ?_⟩
    · unfold ref29_Plan_L1
      simp only [Int.lt_irrefl, decide_false, cond_false]
    · unfold planL
      rw [find_none hk]
theorem ref_plan_eq (p : api_Profile) (hp : ProfOk p) (jobs : List api_Job) (hj : jobs.length ≤ 1000) (now : Int) : ref29_Plan p jobs now = some (planS p jobs now) := by
  unfold ref29_Plan planS
  rw [valid_eq p hp jobs hj, bind_some_of rfl]
  cases h : okA p jobs now
  · rfl
  · have := ref_plan_loop (okA_fine hp h)
    simp only [cond_true, Bool.not_true, cond_false]
    rw [ref29_Order_eq jobs hj, bind_some_of rfl, this]
    unfold planL
    rw [ordR_len]
    cases (List.range jobs.length).find? (late p now (ordR jobs)) <;> rfl
end Go.Proofs.YtbijnfgjcbfpmaaGreat
namespace Go.Proofs.YtbijnfgjcbfpmaaGreat
open Go.RowKit
/-- what the jobs up to a job need -/
def loadJ (jobs : List api_Job) (j : api_Job) : Int := sumS (jobs.filter fun k => leJ k j)
theorem leJ_refl (a : api_Job) : leJ a a = true := by rw [leJ_iff]; omega
theorem leJ_trans {a b c : api_Job} (h : leJ a b = true) (k : leJ b c = true) : leJ a c = true := by
  rw [leJ_iff] at h k ⊢; omega
theorem leJ_total (a b : api_Job) : leJ a b = true ∨ leJ b a = true := by
  rw [leJ_iff, leJ_iff]; omega
theorem load_perm {a b : List api_Job} (h : a.Perm b) (j : api_Job) : loadJ a j = loadJ b j := sumS_perm (h.filter _)
theorem load_append (a b : List api_Job) (j : api_Job) : loadJ (a ++ b) j = loadJ a j + loadJ b j := by
  unfold loadJ
  rw [List.filter_append, sumS_append]
theorem need_load {l : List api_Job} (hs : l.Pairwise fun a b => leJ a b = true) (hd : l.Pairwise fun a b => a.Id ≠ b.Id) {i : Nat} (hi : i < l.length) : need l i = loadJ l (l.getD i j0) := by
  unfold need loadJ
  have hx : l.getD i j0 = l[i] := by rw [List.getD_eq_getElem?_getD, List.getElem?_eq_getElem hi]; rfl
  rw [hx]
  rw [List.pairwise_iff_getElem] at hs hd
  have h1 : (l.take (i + 1)).filter (fun k => leJ k l[i]) = l.take (i + 1) := by
    rw [List.filter_eq_self]
    intro a ha
    rw [List.mem_take_iff_getElem] at ha
    obtain ⟨k, hk, rfl⟩ := ha
    by_cases hki : k = i
    · subst hki; exact leJ_refl _
    · exact hs k i (by omega) hi (by omega)
  have h2 : (l.drop (i + 1)).filter (fun k => leJ k l[i]) = [] := by
    rw [List.filter_eq_nil_iff]
    intro a ha
    obtain ⟨k, hk, rfl⟩ := List.mem_iff_getElem.1 ha
    rw [List.length_drop] at hk
    rw [List.getElem_drop]
    have e1 := hs i (i + 1 + k) hi (by omega) (by omega)
    have e2 := hd i (i + 1 + k) hi (by omega) (by omega)
    rw [leJ_iff] at e1
    rw [leJ_iff]
    omega
  have : l.filter (fun k => leJ k l[i]) = l.take (i + 1) := by
    have e : l = l.take (i + 1) ++ l.drop (i + 1) := (List.take_append_drop _ _).symm
    calc l.filter (fun k => leJ k l[i]) = (l.take (i + 1) ++ l.drop (i + 1)).filter (fun k => leJ k l[i]) := by rw [← e]
      _ = l.take (i + 1) := by rw [List.filter_append, h1, h2, List.append_nil]
  rw [this]
/-- a plan is made -/
structure PlanOk (p : api_Profile) (jobs : List api_Job) (now : Int) : Prop where
  ok : okA p jobs now = true
  fits : ∀ j ∈ jobs, loadJ jobs j ≤ givesS p now j.Due
theorem okA_iff {p : api_Profile} {jobs : List api_Job} {now : Int} : okA p jobs now = true ↔ chk p = 0 ∧ validB jobs = true ∧ 0 ≤ now ∧ now ≤ 1073741824 := by
  unfold okA
  simp only [Bool.and_eq_true, beq_iff_eq, decide_eq_true_eq]
  constructor
  · rintro ⟨⟨⟨h1, h2⟩, h3⟩, h4⟩
    exact ⟨h1, h2, h3, h4⟩
  · rintro ⟨h1, h2, h3, h4⟩
    exact ⟨⟨⟨h1, h2⟩, h3⟩, h4⟩
theorem ord_ids {jobs : List api_Job} (h : validB jobs = true) : (ordR jobs).Pairwise fun a b => a.Id ≠ b.Id :=
  ((ordR_perm jobs).pairwise_iff (fun h e => h e.symm)).2 (valid_ok h).2.2
theorem need_of {jobs : List api_Job} (h : validB jobs = true) {i : Nat} (hi : i < jobs.length) : need (ordR jobs) i = loadJ jobs ((ordR jobs).getD i j0) := by
  rw [need_load (ordR_sorted jobs) (ord_ids h) (by rw [ordR_len]; exact hi), load_perm (ordR_perm jobs)]
theorem nolate_iff {p : api_Profile} {jobs : List api_Job} {now : Int} (h : okA p jobs now = true) : (List.range jobs.length).find? (late p now (ordR jobs)) = none ↔ PlanOk p jobs now := by
  have hv := (okA_iff.1 h).2.1
  rw [List.find?_range_eq_none]
  constructor
  · intro hk
    refine ⟨h, fun j hj => ?_⟩
    obtain ⟨i, hi, rfl⟩ := List.mem_iff_getElem.1 ((ordR_perm jobs).mem_iff.2 hj)
    have hi' : i < jobs.length := by rw [← ordR_len]; exact hi
    have := hk i hi'
    unfold late give at this
    rw [need_of hv hi'] at this
    have e : (ordR jobs).getD i j0 = (ordR jobs)[i] := by rw [List.getD_eq_getElem?_getD, List.getElem?_eq_getElem hi]; rfl
    rw [e] at this
    simpa using this
  · intro hp i hi
    have hi' : i < (ordR jobs).length := by rw [ordR_len]; exact hi
    have := hp.fits _ ((ordR_perm jobs).mem_iff.1 (getD_mem hi'))
    unfold late give
    rw [need_of hv hi]
    simpa using this
theorem plan_ok {p : api_Profile} {jobs : List api_Job} {now : Int} : (planS p jobs now).2.2 = 0 ↔ PlanOk p jobs now := by
  unfold planS
  cases h : okA p jobs now
  · simp only [cond_false]
    constructor
    · intro h; cases h
    · intro hp
      have := hp.ok
      rw [h] at this
      cases this
  · rw [← nolate_iff h]
    simp only [cond_true]
    split
    · rename_i i hi
      rw [hi]
      constructor <;> intro h <;> cases h
    · rename_i hi
      exact ⟨fun _ => hi, fun _ => rfl⟩
theorem plan_ok_val {p : api_Profile} {jobs : List api_Job} {now : Int} (h : PlanOk p jobs now) : planS p jobs now = ((List.range jobs.length).map (slackS p now (ordR jobs)), -1, 0) := by
  have h2 := (nolate_iff h.ok).2 h
  unfold planS
  rw [h.ok, h2]
  rfl
theorem slack_ok {p : api_Profile} {jobs : List api_Job} {now : Int} (h : PlanOk p jobs now) {i : Nat} (hi : i < jobs.length) : 0 ≤ slackS p now (ordR jobs) i := by
  have := List.find?_range_eq_none.1 ((nolate_iff h.ok).2 h) i hi
  unfold late at this
  unfold slackS
  simp at this
  omega
/- what a link gives grows -/
theorem div_anti {a b c : Int} (hc : 0 ≤ c) (ha : 0 < a) (h : a ≤ b) : c / b ≤ c / a := by
  have h1 := Int.ediv_mul_le c (b := b) (by omega)
  have h2 : 0 ≤ c / b := Int.ediv_nonneg hc (by omega)
  have h3 : c / b * a ≤ c / b * b := Int.mul_le_mul_of_nonneg_left h h2
  exact Int.le_ediv_of_mul_le ha (by omega)
theorem gives_mono {p : api_Profile} (h : chk p = 0) {now now' d d' : Int} (h1 : d - now ≤ d' - now') (h2 : d' - now' ≤ 1073741824) : givesS p now d ≤ givesS p now' d' := by
  have hok := chk_ok h
  by_cases hd : d < now
  · have : givesS p now d = 0 := by unfold givesS; simp [hd]
    rw [this]
    exact (gives_range now' d' h h2).1
  · have hd' : ¬ d' < now' := by omega
    have h0 : 0 ≤ d - now := by omega
    have h0' : 0 ≤ d' - now' := by omega
    have hm : d - now ≤ 1073741824 := by omega
    have hs : stepsS p (d - now) ≤ stepsS p (d' - now') := by
      have := stepsS_mono hok h0 (d' - now' - (d - now)).toNat
      rw [show d - now + ((d' - now' - (d - now)).toNat : Int) = d' - now' by omega] at this
      exact this
    obtain ⟨s0, _, _⟩ := stepsS_range hok h0
    have val : ∀ t : Int, 0 ≤ t → t ≤ 1073741824 → ∀ n e : Int, e - n = t → givesS p n e = if 0 < stepsS p t ∧ 4503599627370496 / stepsS p t < p.Rate then 4503599627370496 else p.Rate * stepsS p t := by
      intro t t0 t1 n e he
      have hne : ¬ e < n := by omega
      unfold givesS leastS timesS
      rw [he]
      simp only [hne, decide_false, cond_false, h, t0, t1, decide_true, Bool.and_self, beq_self_eq_true, cond_true]
      by_cases c1 : 0 < stepsS p t
      · by_cases c2 : 4503599627370496 / stepsS p t < p.Rate
        · simp [c1, c2]
        · simp [c1, c2]
      · simp [c1]
    rw [val _ h0 hm now d rfl, val _ h0' h2 now' d' rfl]
    have hr := hok.rate
    by_cases c1 : 0 < stepsS p (d - now) ∧ 4503599627370496 / stepsS p (d - now) < p.Rate
    · have c2 : 0 < stepsS p (d' - now') ∧ 4503599627370496 / stepsS p (d' - now') < p.Rate := by
        refine ⟨by omega, ?_⟩
        have := div_anti (c := 4503599627370496) (by omega) c1.1 hs
        omega
      rw [if_pos c1, if_pos c2]
      exact Int.le_refl _
    · rw [if_neg c1]
      have hmul : p.Rate * stepsS p (d - now) ≤ p.Rate * stepsS p (d' - now') := Int.mul_le_mul_of_nonneg_left hs (by omega)
      by_cases c2 : 0 < stepsS p (d' - now') ∧ 4503599627370496 / stepsS p (d' - now') < p.Rate
      · rw [if_pos c2]
        by_cases c3 : 0 < stepsS p (d - now)
        · have : p.Rate ≤ 4503599627370496 / stepsS p (d - now) := by
            rw [not_and] at c1
            have := c1 c3
            omega
          have := Int.mul_le_mul_of_nonneg_right this s0
          have h5 := Int.ediv_mul_le 4503599627370496 (b := stepsS p (d - now)) (by omega)
          omega
        · have : stepsS p (d - now) = 0 := by omega
          rw [this]
          simp
      · rw [if_neg c2]
        exact hmul
theorem exists_max : ∀ (l : List api_Job), l ≠ [] → ∃ m ∈ l, ∀ a ∈ l, leJ a m = true
  | [], h => absurd rfl h
  | [x], _ => ⟨x, by simp, fun a ha => by simp at ha; subst ha; exact leJ_refl _⟩
  | x :: y :: l, _ => by
    obtain ⟨m, hm, h⟩ := exists_max (y :: l) (by simp)
    rcases leJ_total x m with hx | hx
    · refine ⟨m, by simp at hm ⊢; right; exact hm, fun a ha => ?_⟩
      rcases List.mem_cons.1 ha with rfl | ha
      · exact hx
      · exact h a ha
    · refine ⟨x, by simp, fun a ha => ?_⟩
      rcases List.mem_cons.1 ha with rfl | ha
      · exact leJ_refl _
      · exact leJ_trans (h a ha) hx
theorem sumS_nonneg {l : List api_Job} (h : ∀ x ∈ l, okJ x = true) : 0 ≤ sumS l := (sumS_bound l h).1
/-- what stands before any place is given in time -/
theorem load_any {p : api_Profile} {jobs : List api_Job} {now : Int} (h : PlanOk p jobs now) (q : api_Job → Bool) (d : Int) (hd : d ≤ 1073741824) (hq : ∀ a b, a ∈ jobs → b ∈ jobs → q b = true → leJ a b = true → q a = true) (hdue : ∀ a ∈ jobs, q a = true → a.Due ≤ d) : sumS (jobs.filter q) ≤ givesS p now d := by
  obtain ⟨c0, v, n0, n1⟩ := okA_iff.1 h.ok
  by_cases he : jobs.filter q = []
  · rw [he]
    exact (gives_range now d c0 (by omega)).1
  · obtain ⟨m, hm, hmax⟩ := exists_max _ he
    obtain ⟨hmj, hmq⟩ := List.mem_filter.1 hm
    have e : jobs.filter q = jobs.filter fun k => leJ k m := by
      apply List.filter_congr
      intro a ha
      cases hqa : q a
      · cases hla : leJ a m
        · rfl
        · have := hq a m ha hmj hmq hla
          rw [hqa] at this
          cases this
      · rw [hmax a (List.mem_filter.2 ⟨ha, hqa⟩)]
    rw [e]
    have := h.fits m hmj
    unfold loadJ at this
    refine Int.le_trans this (gives_mono c0 ?_ (by omega))
    have := hdue m hmj hmq
    omega
theorem sumS_sublist {a b : List api_Job} (h : a.Sublist b) (hb : ∀ x ∈ b, okJ x = true) : sumS a ≤ sumS b := by
  induction h with
  | slnil => exact Int.le_refl _
  | cons x _ ih =>
    have := ih fun y hy => hb y (by simp [hy])
    have hx := hb x (by simp)
    simp only [okJ, Bool.and_eq_true, decide_eq_true_eq] at hx
    simp only [sumS]
    omega
  | cons_cons x _ ih =>
    have := ih fun y hy => hb y (by simp [hy])
    simp only [sumS]
    omega
/-- fewer jobs -/
theorem plan_sub {p : api_Profile} {a b : List api_Job} {now : Int} (h : PlanOk p b now) (hs : a.Sublist b) : PlanOk p a now := by
  obtain ⟨c0, v, n0, n1⟩ := okA_iff.1 h.ok
  obtain ⟨v1, v2, v3⟩ := valid_ok v
  refine ⟨okA_iff.2 ⟨c0, valid_of (fun x hx => v1 x (hs.subset hx)) (Nat.le_trans hs.length_le v2) (v3.sublist hs), n0, n1⟩, fun j hj => ?_⟩
  refine Int.le_trans ?_ (h.fits j (hs.subset hj))
  exact sumS_sublist (hs.filter _) fun x hx => v1 x (List.mem_filter.1 hx).1
/-- one job in the place of another -/
def wt (x j : api_Job) : Int := bif leJ x j then x.Size else 0
theorem load_cons (x : api_Job) (l : List api_Job) (j : api_Job) : loadJ (x :: l) j = wt x j + loadJ l j := by
  unfold loadJ wt
  rw [List.filter_cons]
  cases leJ x j
  · simp
  · simp [sumS]
theorem load_set : ∀ (l : List api_Job) (k : Nat) (y j : api_Job), k < l.length → loadJ (l.set k y) j + wt (l.getD k j0) j = loadJ l j + wt y j
  | [], k, y, j, h => by simp at h
  | x :: l, 0, y, j, _ => by
    rw [List.set_cons_zero, load_cons, load_cons]
    show _ + wt x j = _
    omega
  | x :: l, k + 1, y, j, h => by
    rw [List.set_cons_succ, load_cons, load_cons]
    have := load_set l k y j (by simpa using h)
    have e : (x :: l).getD (k + 1) j0 = l.getD k j0 := rfl
    rw [e]
    omega
theorem pairwise_set {l : List api_Job} {k : Nat} {y : api_Job} (hk : k < l.length) (h : l.Pairwise fun a b => a.Id ≠ b.Id) (e : y.Id = (l.getD k j0).Id) : (l.set k y).Pairwise fun a b => a.Id ≠ b.Id := by
  have key : ∀ m : List api_Job, (m.Pairwise fun a b => a.Id ≠ b.Id) ↔ (m.map api_Job.Id).Pairwise fun a b => a ≠ b := fun m => by rw [List.pairwise_map]
  rw [key] at h ⊢
  have : (l.set k y).map api_Job.Id = l.map api_Job.Id := by
    apply List.ext_getElem?
    intro i
    rw [List.getElem?_map, List.getElem?_map, List.getElem?_set]
    by_cases hik : k = i
    · subst hik
      rw [if_pos rfl, if_pos hk, List.getElem?_eq_getElem hk]
      rw [List.getD_eq_getElem?_getD, List.getElem?_eq_getElem hk] at e
      simpa using e
    · rw [if_neg hik]
  rw [this]
  exact h
theorem mem_set {l : List api_Job} {k : Nat} {y j : api_Job} (h : j ∈ l.set k y) : j = y ∨ (j ∈ l) := by
  rcases List.mem_or_eq_of_mem_set h with h | h
  · exact Or.inr h
  · exact Or.inl h
theorem plan_less {p : api_Profile} {jobs : List api_Job} {now : Int} (h : PlanOk p jobs now) {k : Nat} (hk : k < jobs.length) {s : Int} (s0 : 1 ≤ s) (s1 : s ≤ (jobs.getD k j0).Size) : PlanOk p (jobs.set k ⟨(jobs.getD k j0).Id, s, (jobs.getD k j0).Due⟩) now := by
  obtain ⟨c0, v, n0, n1⟩ := okA_iff.1 h.ok
  obtain ⟨v1, v2, v3⟩ := valid_ok v
  have hx := v1 _ (getD_mem hk)
  have hxm := getD_mem hk
  generalize hg : jobs.getD k j0 = x at *
  have hle : ∀ j, leJ ⟨x.Id, s, x.Due⟩ j = leJ x j := fun j => rfl
  have hle2 : ∀ j, leJ j ⟨x.Id, s, x.Due⟩ = leJ j x := fun j => rfl
  have hld : ∀ l : List api_Job, loadJ l ⟨x.Id, s, x.Due⟩ = loadJ l x := fun l => rfl
  simp only [okJ, Bool.and_eq_true, decide_eq_true_eq] at hx
  refine ⟨okA_iff.2 ⟨c0, valid_of (fun y hy => ?_) (by simpa using v2) (pairwise_set hk v3 (by rw [hg])), n0, n1⟩, fun j hj => ?_⟩
  · rcases mem_set hy with rfl | hy
    · simp only [okJ, Bool.and_eq_true, decide_eq_true_eq]
      omega
    · exact v1 y hy
  · have hl : ∀ j, loadJ (jobs.set k ⟨x.Id, s, x.Due⟩) j ≤ loadJ jobs j := by
      intro j
      have := load_set jobs k ⟨x.Id, s, x.Due⟩ j hk
      rw [hg] at this
      unfold wt at this
      rw [hle] at this
      cases hl : leJ x j
      · rw [hl] at this
        simp only [cond_false] at this
        omega
      · rw [hl] at this
        simp only [cond_true] at this
        omega
    rcases mem_set hj with rfl | hj
    · refine Int.le_trans (hl _) ?_
      rw [hld]
      exact h.fits x hxm
    · exact Int.le_trans (hl j) (h.fits j hj)
theorem plan_late {p : api_Profile} {jobs : List api_Job} {now : Int} (h : PlanOk p jobs now) {k : Nat} (hk : k < jobs.length) {d : Int} (d0 : (jobs.getD k j0).Due ≤ d) (d1 : d ≤ 1073741824) : PlanOk p (jobs.set k ⟨(jobs.getD k j0).Id, (jobs.getD k j0).Size, d⟩) now := by
  obtain ⟨c0, v, n0, n1⟩ := okA_iff.1 h.ok
  obtain ⟨v1, v2, v3⟩ := valid_ok v
  have hx := v1 _ (getD_mem hk)
  have hxm := getD_mem hk
  generalize hg : jobs.getD k j0 = x at *
  simp only [okJ, Bool.and_eq_true, decide_eq_true_eq] at hx
  refine ⟨okA_iff.2 ⟨c0, valid_of (fun y hy => ?_) (by simpa using v2) (pairwise_set hk v3 (by rw [hg])), n0, n1⟩, fun j hj => ?_⟩
  · rcases mem_set hy with rfl | hy
    · simp only [okJ, Bool.and_eq_true, decide_eq_true_eq]
      omega
    · exact v1 y hy
  · have hset := load_set jobs k ⟨x.Id, x.Size, d⟩ j hk
    rw [hg] at hset
    rcases mem_set hj with rfl | hj
    · have hw : wt x ⟨x.Id, x.Size, d⟩ = x.Size := by
        unfold wt
        have : leJ x ⟨x.Id, x.Size, d⟩ = true := by rw [leJ_iff]; dsimp only; omega
        rw [this]
        rfl
      have hw2 : wt ⟨x.Id, x.Size, d⟩ ⟨x.Id, x.Size, d⟩ = x.Size := by
        unfold wt
        rw [leJ_refl]
        rfl
      rw [hw, hw2] at hset
      have hany := load_any h (fun k => leJ k ⟨x.Id, x.Size, d⟩) d d1 (fun a b _ _ hb hab => leJ_trans hab hb) (fun a _ ha => by rw [leJ_iff] at ha; dsimp only at ha; omega)
      have e : loadJ (jobs.set k ⟨x.Id, x.Size, d⟩) ⟨x.Id, x.Size, d⟩ = loadJ jobs ⟨x.Id, x.Size, d⟩ := by omega
      rw [e]
      exact hany
    · refine Int.le_trans ?_ (h.fits j hj)
      have : wt ⟨x.Id, x.Size, d⟩ j ≤ wt x j := by
        unfold wt
        cases h1 : leJ ⟨x.Id, x.Size, d⟩ j
        · cases leJ x j
          · simp
          · simp; omega
        · have : leJ x j = true := leJ_trans (b := ⟨x.Id, x.Size, d⟩) (by rw [leJ_iff]; dsimp only; omega) h1
          rw [this]
          simp
      omega
theorem plan_early {p : api_Profile} {jobs : List api_Job} {now now' : Int} (h : PlanOk p jobs now) (n0' : 0 ≤ now') (n1' : now' ≤ now) : PlanOk p jobs now' := by
  obtain ⟨c0, v, n0, n1⟩ := okA_iff.1 h.ok
  obtain ⟨v1, v2, v3⟩ := valid_ok v
  refine ⟨okA_iff.2 ⟨c0, v, n0', by omega⟩, fun j hj => Int.le_trans (h.fits j hj) (gives_mono c0 (by omega) ?_)⟩
  have := v1 j hj
  simp only [okJ, Bool.and_eq_true, decide_eq_true_eq] at this
  omega
end Go.Proofs.YtbijnfgjcbfpmaaGreat
namespace Go.Proofs.YtbijnfgjcbfpmaaGreat
open Go.RowKit
def slacks (p : api_Profile) (jobs : List api_Job) (now : Int) : List Int := (List.range jobs.length).map (slackS p now (ordR jobs))
theorem slacks_len (p : api_Profile) (jobs : List api_Job) (now : Int) : (slacks p jobs now).length = jobs.length := by simp [slacks]
theorem slacks_get (p : api_Profile) (jobs : List api_Job) (now : Int) {i : Nat} (hi : i < jobs.length) : (slacks p jobs now).getD i 0 = slackS p now (ordR jobs) i := by
  unfold slacks
  rw [List.getD_eq_getElem?_getD, List.getElem?_map, List.getElem?_range hi]
  rfl
theorem slack_range {p : api_Profile} (hp : ProfOk p) {jobs : List api_Job} {now : Int} (h : PlanOk p jobs now) {i : Nat} (hi : i < jobs.length) : 0 ≤ slackS p now (ordR jobs) i ∧ slackS p now (ordR jobs) i ≤ 4503599627370496 := by
  refine ⟨slack_ok h hi, ?_⟩
  obtain ⟨b1, b2, b3, b4, b5, b6, _⟩ := (okA_fine hp h.ok).at_ (i := i) (by rw [ordR_len]; exact hi)
  unfold slackS
  omega
theorem notok {p : api_Profile} {jobs : List api_Job} {now : Int} (h : ¬ PlanOk p jobs now) : ((planS p jobs now).2.2 = 1 ∧ okA p jobs now = false) ∨ ((planS p jobs now).2.2 = 16 ∧ okA p jobs now = true) := by
  cases ho : okA p jobs now
  · left
    unfold planS
    rw [ho]
    exact ⟨rfl, rfl⟩
  · right
    refine ⟨?_, rfl⟩
    rw [← nolate_iff ho] at h
    unfold planS
    rw [ho]
    simp only [cond_true]
    split
    · rfl
    · rename_i hn
      exact absurd hn h
theorem at_index (n : Nat) (hn : 0 < n) (a : Int) (h0 : 0 ≤ a) (h1 : a ≤ 255) : ∃ k : Nat, k < n ∧ Int.tmod (IntKind.i64.wrap a) (n : Int) = (k : Int) := by
  rw [wrap64 (by omega) (by omega), Int.tmod_eq_emod_of_nonneg h0]
  have h2 := Int.emod_nonneg a (show (n : Int) ≠ 0 by omega)
  have h3 := Int.emod_lt_of_pos a (show (0 : Int) < n by omega)
  exact ⟨(a % n).toNat, by omega, by omega⟩
theorem getD_set_self {l : List Int} {k : Nat} {x : Int} (hk : k < l.length) : (l.set k x).getD k 0 = x := by
  rw [List.getD_eq_getElem?_getD, List.getElem?_set_self hk]
  rfl
theorem getD_set_ne {l : List Int} {k i : Nat} {x : Int} (hk : k ≠ i) : (l.set k x).getD i 0 = l.getD i 0 := by
  rw [List.getD_eq_getElem?_getD, List.getElem?_set_ne hk, List.getD_eq_getElem?_getD]
end Go.Proofs.YtbijnfgjcbfpmaaGreat

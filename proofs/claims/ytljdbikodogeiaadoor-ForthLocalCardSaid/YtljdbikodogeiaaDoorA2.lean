/-
  Profiles: what syntax.Right computes (plain law).
-/
import Derived.Test.YtljdbikodogeiaaDoorA1
namespace Go.Proofs.YtljdbikodogeiaaDoor
open Go.RowKit
def rangeB (lo hi x : Int) : Bool := decide (lo ≤ x) && decide (x ≤ hi)
def numsOf (p : api_Profile) : List Int := [p.Within, p.Size, p.Parts, p.Files, p.Bytes, p.Rate, p.Down, p.Window, p.Keep]
def kindsOf (p : api_Profile) : List Arr2_Int := [(Arr2_Int.mk p.Delete 3), (Arr2_Int.mk p.Thread 3), (Arr2_Int.mk p.Join 3), (Arr2_Int.mk p.History 2), (Arr2_Int.mk p.Remove 2), (Arr2_Int.mk p.Level 5)]
theorem syntax_L1 (p : api_Profile) : loopF (syntax_Right_L1 p) 0 = some (bif (numsOf p).all (rangeB 0 1073741824) then (.inl () : Unit ⊕ Bool) else .inr false) := by
  refine loopF_all (numsOf p) (rangeB 0 1073741824) false (fun i x h0 hlt hx => ?_) ?_
  · have h9 : i < ((9 : Nat) : Int) := hlt
    have hw : IntKind.i64.wrap (i + 1) = i + 1 := wrap64 (by omega) (by omega)
    unfold syntax_Right_L1
    have hl : i < (([p.Within, p.Size, p.Parts, p.Files, p.Bytes, p.Rate, p.Down, p.Window, p.Keep].length : Nat) : Int) := hlt
    have hx' : getI [p.Within, p.Size, p.Parts, p.Files, p.Bytes, p.Rate, p.Down, p.Window, p.Keep] i = some x := by rw [getI_of h0]; exact hx
    simp only [h9, hl, h0, decide_true, cond_true, Bool.and_self, chkO_true, hw]
    rw [bind_some_of hx']
    unfold rangeB
    by_cases h1 : x < 0
    · have : ¬ 0 ≤ x := by omega
      simp [h1, this]
    · have h1' : 0 ≤ x := by omega
      by_cases h2 : 1073741824 < x
      · have : ¬ x ≤ 1073741824 := by omega
        simp [h1, h2, this]
      · have : x ≤ 1073741824 := by omega
        simp [h1, h1', h2, this]
  · unfold syntax_Right_L1
    rfl
theorem syntax_L2 (p : api_Profile) : loopF (syntax_Right_L2 p) 0 = some (bif (kindsOf p).all (fun x => rangeB 0 (x.a1 - 1) x.a0) then (.inl () : Unit ⊕ Bool) else .inr false) := by
  refine loopF_all (kindsOf p) (fun x => rangeB 0 (x.a1 - 1) x.a0) false (fun i x h0 hlt hx => ?_) ?_
  · have h9 : i < ((6 : Nat) : Int) := hlt
    have hw : IntKind.i64.wrap (i + 1) = i + 1 := wrap64 (by omega) (by omega)
    have hx' : getI (kindsOf p) i = some x := by rw [getI_of h0]; exact hx
    unfold syntax_Right_L2
    change _ = _ at hx'
    unfold kindsOf at hx' hlt
    simp only [h9, hlt, h0, decide_true, cond_true, Bool.and_self, chkO_true, hw]
    rw [bind_some_of hx']
    unfold rangeB
    by_cases h1 : x.a0 < 0
    · have : ¬ 0 ≤ x.a0 := by omega
      simp [h1, this]
    · have h1' : 0 ≤ x.a0 := by omega
      by_cases h2 : x.a1 ≤ x.a0
      · have : ¬ x.a0 ≤ x.a1 - 1 := by omega
        simp [h1, h2, this]
      · have : x.a0 ≤ x.a1 - 1 := by omega
        simp [h1, h1', h2, this]
  · unfold syntax_Right_L2
    rfl
theorem contF (l : List ByteArray) (hl : l.length ≤ maxLen) (f : ByteArray → Option Bool) (q : ByteArray → Bool) (hf : ∀ x ∈ l, f x = some (q x)) : slices_ContainsFunc_string_string l f = some (l.any q) := by
  unfold maxLen at hl
  have key := loopF_range (body := slices_IndexFunc_string_string_L1 l f) l (fun i => i) (fun x i => bif q x then some (.inr (.inr i)) else some (.inl (i + 1))) (fun _ => .inl ()) (fun _ => True)
    (fun i x _ h0 hx => by
      have hlt := (List.getElem?_eq_some_iff.1 hx).1
      have h1 : i < (l.length : Int) := by omega
      have hw : IntKind.i64.wrap (i + 1) = i + 1 := wrap64 (by omega) (by omega)
      have hg : getI l i = some x := by rw [getI_of h0]; exact hx
      unfold slices_IndexFunc_string_string_L1
      simp only [h1, decide_true, cond_true, hw]
      rw [bind_some_of hg, bind_some_of (hf x (List.mem_of_getElem? hx))])
    (fun i _ hi => by
      unfold slices_IndexFunc_string_string_L1
      simp only [hi, Int.lt_irrefl, decide_false, cond_false])
    (fun x i i' _ h0 h1 hf => by
      cases hpx : q x
      · rw [hpx] at hf
        injection hf with hf
        injection hf with hf
        exact ⟨hf.symm, trivial⟩
      · rw [hpx] at hf
        injection hf with hf
        cases hf)
    0 trivial (Int.le_refl _) (Int.natCast_nonneg _)
  have fold : ∀ (r : List ByteArray) (i : Int), 0 ≤ i → (foldL (fun (x : ByteArray) (i : Int) => bif q x then some (.inr (.inr i)) else some (Sum.inl (i + 1))) (fun _ => some (.inl ())) r i = some (.inl () : Unit ⊕ Int) ∧ r.any q = false) ∨ ∃ j, 0 ≤ j ∧ foldL (fun (x : ByteArray) (i : Int) => bif q x then some (.inr (.inr i)) else some (Sum.inl (i + 1))) (fun _ => some (.inl ())) r i = some (.inr j : Unit ⊕ Int) ∧ r.any q = true := by
    intro r
    induction r with
    | nil => exact fun i _ => Or.inl ⟨rfl, rfl⟩
    | cons x r ih =>
      intro i hi
      cases hx : q x
      · rcases ih (i + 1) (by omega) with ⟨h1, h2⟩ | ⟨j, h1, h2, h3⟩
        · exact Or.inl ⟨by rw [foldL]; simp only [hx, cond_false]; exact h1, by simp [hx, h2]⟩
        · exact Or.inr ⟨j, h1, by rw [foldL]; simp only [hx, cond_false]; exact h2, by simp [hx, h3]⟩
      · exact Or.inr ⟨i, hi, by rw [foldL]; simp only [hx, cond_true], by simp [hx]⟩
  unfold slices_ContainsFunc_string_string slices_IndexFunc_string_string
  rw [key, show List.drop (0 : Int).toNat l = l from rfl]
  rcases fold l 0 (Int.le_refl _) with ⟨h1, h2⟩ | ⟨j, h1, h2, h3⟩
  · rw [h1, h2]
    rfl
  · rw [h2, h3]
    simp [seqF, h1]
/-- what a right profile is (layer 12) -/
def profB (p : api_Profile) : Bool :=
  (numsOf p).all (rangeB 0 1073741824) && (kindsOf p).all (fun x => rangeB 0 (x.a1 - 1) x.a0) && wordB p.Name.data.toList && (p.Edit == 0 || p.Edit == 2) && !(p.Edit == 0 && decide (0 < p.Within)) &&
    (bif p.Files == 0 then p.Bytes == 0 && (p.Types.length : Int) == 0 else decide ((1 : Int) ≤ (p.Types.length : Int)) && decide ((p.Types.length : Int) ≤ 20) && p.Types.all fun t => wordB t.data.toList)
theorem syntax_Right_eq (p : api_Profile) (hn : p.Name.size ≤ maxLen) (ht : p.Types.length ≤ maxLen) (hts : ∀ t ∈ p.Types, t.size ≤ maxLen) : syntax_Right p = some (profB p) := by
  have hc := contF p.Types ht syntax_Right_1 (fun t => !wordB t.data.toList) (fun t hm => by
    unfold syntax_Right_1
    rw [lex_Word_eq t (hts t hm)]
    rfl)
  unfold syntax_Right profB
  rw [syntax_L1, syntax_L2, lex_Word_eq _ hn, hc]
  have hall : (!(p.Types.any fun t => !wordB t.data.toList)) = p.Types.all fun t => wordB t.data.toList := by
    rw [List.all_eq_not_any_not]
  cases h1 : (numsOf p).all (rangeB 0 1073741824)
  · rfl
  · cases h2 : (kindsOf p).all (fun x => rangeB 0 (x.a1 - 1) x.a0)
    · rfl
    · simp only [cond_true, seqF, Option.bind_some, Bool.true_and]
      cases h3 : wordB p.Name.data.toList
      · rfl
      · have hne : ∀ a b : Int, (a != b) = !(a == b) := fun a b => rfl
        simp only [Bool.not_true, cond_false, hne, Bool.true_and]
        cases h4 : (p.Edit == 0) <;> cases h5 : (p.Edit == 2) <;> cases h6 : decide (0 < p.Within) <;> cases h7 : (p.Files == 0) <;> cases h8 : (p.Bytes == 0) <;> cases h9 : decide ((1 : Int) ≤ (p.Types.length : Int)) <;> cases h10 : decide ((p.Types.length : Int) ≤ 20) <;> simp [hall]
end Go.Proofs.YtljdbikodogeiaaDoor

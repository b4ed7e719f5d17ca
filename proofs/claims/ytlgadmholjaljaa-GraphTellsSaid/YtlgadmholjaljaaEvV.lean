/-
  Loops over the elements of a list, as recursion over the list; sums that do not overflow. Over any program.
-/
import Derived.Test.YtlgadmholjaljaaEvR
import Derived.IntWalk
namespace Go.Proofs.Ytlgadmholjaljaa
open Go.RowKit
/-- one element after the other -/
def foldL {St B A : Type} (f : A → St → Option (St ⊕ B)) (fin : St → Option B) : List A → St → Option B
  | [], s => fin s
  | x :: r, s => match f x s with
    | none => none
    | some (.inl s') => foldL f fin r s'
    | some (.inr b) => some b
theorem loopF_range {St B A : Type} {body : St → Option (St ⊕ B)} (l : List A) (idx : St → Int) (f : A → St → Option (St ⊕ B)) (fin : St → B) (ok : St → Prop)
    (hb : ∀ s x, ok s → 0 ≤ idx s → l[(idx s).toNat]? = some x → body s = f x s)
    (hend : ∀ s, ok s → idx s = l.length → body s = some (.inr (fin s)))
    (hstep : ∀ x s s', ok s → 0 ≤ idx s → idx s < l.length → f x s = some (.inl s') → idx s' = idx s + 1 ∧ ok s') :
    ∀ s, ok s → 0 ≤ idx s → idx s ≤ l.length → loopF body s = foldL f (fun s => some (fin s)) (l.drop (idx s).toNat) s := by
  have key : ∀ n s, l.length - (idx s).toNat = n → ok s → 0 ≤ idx s → idx s ≤ l.length → loopF body s = foldL f (fun s => some (fin s)) (l.drop (idx s).toNat) s := by
    intro n
    induction n with
    | zero =>
      intro s hn ho h0 h1
      have he : idx s = l.length := by omega
      have hd : l.drop (idx s).toNat = [] := List.drop_of_length_le (by omega)
      rw [hd, loopF_stop (hend s ho he)]
      rfl
    | succ n ih =>
      intro s hn ho h0 h1
      have hlt : (idx s).toNat < l.length := by omega
      have hx : l[(idx s).toNat]? = some l[(idx s).toNat] := List.getElem?_eq_getElem hlt
      have hd : l.drop (idx s).toNat = l[(idx s).toNat] :: l.drop ((idx s).toNat + 1) := List.drop_eq_getElem_cons hlt
      rw [hd, foldL, loopF_eq, hb s _ ho h0 hx]
      cases hf : f l[(idx s).toNat] s with
      | none => rfl
      | some r =>
        cases r with
        | inl s' =>
          obtain ⟨h3, h4⟩ := hstep _ s s' ho h0 (by omega) hf
          have e : (idx s').toNat = (idx s).toNat + 1 := by omega
          have := ih s' (by omega) h4 (by omega) (by omega)
          rw [e] at this
          exact this
        | inr b => rfl
  exact fun s ho h0 h1 => key _ s rfl ho h0 h1
/-- a loop that looks at each element, and ends where one fails -/
theorem foldL_all {A B : Type} (q : A → Bool) (b : B) : ∀ (l : List A) (i : Int), foldL (fun (x : A) (i : Int) => bif q x then some (Sum.inl (i + 1)) else some (.inr (.inr b))) (fun _ => some (.inl ())) l i = some (bif l.all q then (.inl () : Unit ⊕ B) else .inr b)
  | [], i => rfl
  | x :: l, i => by
    rw [foldL]
    cases hx : q x
    · simp [hx]
    · simp [hx, foldL_all q b l (i + 1)]
theorem loopF_all {A B : Type} {body : Int → Option (Int ⊕ (Unit ⊕ B))} (l : List A) (q : A → Bool) (b : B)
    (hb : ∀ (i : Int) x, 0 ≤ i → i < l.length → l[i.toNat]? = some x → body i = bif q x then some (.inl (i + 1)) else some (.inr (.inr b)))
    (hend : body l.length = some (.inr (.inl ()))) : loopF body 0 = some (bif l.all q then (.inl () : Unit ⊕ B) else .inr b) := by
  have := loopF_range (body := body) l (fun i => i) (fun x i => bif q x then some (.inl (i + 1)) else some (.inr (.inr b))) (fun _ => .inl ()) (fun _ => True)
    (fun i x _ h0 hx => hb i x h0 (by have := (List.getElem?_eq_some_iff.1 hx).1; omega) hx) (fun i _ hi => by rw [hi]; exact hend)
    (fun x i i' _ h0 h1 hf => by
      cases hpx : q x
      · rw [hpx] at hf; cases hf
      · rw [hpx] at hf
        injection hf with hf
        injection hf with hf
        exact ⟨hf.symm, trivial⟩)
    0 trivial (Int.le_refl _) (Int.natCast_nonneg _)
  rw [this, show List.drop (0 : Int).toNat l = l from rfl, foldL_all]
theorem getI_of {A : Type} {l : List A} {i : Int} (h : 0 ≤ i) : getI l i = l[i.toNat]? := by simp [getI, h]
theorem getI_nat {A : Type} {l : List A} {i : Nat} : getI l (i : Int) = l[i]? := by simp [getI]
theorem wrap64 {n : Int} (h1 : -9223372036854775808 ≤ n) (h2 : n ≤ 9223372036854775807) : IntKind.i64.wrap n = n := IntWalk.i64_in n (by omega)
theorem chkO_true {B : Type} {k : Unit → Option B} : (chkO true).bind k = k () := rfl
theorem seqF_inl {A B : Type} {p : Option (A ⊕ B)} {k : A → Option B} {a : A} (h : p = some (.inl a)) : seqF p k = k a := by rw [h]; rfl
theorem seqF_inr {A B : Type} {p : Option (A ⊕ B)} {k : A → Option B} {b : B} (h : p = some (.inr b)) : seqF p k = some b := by rw [h]; rfl
theorem bind_some_of {A B : Type} {p : Option A} {k : A → Option B} {x : A} (h : p = some x) : p.bind k = k x := by rw [h]; rfl
theorem take_range {A : Type} (l : List A) (d : A) (i : Nat) (h : i ≤ l.length) : l.take i = (List.range i).map fun k => l.getD k d := by
  apply List.ext_getElem
  · simp; omega
  · intro k h1 h2
    simp at h1 h2
    have hk : k < l.length := by omega
    simp [List.getD_eq_getElem?_getD, List.getElem?_eq_getElem hk]
/-- a loop over indices -/
theorem loopF_idx {B : Type} {body : Int → Option (Int ⊕ (Unit ⊕ B))} (n : Nat) (q : Nat → Bool) (b : B) (hb : ∀ i : Nat, i < n → body (i : Int) = bif q i then some (.inl ((i : Int) + 1)) else some (.inr (.inr b)))
    (hend : body (n : Int) = some (.inr (.inl ()))) : loopF body 0 = some (bif (List.range n).all q then (.inl () : Unit ⊕ B) else .inr b) := by
  refine loopF_all (List.range n) q b (fun i x h0 hlt hx => ?_) (by rw [List.length_range]; exact hend)
  rw [List.length_range] at hlt
  have hi : i.toNat < n := by omega
  rw [List.getElem?_range hi] at hx
  injection hx with hx
  have e : i = (i.toNat : Int) := by omega
  rw [e, hb i.toNat hi, hx]
theorem getI_in {A : Type} {l : List A} (d : A) {i : Nat} (h : i < l.length) : getI l (i : Int) = some (l.getD i d) := by
  rw [getI_nat, List.getElem?_eq_getElem h, List.getD_eq_getElem?_getD, List.getElem?_eq_getElem h]
  rfl
theorem bool_ext {a b : Bool} (h : a = true ↔ b = true) : a = b := by
  cases a <;> cases b <;> simp_all
/-- a loop, by what holds at its head -/
theorem loopF_inv {S B : Type} {body : S → Option (S ⊕ B)} (n : Nat) (J : Nat → S → Prop) (R : Option B → Prop)
    (hstep : ∀ i s, i < n → J i s → (∃ s', body s = some (.inl s') ∧ J (i + 1) s') ∨ ∃ b, body s = some (.inr b) ∧ R (some b))
    (hend : ∀ s, J n s → ∃ b, body s = some (.inr b) ∧ R (some b)) {s0 : S} (h0 : J 0 s0) : R (loopF body s0) := by
  have : ∀ k i s, n - i = k → i ≤ n → J i s → R (loopF body s) := by
    intro k
    induction k with
    | zero =>
      intro i s hk hi hJ
      have : i = n := by omega
      subst this
      obtain ⟨b, h1, h2⟩ := hend s hJ
      rw [loopF_stop h1]
      exact h2
    | succ k ih =>
      intro i s hk hi hJ
      rcases hstep i s (by omega) hJ with ⟨s', h1, h2⟩ | ⟨b, h1, h2⟩
      · rw [loopF_next h1]
        exact ih (i + 1) s' (by omega) (by omega) h2
      · rw [loopF_stop h1]
        exact h2
  exact this (n - 0) 0 s0 rfl (Nat.zero_le _) h0
theorem take_succ_getD {A : Type} (l : List A) (d : A) {i : Nat} (h : i < l.length) : l.take (i + 1) = l.take i ++ [l.getD i d] := by
  rw [List.take_add_one, List.getElem?_eq_getElem h, List.getD_eq_getElem?_getD, List.getElem?_eq_getElem h]
  rfl
theorem tw_lt {A : Type} (p : A → Bool) (d : A) : ∀ (l : List A) (i : Nat), i < (l.takeWhile p).length → i < l.length ∧ p (l.getD i d) = true
  | [], i, h => by simp at h
  | x :: l, i, h => by
    rw [List.takeWhile_cons] at h
    cases hp : p x
    · rw [hp] at h; simp at h
    · rw [hp] at h
      cases i with
      | zero => exact ⟨by simp, by simpa using hp⟩
      | succ i =>
        have := tw_lt p d l i (by simpa using h)
        exact ⟨by simpa using this.1, by simpa using this.2⟩
theorem tw_end {A : Type} (p : A → Bool) (d : A) : ∀ (l : List A), (l.takeWhile p).length < l.length → p (l.getD (l.takeWhile p).length d) = false
  | [], h => by simp at h
  | x :: l, h => by
    rw [List.takeWhile_cons] at h ⊢
    cases hp : p x
    · simpa using hp
    · rw [hp] at h
      have := tw_end p d l (by simpa using h)
      simpa using this
theorem tw_take {A : Type} (p : A → Bool) : ∀ (l : List A), l.take (l.takeWhile p).length = l.takeWhile p ∧ l.drop (l.takeWhile p).length = l.dropWhile p
  | [] => ⟨rfl, rfl⟩
  | x :: l => by
    rw [List.takeWhile_cons, List.dropWhile_cons]
    cases hp : p x
    · exact ⟨rfl, rfl⟩
    · obtain ⟨h1, h2⟩ := tw_take p l
      exact ⟨by simp [h1], by simp [h2]⟩
theorem mget_mput {V : Type} (k : Int) (v z : V) (a : Int) : ∀ (m : List (Int × V)), mgetT a (mputT k v m) z = bif a == k then v else mgetT a m z
  | [] => by
    simp only [mputT, mgetT]
  | p :: r => by
    simp only [mputT]
    by_cases hk : k = p.1
    · subst hk
      simp only [beq_self_eq_true, cond_true, mgetT]
      cases a == p.1 <;> rfl
    · have h1 : (k == p.1) = false := by simpa using hk
      simp only [h1, cond_false, mgetT, mget_mput k v z a r]
      by_cases ha : a = p.1
      · have h2 : (a == k) = false := by simp; omega
        have h3 : (a == p.1) = true := by simpa using ha
        rw [h2, h3]
        rfl
      · have h3 : (a == p.1) = false := by simpa using ha
        rw [h3]
        rfl
end Go.Proofs.Ytlgadmholjaljaa

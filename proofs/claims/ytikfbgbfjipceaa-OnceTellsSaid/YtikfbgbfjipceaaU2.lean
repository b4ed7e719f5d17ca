/-
  Layer 32, plain law: what Take of the reference computes.
-/
import Derived.Test.YtikfbgbfjipceaaU1
namespace Go.Proofs.Ytikfbgbfjipceaa
open Go.RowKit
/-- a number put in its place as a range of its own, if there is a range behind it -/
def insA (n : Int) : List Arr2_Int → Bool × List Arr2_Int
  | [] => (false, [])
  | x :: r => bif decide (n < x.a0) then (true, ⟨n, n + 1⟩ :: x :: r) else ((insA n r).1, x :: (insA n r).2)
theorem insA_eq (n : Int) : ∀ l : List Arr2_Int, insR (l.map rgOf) n = (bif (insA n l).1 then (insA n l).2 else (insA n l).2 ++ [⟨n, n + 1⟩]).map rgOf
  | [] => rfl
  | x :: r => by
    rw [List.map_cons, insR, insA]
    by_cases h : n < x.a0
    · have h1 : decide (n < x.a0) = true := by simpa using h
      rw [if_pos (by exact h), h1]
      rfl
    · have h1 : decide (n < x.a0) = false := by simpa using h
      rw [if_neg (by exact h), h1, insA_eq n r]
      simp only [cond_false]
      cases (insA n r).1 <;> simp
theorem insA_len (n : Int) : ∀ l : List Arr2_Int, (insA n l).2.length ≤ l.length + 1
  | [] => by simp [insA]
  | x :: r => by
    rw [insA]
    have := insA_len n r
    cases decide (n < x.a0)
    · simp only [cond_false, List.length_cons]; omega
    · simp
def stepA (n : Int) (x : Arr2_Int) (s : Bool × Int × List Arr2_Int) : Option ((Bool × Int × List Arr2_Int) ⊕ ((Bool × List Arr2_Int) ⊕ (Int × List Arr2_Int × Bool))) :=
  bif !s.1 then (bif decide (n < x.a0) then some (.inl (true, s.2.1 + 1, (s.2.2 ++ [⟨n, n + 1⟩]) ++ [x])) else some (.inl (s.1, s.2.1 + 1, s.2.2 ++ [x]))) else some (.inl (s.1, s.2.1 + 1, s.2.2 ++ [x]))
theorem foldT : ∀ (n : Int) (l : List Arr2_Int) (i : Int) (out : List Arr2_Int), foldL (stepA n) (fun s => some (.inl (s.1, s.2.2))) l (true, i, out) = some (.inl (true, out ++ l))
  | n, [], i, out => by simp [foldL]
  | n, x :: l, i, out => by
    rw [foldL]
    simp only [stepA, Bool.not_true, cond_false]
    rw [foldT n l]
    simp
theorem foldF : ∀ (n : Int) (l : List Arr2_Int) (i : Int) (out : List Arr2_Int), foldL (stepA n) (fun s => some (.inl (s.1, s.2.2))) l (false, i, out) = some (.inl ((insA n l).1, out ++ (insA n l).2))
  | n, [], i, out => by simp [foldL, insA]
  | n, x :: l, i, out => by
    rw [foldL, insA]
    cases h : decide (n < x.a0)
    · simp only [stepA, Bool.not_false, cond_true, h, cond_false]
      rw [foldF n l]
      simp
    · simp only [stepA, Bool.not_false, cond_true, h]
      rw [foldT n l]
      simp
theorem chk_true {b : Bool} (h : b = true) {B : Type} {k : Unit → Option B} : (chkO b).bind k = k () := by rw [h]; rfl
theorem loop1_eq (l : List Arr2_Int) (n : Int) (hl : l.length ≤ 1000) (h0 : 0 ≤ n) (h1 : n < 1099511627776) : loopF (ref32_Take_L1 l n) (false, 0, []) = some (.inl ((insA n l).1, (insA n l).2)) := by
  have key := loopF_range (body := ref32_Take_L1 l n) l (fun s => s.2.1) (stepA n) (fun s => .inl (s.1, s.2.2)) (fun s => (s.2.2.length : Int) ≤ s.2.1 + 1 ∧ (s.1 = false → (s.2.2.length : Int) ≤ s.2.1))
    (fun s x ho' g0 hx => by
      have ho := ho'.1
      have hlt : s.2.1.toNat < l.length := (List.getElem?_eq_some_iff.1 hx).1
      have g1 : s.2.1 < (l.length : Int) := by omega
      have gx := (getI_of g0).trans hx
      unfold ref32_Take_L1 stepA
      simp only [g1, decide_true, cond_true]
      rw [wrap64 (n := s.2.1 + 1) (by omega) (by omega), wrap64 (n := n + 1) (by omega) (by omega)]
      cases s.1
      · simp only [Bool.not_false, cond_true]
        rw [bind_some_of gx]
        cases decide (n < x.a0)
        · simp only [cond_false]
          rw [chk_true (by simp; omega)]
        · simp only [cond_true]
          rw [chk_true (by simp; omega), chk_true (by simp; omega)]
      · simp only [Bool.not_true, cond_false]
        rw [bind_some_of gx, chk_true (by simp; omega)])
    (fun s _ hi => by
      unfold ref32_Take_L1
      simp only [hi, Int.lt_irrefl, decide_false, cond_false])
    (fun x s s' ho g0 g1 hf => by
      revert hf
      unfold stepA
      rcases s with ⟨a, i, out⟩
      simp only at ho ⊢
      obtain ⟨ho, ho'⟩ := ho
      cases a
      · have ho' := ho' rfl
        cases decide (n < x.a0)
        · intro hf
          cases hf
          exact ⟨rfl, by simp; omega, fun _ => by simp; omega⟩
        · intro hf
          cases hf
          exact ⟨rfl, by simp; omega, fun e => by cases e⟩
      · intro hf
        cases hf
        exact ⟨rfl, by simp; omega, fun e => by cases e⟩)
    (false, 0, []) (by simp) (Int.le_refl _) (Int.natCast_nonneg _)
  rw [key]
  have := foldF n l 0 []
  simpa using this
def stepM (x : Arr2_Int) (s : Int × Int × List Arr2_Int) : Option ((Int × Int × List Arr2_Int) ⊕ ((Int × List Arr2_Int) ⊕ (Int × List Arr2_Int × Bool))) :=
  some (.inl ((mStep (s.1, s.2.2.map rgOf) (rgOf x)).1, s.2.1 + 1, (mStep (s.1, s.2.2.map rgOf) (rgOf x)).2.map ofRg))
theorem foldM : ∀ (l : List Arr2_Int) (low i : Int) (out : List Arr2_Int), foldL stepM (fun s => some (.inl (s.1, s.2.2))) l (low, i, out) = some (.inl ((mrg (low, out.map rgOf) (l.map rgOf)).1, (mrg (low, out.map rgOf) (l.map rgOf)).2.map ofRg))
  | [], low, i, out => by simp only [foldL, List.map_nil, mrg, List.foldl_nil, ofRg_rgOf]
  | x :: l, low, i, out => by
    rw [foldL]
    simp only [stepM]
    rw [foldM l, List.map_cons, mrg_cons, rgOf_ofRg]
theorem body2_nil (l : List Arr2_Int) (low i : Int) (x : Arr2_Int) (hl : l.length ≤ 2000) (h0 : 0 ≤ i) (hx : l[i.toNat]? = some x) : ref32_Take_L2 l (low, i, []) = stepM x (low, i, []) := by
  have hlt : i.toNat < l.length := (List.getElem?_eq_some_iff.1 hx).1
  have g1 : i < (l.length : Int) := by omega
  have gx := (getI_of h0).trans hx
  have e1 : IntKind.i64.wrap (((([] : List Arr2_Int).length : Nat) : Int) - (1 : Int)) = -1 := by rw [wrap64 (by simp) (by simp)]; rfl
  unfold ref32_Take_L2 stepM
  simp only [e1, g1, h0, decide_true, cond_true, Bool.and_self]
  rw [wrap64 (n := i + 1) (by omega) (by omega)]
  rw [show decide ((-1 : Int) < 0) = true from rfl, show decide ((0 : Int) ≤ -1) = false from rfl]
  simp only [cond_true, cond_false, chkO_true]
  rw [bind_some_of gx, seqF_inl rfl, bind_some_of gx, bind_some_of gx]
  have e2 : mStep (low, ([] : List Arr2_Int).map rgOf) (rgOf x) = if x.a0 = low then (x.a1, []) else (low, [rgOf x]) := by
    unfold mStep
    simp only [List.map_nil, if_true]
    rfl
  rw [e2]
  by_cases h : x.a0 = low
  · have h1 : (x.a0 == low) = true := by simpa using h
    rw [h1, if_pos h]
    rfl
  · have h1 : (x.a0 == low) = false := by simpa using h
    rw [h1, if_neg h]
    simp only [cond_false]
    rw [chk_true (by simp)]
    rfl
theorem body2_snoc (l o : List Arr2_Int) (y : Arr2_Int) (low i : Int) (x : Arr2_Int) (hl : l.length ≤ 2000) (ho : ((o ++ [y]).length : Int) ≤ i) (h0 : 0 ≤ i) (hx : l[i.toNat]? = some x) : ref32_Take_L2 l (low, i, o ++ [y]) = stepM x (low, i, o ++ [y]) := by
  have hlt : i.toNat < l.length := (List.getElem?_eq_some_iff.1 hx).1
  have g1 : i < (l.length : Int) := by omega
  have gx := (getI_of h0).trans hx
  have hlen : (o ++ [y]).length = o.length + 1 := by simp
  have e1 : IntKind.i64.wrap ((((o ++ [y]).length : Nat) : Int) - (1 : Int)) = (o.length : Int) := by rw [wrap64 (by omega) (by omega)]; omega
  have g2 : ¬ ((o.length : Int) < 0) := by omega
  have g3 : (0 : Int) ≤ (o.length : Int) := by omega
  have g4 : (o.length : Int) < (((o ++ [y]).length : Nat) : Int) := by omega
  have gy : getI (o ++ [y]) (o.length : Int) = some y := by rw [getI_nat]; simp
  unfold ref32_Take_L2 stepM
  simp only [e1, g1, h0, g2, g3, g4, decide_true, decide_false, cond_true, cond_false, Bool.and_self, if_false]
  rw [wrap64 (n := i + 1) (by omega) (by omega)]
  rw [seqF_inl rfl]
  simp only [cond_false, chkO_true]
  rw [bind_some_of gy, bind_some_of gx, List.map_append, show [y].map rgOf = [rgOf y] from rfl, step_last]
  by_cases h : y.a1 = x.a0
  · have h1 : (y.a1 == x.a0) = true := by simpa using h
    rw [h1, if_pos (by exact h)]
    simp only [cond_true]
    rw [bind_some_of gy]
    have e2 : List.set (o ++ [y]) (o.length : Int).toNat ⟨y.a0, x.a1⟩ = o ++ [⟨y.a0, x.a1⟩] := by simp
    rw [e2, List.map_append, ofRg_rgOf]
    rfl
  · have h1 : (y.a1 == x.a0) = false := by simpa using h
    rw [h1, if_neg (by exact h)]
    simp only [cond_false]
    rw [chk_true (by simp; omega), List.map_append, List.map_append, ofRg_rgOf]
    rfl
theorem mstep_len (a : Int × List Rg) (x : Rg) : (mStep a x).2.length ≤ a.2.length + 1 := by
  unfold mStep
  split
  · split <;> simp
  · split <;> simp
theorem loop2_eq (l : List Arr2_Int) (low : Int) (hl : l.length ≤ 2000) : loopF (ref32_Take_L2 l) (low, 0, []) = some (.inl ((mrg (low, []) (l.map rgOf)).1, (mrg (low, []) (l.map rgOf)).2.map ofRg)) := by
  have key := loopF_range (body := ref32_Take_L2 l) l (fun s => s.2.1) stepM (fun s => .inl (s.1, s.2.2)) (fun s => (s.2.2.length : Int) ≤ s.2.1)
    (fun s x ho g0 hx => by
      rcases s with ⟨a, i, out⟩
      rcases List.eq_nil_or_concat out with rfl | ⟨o, y, rfl⟩
      · exact body2_nil l a i x hl g0 hx
      · rw [List.concat_eq_append] at ho ⊢
        exact body2_snoc l o y a i x hl ho g0 hx)
    (fun s _ hi => by
      unfold ref32_Take_L2
      simp only [hi, Int.lt_irrefl, decide_false, cond_false])
    (fun x s s' ho g0 g1 hf => by
      rcases s with ⟨a, i, out⟩
      unfold stepM at hf
      injection hf with hf
      injection hf with hf
      subst hf
      refine ⟨rfl, ?_⟩
      have := mstep_len (a, out.map rgOf) (rgOf x)
      simp only [List.length_map] at this ⊢
      simp only at ho
      omega)
    (low, 0, []) (by simp) (Int.le_refl _) (Int.natCast_nonneg _)
  rw [key]
  exact foldM l low 0 []
theorem loop3_eq (most q : Int) (all : List Arr2_Int) (hm : 0 ≤ most) : ∀ (r : List Arr2_Int) (low : Int) (off : Nat), all.drop off = r →
    ∃ low' off' len', loopF (ref32_Take_L3 most (q, all)) (low, off, r.length) = some (.inl (low', off', len')) ∧ low' = (dropR most low (r.map rgOf)).1 ∧ (all.drop off').take len' = (dropR most low (r.map rgOf)).2.map ofRg
  | [], low, off, h => by
    refine ⟨low, off, 0, ?_, rfl, by simp [dropR]⟩
    rw [loopF_stop]
    unfold ref32_Take_L3
    have : decide (most < ((([] : List Arr2_Int).length : Nat) : Int)) = false := by simp; omega
    simp only [this, cond_false]
    rfl
  | x :: r, low, off, h => by
    rw [List.map_cons, dropR, List.length_map]
    have hb : ref32_Take_L3 most (q, all) (low, off, (x :: r).length) = bif decide (most < ((r.length : Int) + 1)) then some (.inl (x.a1, off + 1, r.length)) else some (.inr (.inl (low, off, (x :: r).length))) := by
      unfold ref32_Take_L3
      have e1 : (((x :: r).length : Nat) : Int) = (r.length : Int) + 1 := by simp
      simp only [e1]
      cases decide (most < ((r.length : Int) + 1))
      · rfl
      · simp only [cond_true]
        rw [chk_true (by first | (simp; done) | (simp; omega))]
        have hx : getI all (((off + (0 : Int).toNat : Nat)) : Int) = some x := by
          rw [getI_nat]
          have := congrArg (·[0]?) h
          simpa using this
        rw [bind_some_of hx, chk_true (by simp [cutO]; omega)]
        have e2 : ((r.length : Int) + 1 - 1).toNat = r.length := by omega
        rw [e2]
        rfl
    by_cases h1 : most < ((r.length : Int) + 1)
    · rw [if_pos h1]
      have h2 : decide (most < ((r.length : Int) + 1)) = true := by simpa using h1
      rw [h2] at hb
      rw [loopF_next hb]
      refine loop3_eq most q all hm r x.a1 (off + 1) ?_
      have := congrArg (List.drop 1) h
      rw [List.drop_drop] at this
      simpa using this
    · rw [if_neg h1]
      have h2 : decide (most < ((r.length : Int) + 1)) = false := by simpa using h1
      rw [h2] at hb
      refine ⟨low, off, (x :: r).length, loopF_stop hb, rfl, ?_⟩
      rw [h, List.take_length]
      have := ofRg_rgOf (x :: r)
      exact this.symm
theorem rtake32_eq (low : Int) (l : List Arr2_Int) (n most : Int) (hl : l.length ≤ 1000) : ref32_Take low l n most = some ((takeP low (l.map rgOf) n most).low, (takeP low (l.map rgOf) n most).rs.map ofRg, (takeP low (l.map rgOf) n most).ok) := by
  rw [← rtake_eq]
  unfold rtakeP ref32_Take
  rw [rright_eq low l hl, bind_some_of rfl, rhas_eq low l n hl]
  unfold badT
  have e0 : ∀ b : Bool, some (low, l, false) = some ((if true = true then (⟨low, l.map rgOf, false⟩ : Tk) else ⟨(dropR most (mrg (low, []) (insR (l.map rgOf) n)).1 (mrg (low, []) (insR (l.map rgOf) n)).2).1, (dropR most (mrg (low, []) (insR (l.map rgOf) n)).1 (mrg (low, []) (insR (l.map rgOf) n)).2).2, true⟩).low, (if true = true then (⟨low, l.map rgOf, false⟩ : Tk) else ⟨(dropR most (mrg (low, []) (insR (l.map rgOf) n)).1 (mrg (low, []) (insR (l.map rgOf) n)).2).1, (dropR most (mrg (low, []) (insR (l.map rgOf) n)).1 (mrg (low, []) (insR (l.map rgOf) n)).2).2, true⟩).rs.map ofRg, (if true = true then (⟨low, l.map rgOf, false⟩ : Tk) else ⟨(dropR most (mrg (low, []) (insR (l.map rgOf) n)).1 (mrg (low, []) (insR (l.map rgOf) n)).2).1, (dropR most (mrg (low, []) (insR (l.map rgOf) n)).1 (mrg (low, []) (insR (l.map rgOf) n)).2).2, true⟩).ok) := by
    intro _
    rw [if_pos rfl, ofRg_rgOf]
  cases rightB low (l.map rgOf)
  · simp only [Bool.not_false, cond_true, Bool.true_or]
    exact e0 true
  · simp only [Bool.not_true, cond_false, Bool.false_or]
    by_cases h0 : n < 0
    · simp only [h0, decide_true, cond_true, Bool.true_or]
      exact e0 true
    · by_cases h1 : 1099511627776 ≤ n
      · simp only [h0, h1, decide_true, decide_false, cond_true, cond_false, Bool.true_or, Bool.false_or]
        exact e0 true
      · by_cases h2 : most < 0
        · simp only [h0, h1, h2, decide_true, decide_false, cond_true, cond_false, Bool.true_or, Bool.false_or]
          exact e0 true
        · simp only [h0, h1, h2, decide_false, cond_false, Bool.false_or]
          rw [bind_some_of rfl]
          cases hasB low (l.map rgOf) n
          · simp only [cond_false]
            rw [if_neg (by simp), loop1_eq l n hl (by omega) (by omega), seqF_inl rfl]
            have hil := insA_len n l
            have hin := insA_eq n l
            have e4 : (seqF (A := List Arr2_Int) (bif (!(insA n l).1) then (chkO (decide ((insA n l).2.length + [(Arr2_Int.mk n (IntKind.i64.wrap (n + (1 : Int))))].length ≤ 1000000))).bind fun _ => some (.inl ((insA n l).2 ++ [(Arr2_Int.mk n (IntKind.i64.wrap (n + (1 : Int))))])) else some (.inl (insA n l).2) : Option (List Arr2_Int ⊕ (Int × List Arr2_Int × Bool)))) = seqF (some (.inl (bif (insA n l).1 then (insA n l).2 else (insA n l).2 ++ [⟨n, n + 1⟩]))) := by
              rw [wrap64 (n := n + 1) (by omega) (by omega)]
              cases (insA n l).1
              · simp only [Bool.not_false, cond_true, cond_false]
                rw [chk_true (by simp; omega)]
              · rfl
            simp only
            rw [e4, seqF_inl rfl]
            have hlen : (bif (insA n l).1 then (insA n l).2 else (insA n l).2 ++ [⟨n, n + 1⟩]).length ≤ 2000 := by
              cases (insA n l).1
              · simp; omega
              · simp only [cond_true]; omega
            rw [loop2_eq _ low hlen, seqF_inl rfl, ← hin]
            generalize mrg (low, []) (insR (l.map rgOf) n) = mm
            obtain ⟨a, b, c, g1, g2, g3⟩ := loop3_eq most mm.1 (mm.2.map ofRg) (by omega) (mm.2.map ofRg) mm.1 0 rfl
            simp only
            rw [g1, seqF_inl rfl]
            rw [rgOf_ofRg] at g2 g3
            simp only
            rw [g3, g2]
          · simp only [cond_true]
            exact e0 true
end Go.Proofs.Ytikfbgbfjipceaa

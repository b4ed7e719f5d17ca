/-
  Layer 32, plain law: what Right, Has, Floor, Same of the program and of the reference compute.
-/
import Derived.Test.YtikfbgbfjipceaaG2
import Derived.Test.YtikfbgbfjipceaaEvV
import Derived.Test.YtikfbgbfjipceaaA3
import Derived.Test.YtikfbgbfjipceaaPi
namespace Go.Proofs.Ytikfbgbfjipceaa
open Go.RowKit
def chR : Int → List Rg → Bool
  | _, [] => true
  | last, x :: r => !decide (x.1 ≤ last) && (!decide (x.2 ≤ x.1) && (!decide (1099511627776 < x.2) && chR x.2 r))
theorem not_le_dec (a b : Int) : (!decide (a ≤ b)) = decide (b < a) := by
  by_cases h : a ≤ b
  · simp [h]
  · simp [h]; omega
theorem chR_eq : ∀ (rs : List Rg) (last : Int), last ≤ 1099511627776 → chR last rs = (chainB last rs && decide (lastI last rs ≤ 1099511627776))
  | [], last, h => by simp [chR, chainB, lastI, h]
  | x :: r, last, h => by
    rw [chR, chainB, show decide (lastI last (x :: r) ≤ 1099511627776) = decide (lastI x.2 r ≤ 1099511627776) from rfl, not_le_dec, not_le_dec]
    by_cases h2 : x.2 ≤ 1099511627776
    · rw [chR_eq r x.2 h2]
      have : decide (1099511627776 < x.2) = false := by simpa using h2
      rw [this]
      cases decide (last < x.1) <;> cases decide (x.1 < x.2) <;> simp
    · have h3 : decide (1099511627776 < x.2) = true := by simp; omega
      rw [h3]
      cases hc : chainB x.2 r
      · simp
      · have := chain_last_le r x.2 hc
        have h4 : decide (lastI x.2 r ≤ 1099511627776) = false := by simp; omega
        rw [h4]
        simp
theorem foldR : ∀ (l : List Arr2_Int) (s : Int × Int), foldL (fun (x : Arr2_Int) (s : Int × Int) => bif decide (x.a0 ≤ s.1) then some (.inr (.inr false)) else bif decide (x.a1 ≤ x.a0) then some (.inr (.inr false)) else bif decide ((1099511627776 : Int) < x.a1) then some (.inr (.inr false)) else some (.inl (x.a1, s.2 + 1))) (fun _ => some (.inl ())) l s = some (bif chR s.1 (l.map rgOf) then (.inl () : Unit ⊕ Bool) else .inr false)
  | [], s => rfl
  | x :: l, s => by
    rw [foldL, List.map_cons, chR, show decide ((rgOf x).1 ≤ s.1) = decide (x.a0 ≤ s.1) from rfl, show decide ((rgOf x).2 ≤ (rgOf x).1) = decide (x.a1 ≤ x.a0) from rfl, show decide ((1099511627776 : Int) < (rgOf x).2) = decide ((1099511627776 : Int) < x.a1) from rfl, show chR (rgOf x).2 (l.map rgOf) = chR x.a1 (l.map rgOf) from rfl]
    cases h1 : decide (x.a0 ≤ s.1)
    · cases h2 : decide (x.a1 ≤ x.a0)
      · cases h3 : decide ((1099511627776 : Int) < x.a1)
        · simp only [cond_false, foldR l]
          simp only [Bool.not_false, Bool.true_and]
        · simp only [Bool.not_false, Bool.true_and, Bool.not_true, Bool.false_and, cond_false, cond_true]
      · simp only [Bool.not_false, Bool.true_and, Bool.not_true, Bool.false_and, cond_false, cond_true]
    · simp only [Bool.not_true, Bool.false_and, cond_false, cond_true]
theorem rright_loop (l : List Arr2_Int) (hl : l.length ≤ 1000) (last : Int) : loopF (ref32_Right_L1 l) (last, 0) = some (bif chR last (l.map rgOf) then .inl () else .inr false) := by
  have key := loopF_range (body := ref32_Right_L1 l) l (fun s => s.2) (fun (x : Arr2_Int) (s : Int × Int) => bif decide (x.a0 ≤ s.1) then some (.inr (.inr false)) else bif decide (x.a1 ≤ x.a0) then some (.inr (.inr false)) else bif decide ((1099511627776 : Int) < x.a1) then some (.inr (.inr false)) else some (.inl (x.a1, s.2 + 1))) (fun _ => .inl ()) (fun _ => True)
    (fun s x _ h0 hx => by
      have hlt : s.2.toNat < l.length := (List.getElem?_eq_some_iff.1 hx).1
      have h1 : s.2 < (l.length : Int) := by omega
      unfold ref32_Right_L1
      simp only [h1, decide_true, cond_true]
      rw [bind_some_of ((getI_of h0).trans hx), wrap64 (by omega) (by omega)])
    (fun s _ hi => by
      unfold ref32_Right_L1
      simp only [hi, Int.lt_irrefl, decide_false, cond_false])
    (fun x s s' _ h0 h1 hf => by
      revert hf
      cases decide (x.a0 ≤ s.1) <;> cases decide (x.a1 ≤ x.a0) <;> cases decide ((1099511627776 : Int) < x.a1) <;> simp only [cond_true, cond_false] <;> intro hf <;> cases hf
      exact ⟨rfl, trivial⟩)
    (last, 0) trivial (Int.le_refl _) (Int.natCast_nonneg _)
  rw [key]
  exact foldR l (last, 0)
theorem rright_eq (low : Int) (l : List Arr2_Int) (hl : l.length ≤ 1000) : ref32_Right low l = some (rightB low (l.map rgOf)) := by
  unfold ref32_Right rightB
  by_cases h1 : low < 0
  · simp [h1]
    omega
  · by_cases h2 : 1099511627776 < low
    · have h4 : decide (low ≤ 1099511627776) = false := by simp; omega
      simp [h1, h2, h4]
    · have h4 : low ≤ 1099511627776 := by omega
      have h5 : 0 ≤ low := by omega
      simp only [h1, h2, decide_false, cond_false, h4, h5, decide_true, Bool.and_true]
      rw [rright_loop l hl low, chR_eq _ _ h4]
      cases chainB low (l.map rgOf) && decide (lastI low (l.map rgOf) ≤ 1099511627776) <;> rfl
theorem foldO : ∀ (l : List Arr2_Int) (s : Int × Int), foldL (fun (x : Arr2_Int) (s : Int × Int) => bif decide (x.a0 ≤ s.1) then some (.inr (.inr false)) else bif decide (x.a1 ≤ x.a0) then some (.inr (.inr false)) else some (.inl (x.a1, s.2 + 1))) (fun s => some (.inl s.1)) l s = some (bif chainB s.1 (l.map rgOf) then (.inl (lastI s.1 (l.map rgOf)) : Int ⊕ Bool) else .inr false)
  | [], s => rfl
  | x :: l, s => by
    rw [foldL, List.map_cons, chainB, lastI, ← not_le_dec, ← not_le_dec, show decide ((rgOf x).1 ≤ s.1) = decide (x.a0 ≤ s.1) from rfl, show decide ((rgOf x).2 ≤ (rgOf x).1) = decide (x.a1 ≤ x.a0) from rfl, show chainB (rgOf x).2 (l.map rgOf) = chainB x.a1 (l.map rgOf) from rfl, show lastI (rgOf x).2 (l.map rgOf) = lastI x.a1 (l.map rgOf) from rfl]
    cases h1 : decide (x.a0 ≤ s.1)
    · cases h2 : decide (x.a1 ≤ x.a0)
      · simp only [cond_false, foldO l]
        simp only [Bool.not_false, Bool.true_and]
      · simp only [Bool.not_false, Bool.true_and, Bool.not_true, Bool.false_and, cond_false, cond_true]
    · simp only [Bool.not_true, Bool.false_and, cond_false, cond_true]
theorem oright_loop (m : once_List) (hl : m.Ranges.length ≤ 1000) (last : Int) : loopF (once_Right_L1 m) (last, 0) = some (bif chainB last (m.Ranges.map rgOf) then .inl (lastI last (m.Ranges.map rgOf)) else .inr false) := by
  have key := loopF_range (body := once_Right_L1 m) m.Ranges (fun s => s.2) (fun (x : Arr2_Int) (s : Int × Int) => bif decide (x.a0 ≤ s.1) then some (.inr (.inr false)) else bif decide (x.a1 ≤ x.a0) then some (.inr (.inr false)) else some (.inl (x.a1, s.2 + 1))) (fun s => .inl s.1) (fun _ => True)
    (fun s x _ h0 hx => by
      have hlt : s.2.toNat < m.Ranges.length := (List.getElem?_eq_some_iff.1 hx).1
      have h1 : s.2 < (m.Ranges.length : Int) := by omega
      unfold once_Right_L1
      simp only [h1, decide_true, cond_true]
      rw [bind_some_of ((getI_of h0).trans hx), wrap64 (by omega) (by omega)])
    (fun s _ hi => by
      unfold once_Right_L1
      simp only [hi, Int.lt_irrefl, decide_false, cond_false])
    (fun x s s' _ h0 h1 hf => by
      revert hf
      cases decide (x.a0 ≤ s.1) <;> cases decide (x.a1 ≤ x.a0) <;> simp only [cond_true, cond_false] <;> intro hf <;> cases hf
      exact ⟨rfl, trivial⟩)
    (last, 0) trivial (Int.le_refl _) (Int.natCast_nonneg _)
  rw [key]
  exact foldO m.Ranges (last, 0)
theorem oright_eq (m : once_List) (hl : m.Ranges.length ≤ 1000) : once_Right m = some (rightB m.Low (m.Ranges.map rgOf)) := by
  unfold once_Right rightB
  rw [oright_loop m hl]
  cases chainB m.Low (m.Ranges.map rgOf)
  · rfl
  · simp only [cond_true, Bool.true_and]
    rw [seqF_inl rfl]
    cases decide (0 ≤ m.Low) <;> cases decide (m.Low ≤ 1099511627776) <;> rfl
theorem any_map_rg (l : List Arr2_Int) (n : Int) : (l.map rgOf).any (fun x => decide (x.1 ≤ n) && decide (n < x.2)) = l.any fun x => decide (x.a0 ≤ n) && decide (n < x.a1) := by
  rw [List.any_map]
  rfl
theorem rhas_eq (low : Int) (l : List Arr2_Int) (n : Int) (hl : l.length ≤ 1000) : ref32_Has low l n = some (hasB low (l.map rgOf) n) := by
  unfold ref32_Has hasB inB
  rw [rright_eq low l hl, bind_some_of rfl, any_map_rg]
  cases rightB low (l.map rgOf)
  · rfl
  · simp only [Bool.not_true, cond_false, Bool.true_and]
    cases decide (n < low)
    · simp only [cond_false, Bool.false_or]
      have key := loopF_all (body := ref32_Has_L1 l n) l (fun x => !(decide (x.a0 ≤ n) && decide (n < x.a1))) true (fun i x h0 hlt hx => by
          unfold ref32_Has_L1
          simp only [hlt, decide_true, cond_true]
          rw [bind_some_of ((getI_of h0).trans hx), wrap64 (by omega) (by omega)]
          cases decide (x.a0 ≤ n) <;> cases decide (n < x.a1) <;> rfl)
        (by unfold ref32_Has_L1; simp only [Int.lt_irrefl, decide_false, cond_false])
      rw [key, ← List.not_any_eq_all_not]
      cases l.any fun x => decide (x.a0 ≤ n) && decide (n < x.a1) <;> rfl
    · rfl
theorem mid_eq (a b : Nat) (h : a + b ≤ 100000) : IntKind.i64.wrap (Int.fdiv (IntKind.u64.wrap (IntKind.i64.wrap ((a : Int) + (b : Int)))) (2 ^ (min (1 : Int).toNat (IntKind.bits .u64)))) = (((a + b) / 2 : Nat) : Int) := by
  have h1 : (2 : Int) ^ (min (1 : Int).toNat (IntKind.bits .u64)) = 2 := rfl
  rw [h1, wrap64 (n := (a : Int) + (b : Int)) (by omega) (by omega), IntWalk.u64_in ((a : Int) + (b : Int)) (by omega), Int.fdiv_eq_ediv_of_nonneg _ (by omega), wrap64 (by omega) (by omega)]
  omega
theorem search_eq (n : Nat) (hn : n ≤ 1000) (p : Nat → Bool) (f : Int → Option Bool) (hf : ∀ i : Nat, i < n → f (i : Int) = some (p i)) (mono : ∀ a b, a ≤ b → b < n → p a = true → p b = true) :
    ∃ k : Nat, sort_Search (n : Int) f = some (k : Int) ∧ k ≤ n ∧ (∀ i, i < k → p i = false) ∧ ∀ i, k ≤ i → i < n → p i = true := by
  have key := loopF_by (body := sort_Search_L1 f) (fun s => ∃ a b : Nat, s = ((a : Int), (b : Int)) ∧ a ≤ b ∧ b ≤ n ∧ (∀ i, i < a → p i = false) ∧ ∀ i, b ≤ i → i < n → p i = true) (fun s => (s.2 - s.1).toNat)
    (fun _ r => ∃ k : Nat, r = some (.inl (k : Int)) ∧ k ≤ n ∧ (∀ i, i < k → p i = false) ∧ ∀ i, k ≤ i → i < n → p i = true)
    (by
      rintro s ⟨a, b, rfl, hab, hbn, h1, h2⟩
      by_cases hlt : a < b
      · have hm : (a + b) / 2 < n := by omega
        have hlt' : decide ((a : Int) < (b : Int)) = true := by simp; omega
        unfold sort_Search_L1
        simp only [hlt', cond_true]
        rw [mid_eq a b (by omega), hf _ hm, bind_some_of rfl]
        cases hp : p ((a + b) / 2)
        · refine Or.inl ⟨_, rfl, ⟨(a + b) / 2 + 1, b, ?_, by omega, hbn, fun i hi => ?_, h2⟩, ?_, fun r hr => hr⟩
          · rw [wrap64 (by omega) (by omega)]
            rfl
          · cases hpi : p i
            · rfl
            · exact absurd (mono i ((a + b) / 2) (by omega) hm hpi) (by rw [hp]; simp)
          · show (_ - IntKind.i64.wrap _).toNat < _
            rw [wrap64 (by omega) (by omega)]
            simp only
            omega
        · refine Or.inl ⟨_, rfl, ⟨a, (a + b) / 2, rfl, by omega, by omega, h1, fun i hi hin => mono _ _ hi hin hp⟩, ?_, fun r hr => hr⟩
          show ((((a + b) / 2 : Nat) : Int) - (a : Int)).toNat < ((b : Int) - (a : Int)).toNat
          omega
      · have hlt' : decide ((a : Int) < (b : Int)) = false := by simp; omega
        unfold sort_Search_L1
        simp only [hlt', cond_false]
        have : a = b := by omega
        subst this
        exact Or.inr ⟨_, rfl, a, rfl, hbn, h1, h2⟩)
    (0, (n : Int)) ⟨0, n, rfl, by omega, by omega, fun i hi => absurd hi (by omega), fun i hi hin => absurd hin (by omega)⟩
  obtain ⟨k, h1, h2⟩ := key
  refine ⟨k, ?_, h2⟩
  unfold sort_Search
  rw [seqF_inl h1]
theorem oat_eq (m : once_List) (n : Int) (hl : m.Ranges.length ≤ 1000) (hc : chainB m.Low (m.Ranges.map rgOf) = true) : once_at m n = some ((atN (m.Ranges.map rgOf) n : Nat) : Int) := by
  obtain ⟨k, h1, h2, h3, h4⟩ := search_eq m.Ranges.length hl (endsAfter (m.Ranges.map rgOf) n) (fun a0 => once_at_1 a0 m n) (fun i hi => by
      unfold once_at_1
      rw [getI_nat, List.getElem?_eq_getElem hi, bind_some_of rfl]
      simp [endsAfter, List.getElem?_eq_getElem hi, rgOf]) (fun a b hab hb h => chain_mono _ _ n hc a b hab (by simpa using hb) h)
  unfold once_at
  rw [h1, bind_some_of rfl, atN_eq _ n k (by simpa using h2) h3 (fun i hi hil => h4 i hi (by simpa using hil))]
theorem ohas_eq (m : once_List) (n : Int) (hl : m.Ranges.length ≤ 1000) : once_Has m n = some (hasB m.Low (m.Ranges.map rgOf) n) := by
  unfold once_Has hasB inB
  rw [oright_eq m hl, bind_some_of rfl]
  cases hr : rightB m.Low (m.Ranges.map rgOf)
  · rfl
  · have hc : chainB m.Low (m.Ranges.map rgOf) = true := by simp only [rightB, Bool.and_eq_true] at hr; exact hr.1.1.1
    rw [oat_eq m n hl hc, bind_some_of rfl, in_at _ _ n hc]
    simp only [Bool.not_true, cond_false, Bool.true_and]
    cases decide (n < m.Low)
    · simp only [cond_false, Bool.false_or]
      have hle := atN_le (m.Ranges.map rgOf) n
      rw [List.length_map] at hle
      generalize atN (m.Ranges.map rgOf) n = k at hle ⊢
      rw [getI_nat, List.getElem?_map]
      by_cases hk : k < m.Ranges.length
      · have h1 : decide ((k : Int) < (m.Ranges.length : Int)) = true := by simp; omega
        rw [h1, List.getElem?_eq_getElem hk]
        rfl
      · have h1 : decide ((k : Int) < (m.Ranges.length : Int)) = false := by simp; omega
        rw [h1, List.getElem?_eq_none (by omega)]
        rfl
    · rfl
theorem ofloor_eq (m : once_List) (hl : m.Ranges.length ≤ 1000) : once_Floor m = some (bif rightB m.Low (m.Ranges.map rgOf) then m.Low else -1) := by
  unfold once_Floor
  rw [oright_eq m hl, bind_some_of rfl]
  cases rightB m.Low (m.Ranges.map rgOf) <;> rfl
theorem rsame_eq (a : List Arr2_Int) (hl : a.length ≤ 1000) : ref32_Same a a = some true := by
  unfold ref32_Same
  have h1 : ((a.length : Int) != (a.length : Int)) = false := by simp
  rw [h1]
  have key := loopF_all (body := ref32_Same_L1 a a) a (fun _ => true) false (fun i x h0 hlt hx => by
      unfold ref32_Same_L1
      simp only [hlt, decide_true, cond_true]
      rw [bind_some_of ((getI_of h0).trans hx), bind_some_of ((getI_of h0).trans hx), wrap64 (by omega) (by omega)]
      simp)
    (by unfold ref32_Same_L1; simp only [Int.lt_irrefl, decide_false, cond_false])
  simp only [cond_false]
  rw [key]
  have : a.all (fun _ => true) = true := by simp
  rw [this]
  rfl
theorem lsame_eq (m : once_List) (hl : m.Ranges.length ≤ 1000) : law32_same m m = some true := by
  unfold law32_same
  rw [rsame_eq _ hl]
  simp
end Go.Proofs.Ytikfbgbfjipceaa

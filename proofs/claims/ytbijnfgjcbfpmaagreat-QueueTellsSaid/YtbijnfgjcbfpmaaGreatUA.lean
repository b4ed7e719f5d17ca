/-
  Layer 30, plain law: deleting what a test names from a list.
  Layer 30, plain law: right entries, queues, what Same and the limits say.
  Layer 30, plain law: the entries of a network, in the order of the text.
  Layer 30, plain law: the sort of a network's entries.
  Layer 30, plain law: a step of the link.
  Layer 30, plain law: what a step of the link returns.
  Layer 30, plain law: totals; whether an entry is among those that are done.
  Layer 30, plain law: how many places a step gives.
  Layer 30, plain law: each entry is done, or stays.
  Layer 30, plain law: to whom a step gives, and what is done.
-/
import Derived.Test.YtbijnfgjcbfpmaaGreatG4
import Derived.Test.YtbijnfgjcbfpmaaGreatEvV
namespace Go.Proofs.YtbijnfgjcbfpmaaGreat
open Go.RowKit
theorem chk_true {b : Bool} (h : b = true) {B : Type} {k : Unit → Option B} : (chkO b).bind k = k () := by rw [h]; rfl
def w0 : api_Waiting := ⟨0, 0, 0, 0⟩
theorem indexF_eq (l : List api_Waiting) (hl : l.length ≤ 1000) (p : api_Waiting → Bool) :
    slices_IndexFunc_api_Waiting_api_Waiting l (fun w => some (p w)) = some (match l.findIdx? p with | some i => (i : Int) | none => -1) := by
  have key := loopF_inv (body := slices_IndexFunc_api_Waiting_api_Waiting_L1 l (fun w => some (p w))) l.length (fun i s => s = (i : Int) ∧ ∀ k, k < i → p (l.getD k w0) = false)
    (fun r => r = some (match l.findIdx? p with | some i => .inr (i : Int) | none => .inl ()))
    (by
      rintro i s hi ⟨rfl, hp⟩
      have hlt : decide ((i : Int) < (l.length : Int)) = true := by simp; omega
      unfold slices_IndexFunc_api_Waiting_api_Waiting_L1
      simp only [hlt, cond_true]
      rw [bind_some_of (getI_in w0 hi), bind_some_of rfl]
      cases hpi : p (l.getD i w0)
      · refine Or.inl ⟨(i : Int) + 1, ?_, rfl, fun k hk => ?_⟩
        · simp only [cond_false]
          rw [wrap64 (by omega) (by omega)]
        · by_cases hki : k = i
          · rw [hki]; exact hpi
          · exact hp k (by omega)
      · refine Or.inr ⟨_, rfl, ?_⟩
        have : l.findIdx? p = some i := by
          rw [List.findIdx?_eq_some_iff_getElem]
          refine ⟨hi, ?_, fun k hk => ?_⟩
          · rw [List.getD_eq_getElem?_getD, List.getElem?_eq_getElem hi] at hpi
            exact hpi
          · have := hp k hk
            rw [List.getD_eq_getElem?_getD, List.getElem?_eq_getElem (by omega)] at this
            simpa using this
        rw [this])
    (by
      rintro s ⟨rfl, hp⟩
      refine ⟨.inl (), ?_, ?_⟩
      · unfold slices_IndexFunc_api_Waiting_api_Waiting_L1
        simp only [Int.lt_irrefl, decide_false, cond_false]
      · have : l.findIdx? p = none := by
          rw [List.findIdx?_eq_none_iff]
          intro x hx
          obtain ⟨k, hk, rfl⟩ := List.getElem_of_mem hx
          have := hp k hk
          rw [List.getD_eq_getElem?_getD, List.getElem?_eq_getElem hk] at this
          exact this
        rw [this])
    (s0 := (0 : Int)) ⟨rfl, fun k hk => absurd hk (by omega)⟩
  unfold slices_IndexFunc_api_Waiting_api_Waiting
  rw [key]
  cases l.findIdx? p <;> rfl
theorem filter_take_succ (l : List api_Waiting) (q : api_Waiting → Bool) (i : Nat) (h : i < l.length) : (l.take (i + 1)).filter q = (l.take i).filter q ++ bif q (l.getD i w0) then [l.getD i w0] else [] := by
  rw [take_succ_getD l w0 h, List.filter_append]
  generalize l.getD i w0 = x
  congr 1
theorem deleteF_eq (l : List api_Waiting) (hl : l.length ≤ 1000) (p : api_Waiting → Bool) :
    slices_DeleteFunc_api_Waiting_api_Waiting l (fun w => some (p w)) = some (l.filter fun w => !p w) := by
  unfold slices_DeleteFunc_api_Waiting_api_Waiting
  rw [indexF_eq l hl p, bind_some_of rfl]
  cases hf : l.findIdx? p with
  | none =>
    simp only [beq_self_eq_true, cond_true]
    rw [List.findIdx?_eq_none_iff] at hf
    rw [List.filter_eq_self.2]
    intro x hx
    rw [hf x hx]
    rfl
  | some i0 =>
    rw [List.findIdx?_eq_some_iff_getElem] at hf
    obtain ⟨hi0, hp0, hbef⟩ := hf
    have hne : ((i0 : Int) == -1) = false := by simp <;> omega
    simp only [hne, cond_false]
    have hfirst : (l.take (i0 + 1)).filter (fun w => !p w) = l.take i0 := by
      rw [filter_take_succ l _ i0 hi0]
      have : p (l.getD i0 w0) = true := by rw [List.getD_eq_getElem?_getD, List.getElem?_eq_getElem hi0]; exact hp0
      rw [this]
      simp only [Bool.not_true, cond_false, List.append_nil]
      rw [List.filter_eq_self]
      intro x hx
      obtain ⟨k, hk, rfl⟩ := List.getElem_of_mem hx
      simp only [List.length_take] at hk
      rw [List.getElem_take]
      have := hbef k (by omega)
      simpa using this
    have key := loopF_inv (body := slices_DeleteFunc_api_Waiting_api_Waiting_L1 (fun w => some (p w))) (l.length - (i0 + 1))
      (fun k s => ∃ (i : Nat) (arr : List api_Waiting), s = ((i : Int), ((i0 + 1 + k : Nat) : Int), arr) ∧ arr.length = l.length ∧ i < i0 + 1 + k ∧ arr.take i = (l.take (i0 + 1 + k)).filter (fun w => !p w) ∧ ∀ m, i0 + 1 + k ≤ m → arr.getD m w0 = l.getD m w0)
      (fun r => ∃ (i : Nat) (arr : List api_Waiting), r = some (.inl ((i : Int), arr)) ∧ arr.length = l.length ∧ i ≤ arr.length ∧ arr.take i = l.filter (fun w => !p w))
      (by
        rintro k s hk ⟨i, arr, rfl, hlen, hij, htk, hrest⟩
        have hj : i0 + 1 + k < l.length := by omega
        have hja : i0 + 1 + k < arr.length := by omega
        left
        unfold slices_DeleteFunc_api_Waiting_api_Waiting_L1
        have c1 : decide (((i0 + 1 + k : Nat) : Int) < ((arr.length : Nat) : Int)) = true := by simp; omega
        have c2 : decide ((0 : Int) ≤ ((i0 + 1 + k : Nat) : Int)) = true := by simp; omega
        have c3 : decide ((0 : Int) ≤ (i : Int)) = true := by simp
        have c4 : decide ((i : Int) < ((arr.length : Nat) : Int)) = true := by simp; omega
        simp only [c1, c2, c3, c4, cond_true, Bool.and_self, chkO_true]
        rw [bind_some_of (getI_in w0 hja), bind_some_of rfl, wrap64 (n := ((i0 + 1 + k : Nat) : Int) + 1) (by omega) (by omega), hrest _ (Nat.le_refl _)]
        have hst := filter_take_succ l (fun w => !p w) (i0 + 1 + k) hj
        cases hpj : p (l.getD (i0 + 1 + k) w0)
        · simp only [Bool.not_false, cond_true]
          rw [bind_some_of (getI_in w0 (show i < arr.length by omega)), wrap64 (n := (i : Int) + 1) (by omega) (by omega)]
          refine ⟨_, rfl, i + 1, arr.set i (l.getD (i0 + 1 + k) w0), by simp; omega, by simp [hlen], by omega, ?_, fun m hm => ?_⟩
          · rw [show i0 + 1 + (k + 1) = i0 + 1 + k + 1 from rfl, hst, hpj]
            simp only [Bool.not_false, cond_true]
            rw [← htk, take_succ_getD _ w0 (by simp; omega)]
            simp [List.getD_eq_getElem?_getD, show i < arr.length by omega, List.take_set_of_le]
          · rw [← hrest m (by omega)]
            simp [List.getD_eq_getElem?_getD, show ¬ i = m by omega]
        · simp only [Bool.not_true, cond_false]
          refine ⟨_, rfl, i, arr, by simp; omega, hlen, by omega, ?_, fun m hm => hrest m (by omega)⟩
          rw [show i0 + 1 + (k + 1) = i0 + 1 + k + 1 from rfl, hst, hpj]
          simp only [Bool.not_true, cond_false, List.append_nil]
          exact htk)
      (by
        rintro s ⟨i, arr, rfl, hlen, hij, htk, hrest⟩
        refine ⟨.inl ((i : Int), arr), ?_, i, arr, rfl, hlen, by omega, ?_⟩
        · unfold slices_DeleteFunc_api_Waiting_api_Waiting_L1
          have c1 : decide (((i0 + 1 + (l.length - (i0 + 1)) : Nat) : Int) < ((arr.length : Nat) : Int)) = false := by simp; omega
          simp only [c1, cond_false]
        · rw [htk]
          congr 1
          apply List.take_of_length_le
          omega)
      (s0 := ((i0 : Int), IntKind.i64.wrap ((i0 : Int) + 1), l)) ⟨i0, l, by rw [wrap64 (by omega) (by omega)]; rfl, rfl, by omega, hfirst.symm, fun m hm => rfl⟩
    obtain ⟨i, arr, h1, h2, h3, h4⟩ := key
    rw [h1, seqF_inl rfl]
    simp only
    rw [chk_true (by simp [cutO]; omega), chk_true (by simp [cutO]; omega)]
    congr 1
    rw [← h4]
    have e1 : ((i : Int) - 0).toNat = i := by omega
    have e2 : (arr.take i).length = i := by rw [List.length_take]; omega
    rw [e1, Int.toNat_natCast, List.append_assoc, List.take_append_of_le_length (by omega), List.take_of_length_le (by omega)]
end Go.Proofs.YtbijnfgjcbfpmaaGreat
namespace Go.Proofs.YtbijnfgjcbfpmaaGreat
open Go.RowKit
def okW (w : api_Waiting) : Bool := decide (0 ≤ w.Event) && decide (w.Event ≤ 99999) && decide (0 ≤ w.Net) && decide (w.Net ≤ 11) && decide (1 ≤ w.Left) && decide (w.Left ≤ 1099511627776) && decide (0 ≤ w.Due) && decide (w.Due ≤ 1073741824)
def isW (e n : Int) (w : api_Waiting) : Bool := w.Event == e && w.Net == n
def hasW (l : List api_Waiting) (e n : Int) : Bool := l.any (isW e n)
def oneW (l : List api_Waiting) (i : Nat) : Bool := okW (l.getD i w0) && !hasW (l.take i) (l.getD i w0).Event (l.getD i w0).Net
def queueB (l : List api_Waiting) : Bool := (List.range l.length).all (oneW l)
theorem queue_right_eq (w : api_Waiting) : queue_right w = some (okW w) := by
  unfold queue_right queue_to okW
  cases decide (0 ≤ w.Event) <;> cases decide (w.Event ≤ 99999) <;> cases decide (0 ≤ w.Net) <;> cases decide (w.Net ≤ 11) <;> cases decide (1 ≤ w.Left) <;> cases decide (w.Left ≤ 1099511627776) <;> cases decide (0 ≤ w.Due) <;> rfl
theorem ref30_Entry_eq (w : api_Waiting) : ref30_Entry w = some (okW w) := by
  unfold ref30_Entry okW
  cases decide (0 ≤ w.Event) <;> cases decide (w.Event ≤ 99999) <;> cases decide (0 ≤ w.Net) <;> cases decide (w.Net ≤ 11) <;> cases decide (1 ≤ w.Left) <;> cases decide (w.Left ≤ 1099511627776) <;> cases decide (0 ≤ w.Due) <;> rfl
theorem queue_has_1_eq (e n : Int) : (fun a0 => queue_has_1 a0 e n) = fun w => some (isW e n w) := by
  funext w
  unfold queue_has_1 isW
  cases w.Event == e <;> rfl
theorem queue_has_eq (l : List api_Waiting) (hl : l.length ≤ 1000) (e n : Int) : queue_has l e n = some (hasW l e n) := by
  unfold queue_has slices_ContainsFunc_api_Waiting_api_Waiting hasW
  rw [queue_has_1_eq, indexF_eq l hl, bind_some_of rfl]
  have h := List.findIdx?_isSome (xs := l) (p := isW e n)
  cases hf : l.findIdx? (isW e n) with
  | none => rw [hf] at h; rw [← h]; rfl
  | some i => rw [hf] at h; rw [← h]; simp
theorem queue_queue_eq (l : List api_Waiting) (hl : l.length ≤ 1000) : queue_queue l = some (queueB l) := by
  have key := loopF_idx (body := queue_queue_L1 l) l.length (oneW l) false (fun i hi => by
      have hlt : decide ((i : Int) < (l.length : Int)) = true := by simp; omega
      unfold queue_queue_L1 oneW
      simp only [hlt, cond_true]
      rw [bind_some_of (getI_in w0 hi), queue_right_eq, bind_some_of rfl, wrap64 (by omega) (by omega)]
      cases okW (l.getD i w0)
      · rfl
      · simp only [Bool.not_true, cond_false, Bool.true_and]
        rw [chk_true (by simp [cutO]; omega)]
        have e1 : List.drop (0 : Int).toNat (List.take (i : Int).toNat l) = l.take i := by simp
        rw [e1, queue_has_eq _ (by rw [List.length_take]; omega), bind_some_of rfl]
        cases hasW (l.take i) (l.getD i w0).Event (l.getD i w0).Net <;> rfl)
    (by
      unfold queue_queue_L1
      simp only [Int.lt_irrefl, decide_false, cond_false])
  unfold queue_queue queueB
  rw [key]
  cases (List.range l.length).all (oneW l) <;> rfl
theorem ref30_At_eq (l : List api_Waiting) (hl : l.length ≤ 1000) (e n : Int) : ref30_At l e n = some (match l.findIdx? (isW e n) with | some i => (i : Int) | none => -1) := by
  have same : ref30_At_L1 l e n = slices_IndexFunc_api_Waiting_api_Waiting_L1 l (fun w => some (isW e n w)) := by
    funext s
    unfold ref30_At_L1 slices_IndexFunc_api_Waiting_api_Waiting_L1
    congr 1
    congr 1
    funext x
    rw [bind_some_of rfl]
    unfold isW
    cases x.Event == e <;> cases x.Net == n <;> rfl
  have := indexF_eq l hl (isW e n)
  unfold slices_IndexFunc_api_Waiting_api_Waiting at this
  unfold ref30_At
  rw [same]
  exact this
theorem ref30_Right_eq (l : List api_Waiting) (hl : l.length ≤ 1000) : ref30_Right l = some (queueB l) := by
  have key := loopF_idx (body := ref30_Right_L1 l) l.length (oneW l) false (fun i hi => by
      have hlt : decide ((i : Int) < (l.length : Int)) = true := by simp; omega
      unfold ref30_Right_L1 oneW
      simp only [hlt, cond_true]
      rw [bind_some_of (getI_in w0 hi), ref30_Entry_eq, bind_some_of rfl, wrap64 (by omega) (by omega)]
      cases okW (l.getD i w0)
      · rfl
      · simp only [Bool.not_true, cond_false, Bool.true_and]
        rw [ref30_At_eq l hl, bind_some_of rfl]
        generalize hx : l.getD i w0 = x
        have hxi : l[i] = x := by rw [← hx, List.getD_eq_getElem?_getD, List.getElem?_eq_getElem hi]; rfl
        have hself : isW x.Event x.Net l[i] = true := by rw [hxi]; simp [isW]
        cases hh : hasW (l.take i) x.Event x.Net
        · have : l.findIdx? (isW x.Event x.Net) = some i := by
            rw [List.findIdx?_eq_some_iff_getElem]
            refine ⟨hi, hself, fun k hk => ?_⟩
            unfold hasW at hh
            rw [List.any_eq_false] at hh
            exact hh _ (by rw [List.mem_take_iff_getElem]; exact ⟨k, by omega, rfl⟩)
          rw [this]
          simp
        · unfold hasW at hh
          rw [List.any_eq_true] at hh
          obtain ⟨y, hy, hyw⟩ := hh
          rw [List.mem_take_iff_getElem] at hy
          obtain ⟨k, hk, rfl⟩ := hy
          cases hf : l.findIdx? (isW x.Event x.Net) with
          | none =>
            rw [List.findIdx?_eq_none_iff] at hf
            rw [hf _ (List.getElem_mem (by omega))] at hyw
            cases hyw
          | some j =>
            rw [List.findIdx?_eq_some_iff_getElem] at hf
            obtain ⟨hj, hjp, hjb⟩ := hf
            have hjk : j ≤ k := by
              rcases Nat.lt_or_ge k j with h | h
              · exact absurd hyw (hjb k h)
              · exact h
            have : ((j : Int) != (i : Int)) = true := by simp; omega
            simp only [this, cond_true, Bool.not_true, cond_false])
    (by
      unfold ref30_Right_L1
      simp only [Int.lt_irrefl, decide_false, cond_false])
  unfold ref30_Right queueB
  rw [key]
  cases (List.range l.length).all (oneW l) <;> rfl
theorem ref30_Few_eq (p : api_Profile) (l : List api_Waiting) (n : Int) : ref30_Few p l n = some (decide ((l.length : Int) ≤ n) && decide (p.Window ≤ 1000) && decide ((p.Types.length : Int) ≤ 20)) := by
  unfold ref30_Few
  cases decide ((l.length : Int) ≤ n) <;> cases decide (p.Window ≤ 1000) <;> rfl
theorem ref30_Same_refl (l : List api_Waiting) (hl : l.length ≤ 2000) : ref30_Same l l = some true := by
  unfold ref30_Same
  have h1 : ((l.length : Int) != (l.length : Int)) = false := by simp
  rw [h1]
  have key := loopF_all (body := ref30_Same_L1 l l) l (fun _ => true) false (fun i x h0 hlt hx => by
      unfold ref30_Same_L1
      simp only [hlt, decide_true, cond_true]
      rw [bind_some_of ((getI_of h0).trans hx), bind_some_of ((getI_of h0).trans hx), wrap64 (by omega) (by omega)]
      simp)
    (by unfold ref30_Same_L1; simp only [Int.lt_irrefl, decide_false, cond_false])
  simp only [cond_false]
  rw [key]
  have : l.all (fun _ => true) = true := by simp
  rw [this]
  rfl
end Go.Proofs.YtbijnfgjcbfpmaaGreat
namespace Go.Proofs.YtbijnfgjcbfpmaaGreat
open Go.RowKit
/-- the indices of a network's entries -/
def idxs (net : Int) (l : List api_Waiting) (n : Nat) : List Int := ((List.range n).filter fun i => (l.getD i w0).Net == net).map fun (i : Nat) => ((i : Nat) : Int)
theorem idxs_succ (net : Int) (l : List api_Waiting) (n : Nat) : idxs net l (n + 1) = idxs net l n ++ bif (l.getD n w0).Net == net then [(n : Int)] else [] := by
  unfold idxs
  rw [List.range_succ, List.filter_append, List.map_append]
  congr 1
  have e : (List.filter (fun i => (l.getD i w0).Net == net) [n]) = bif (l.getD n w0).Net == net then [n] else [] := rfl
  rw [e]
  cases (l.getD n w0).Net == net <;> rfl
theorem idxs_len (net : Int) (l : List api_Waiting) (n : Nat) : (idxs net l n).length ≤ n := by
  unfold idxs
  rw [List.length_map]
  have := List.length_filter_le (fun i => (l.getD i w0).Net == net) (List.range n)
  simpa using this
theorem step_L1_eq (l : List api_Waiting) (hl : l.length ≤ 1000) (net : Int) : loopF (queue_Step_L1 l net) (0, []) = some (.inl (idxs net l l.length)) := by
  refine loopF_inv (body := queue_Step_L1 l net) l.length (fun i s => s = ((i : Int), idxs net l i)) (fun r => r = some (.inl (idxs net l l.length))) ?_ ?_ (s0 := ((0 : Int), [])) rfl
  · rintro i s hi rfl
    left
    have c1 : decide ((i : Int) < ((l.length : Nat) : Int)) = true := by simp; omega
    have c2 : decide ((0 : Int) ≤ (i : Int)) = true := by simp
    unfold queue_Step_L1
    simp only [c1, c2, cond_true, Bool.and_self, chkO_true]
    rw [bind_some_of (getI_in w0 hi), wrap64 (by omega) (by omega)]
    have hlen := idxs_len net l i
    have hs := idxs_succ net l i
    cases hn : (l.getD i w0).Net == net
    · rw [hn] at hs
      simp only [cond_false]
      exact ⟨_, rfl, by rw [hs]; simp⟩
    · rw [hn] at hs
      simp only [cond_true]
      rw [chk_true (by simp; omega)]
      exact ⟨_, rfl, by rw [hs]; simp⟩
  · rintro s rfl
    refine ⟨_, ?_, rfl⟩
    unfold queue_Step_L1
    simp only [Int.lt_irrefl, decide_false, cond_false]
end Go.Proofs.YtbijnfgjcbfpmaaGreat
namespace Go.Proofs.YtbijnfgjcbfpmaaGreat
open Go.RowKit Go.Sort Go.Shelf
def cmpI (x y : Int) : Int := if x < y then -1 else if y < x then 1 else 0
theorem cmp_Compare_eq (x y : Int) : cmp_Compare_int x y = some (cmpI x y) := by
  unfold cmp_Compare_int cmp_isNaN_int cmpI
  have h1 : ∀ z : Int, (z != z) = false := fun z => by simp
  simp only [h1, Option.bind_some, cond_false]
  by_cases h : x < y
  · simp [h]
  · by_cases h' : y < x
    · simp [h, h']
    · simp [h, h']
theorem cmp_Or_eq (a b : Int) : cmp_Or_int [a, b] = some (if a ≠ 0 then a else b) := by
  have step : ∀ i : Nat, ∀ x, [a, b][i]? = some x → cmp_Or_int_L1 [a, b] (i : Int) = bif x != 0 then some (.inr (.inr x)) else some (.inl ((i : Int) + 1)) := by
    intro i x hx
    have hi : i < 2 := (List.getElem?_eq_some_iff.1 hx).1
    have hlt : ((i : Int) < ((([a, b] : List Int).length : Nat) : Int)) := by simp only [List.length_cons, List.length_nil]; omega
    unfold cmp_Or_int_L1
    simp only [hlt, decide_true, cond_true]
    rw [bind_some_of (show getI [a, b] (i : Int) = some x by rw [getI_nat]; exact hx), wrap64 (n := (i : Int) + 1) (by omega) (by omega)]
  have s0 := step 0 a rfl
  have s1 := step 1 b rfl
  have s2 : cmp_Or_int_L1 [a, b] 2 = some (.inr (.inl ())) := by
    unfold cmp_Or_int_L1
    rfl
  unfold cmp_Or_int
  by_cases ha : a = 0
  · subst ha
    rw [loopF_next (s' := 1) (by simpa using s0)]
    by_cases hb : b = 0
    · subst hb
      rw [loopF_next (s' := 2) (by simpa using s1), loopF_stop s2]
      rfl
    · have : (b != 0) = true := by simpa using hb
      rw [loopF_stop (b := .inr b) (by simpa [this] using s1)]
      simp [seqF]
  · have : (a != 0) = true := by simpa using ha
    rw [loopF_stop (b := .inr a) (by simpa [this] using s0)]
    simp [seqF, ha]
def ltW (a b : api_Waiting) : Bool := decide (a.Due < b.Due) || (a.Due == b.Due && decide (a.Event < b.Event))
def cmpW (a b : api_Waiting) : Int := if cmpI a.Due b.Due ≠ 0 then cmpI a.Due b.Due else cmpI a.Event b.Event
def atW (l : List api_Waiting) (i : Int) : api_Waiting := l.getD i.toNat w0
theorem ltW_iff (a b : api_Waiting) : ltW a b = true ↔ a.Due < b.Due ∨ (a.Due = b.Due ∧ a.Event < b.Event) := by simp [ltW]
theorem ltW_not (a b : api_Waiting) : ltW a b = false ↔ b.Due < a.Due ∨ (a.Due = b.Due ∧ b.Event ≤ a.Event) := by
  rw [← Bool.not_eq_true, ltW_iff]
  omega
theorem ltOf_cmpW (a b : api_Waiting) : decide (cmpW a b < 0) = ltW a b := by
  apply bool_ext
  rw [ltW_iff]
  unfold cmpW cmpI
  rw [decide_eq_true_eq]
  by_cases h1 : a.Due < b.Due
  · simp [h1]
  · by_cases h2 : b.Due < a.Due
    · simp only [h1, h2, if_true, if_false]
      simp
      omega
    · by_cases h3 : a.Event < b.Event
      · simp only [h1, h2, h3, if_true, if_false]
        simp
        omega
      · by_cases h4 : b.Event < a.Event
        · simp only [h1, h2, h3, h4, if_true, if_false]
          simp
        · simp only [h1, h2, h3, h4, if_false]
          simp
theorem queue_one {l : List api_Waiting} (h : queueB l = true) {i j : Nat} (hij : i < j) (hj : j < l.length) : ¬ ((l.getD i w0).Event = (l.getD j w0).Event ∧ (l.getD i w0).Net = (l.getD j w0).Net) := by
  rintro ⟨h1, h2⟩
  have := List.all_eq_true.1 h j (List.mem_range.2 hj)
  unfold oneW at this
  rw [Bool.and_eq_true, Bool.not_eq_true'] at this
  have h3 := this.2
  unfold hasW at h3
  rw [List.any_eq_false] at h3
  refine h3 (l.getD i w0) ?_ ?_
  · rw [List.mem_take_iff_getElem]
    exact ⟨i, by omega, by rw [List.getD_eq_getElem?_getD, List.getElem?_eq_getElem (by omega)]; rfl⟩
  · simp only [isW, h1, h2, beq_self_eq_true, Bool.and_self]
theorem mem_idxs {net : Int} {l : List api_Waiting} {x : Int} (h : x ∈ idxs net l l.length) : ∃ i : Nat, x = (i : Int) ∧ i < l.length ∧ (l.getD i w0).Net = net := by
  unfold idxs at h
  obtain ⟨i, hi, rfl⟩ := List.mem_map.1 h
  rw [List.mem_filter, List.mem_range] at hi
  exact ⟨i, rfl, hi.1, by simpa using hi.2⟩
theorem step_cmp {l : List api_Waiting} {i j : Nat} (hi : i < l.length) (hj : j < l.length) : queue_Step_1 (i : Int) (j : Int) l = some (cmpW (atW l i) (atW l j)) := by
  unfold queue_Step_1
  rw [bind_some_of (getI_in w0 hi), bind_some_of (getI_in w0 hj), cmp_Compare_eq, cmp_Compare_eq, bind_some_of rfl, bind_some_of rfl, cmp_Or_eq]
  rfl
theorem step_sort (l : List api_Waiting) (hl : l.length ≤ 1000) (hq : queueB l = true) (net : Int) :
    ∃ r, sortI (fun a b => queue_Step_1 a b l) (idxs net l l.length) = some r ∧ r.Perm (idxs net l l.length) ∧ r.Pairwise fun a b => ltW (atW l b) (atW l a) = false := by
  have hlt : ∀ x y : Int, ltOf (fun a b => cmpW (atW l a) (atW l b)) x y = ltW (atW l x) (atW l y) := fun x y => ltOf_cmpW _ _
  have hok : SortOkI (fun a b => queue_Step_1 a b l) (idxs net l l.length) (fun a b => cmpW (atW l a) (atW l b)) := by
    refine ⟨fun x hx y hy => ?_, ⟨fun x => ?_, fun x y z => ?_, fun x y z => ?_⟩, fun x hx y hy e1 e2 => ?_, ?_⟩
    · obtain ⟨i, rfl, hi, _⟩ := mem_idxs hx
      obtain ⟨j, rfl, hj, _⟩ := mem_idxs hy
      exact step_cmp hi hj
    · show ltOf (fun a b => cmpW (atW l a) (atW l b)) x.1 x.1 = false
      rw [hlt, ltW_not]; omega
    · show ltOf (fun a b => cmpW (atW l a) (atW l b)) x.1 y.1 = true → ltOf (fun a b => cmpW (atW l a) (atW l b)) y.1 z.1 = true → ltOf (fun a b => cmpW (atW l a) (atW l b)) x.1 z.1 = true
      rw [hlt, hlt, hlt, ltW_iff, ltW_iff, ltW_iff]; omega
    · show ltOf (fun a b => cmpW (atW l a) (atW l b)) x.1 y.1 = false → ltOf (fun a b => cmpW (atW l a) (atW l b)) y.1 z.1 = false → ltOf (fun a b => cmpW (atW l a) (atW l b)) x.1 z.1 = false
      rw [hlt, hlt, hlt, ltW_not, ltW_not, ltW_not]; omega
    · rw [hlt, ltW_not] at e1 e2
      obtain ⟨i, rfl, hi, ni⟩ := mem_idxs hx
      obtain ⟨j, rfl, hj, nj⟩ := mem_idxs hy
      have ev : (l.getD i w0).Event = (l.getD j w0).Event := by
        have a1 : atW l (i : Int) = l.getD i w0 := rfl
        have a2 : atW l (j : Int) = l.getD j w0 := rfl
        rw [a1, a2] at e1 e2
        omega
      rcases Nat.lt_trichotomy i j with h | h | h
      · exact absurd ⟨ev, ni.trans nj.symm⟩ (queue_one hq h hj)
      · rw [h]
      · exact absurd ⟨ev.symm, nj.trans ni.symm⟩ (queue_one hq h hi)
    · have := idxs_len net l l.length
      omega
  have hs : SortedI (fun a b => cmpW (atW l a) (atW l b)) (idxs net l l.length) ((idxs net l l.length).mergeSort fun x y => !ltW (atW l y) (atW l x)) := by
    refine ⟨List.mergeSort_perm _ _, ?_⟩
    have := List.pairwise_mergeSort (le := fun x y => !ltW (atW l y) (atW l x)) (fun a b c e1 e2 => by
        simp only [Bool.not_eq_true'] at e1 e2 ⊢
        rw [ltW_not] at e1 e2 ⊢
        omega) (fun a b => by
        cases h : ltW (atW l b) (atW l a)
        · rfl
        · have : ltW (atW l a) (atW l b) = false := by
            rw [ltW_iff] at h
            rw [ltW_not]
            omega
          rw [this]
          rfl) (idxs net l l.length)
    refine this.imp fun {a b} h => ?_
    rw [hlt]
    simpa using h
  refine ⟨_, sortI_eq hok hs, hs.perm, hs.pair.imp fun {a b} h => ?_⟩
  rw [← hlt]
  exact h
end Go.Proofs.YtbijnfgjcbfpmaaGreat
namespace Go.Proofs.YtbijnfgjcbfpmaaGreat
open Go.RowKit
/-- the places that an entry gets -/
def placesS (pl left : Int) : Int := if left < pl then left else pl
def lessW (w : api_Waiting) (n : Int) : api_Waiting := ⟨w.Event, w.Net, w.Left - n, w.Due⟩
/-- places for one entry after the other -/
def giveS : Int → List Int → List Int → List api_Waiting → List Int × List api_Waiting
  | _, [], d, r => (d, r)
  | pl, i :: q, d, r => giveS (pl - placesS pl (atW r i).Left) q (bif (atW r i).Left - placesS pl (atW r i).Left == 0 then d ++ [(atW r i).Event] else d) (r.set i.toNat (lessW (atW r i) (placesS pl (atW r i).Left)))
def stepG (x : Int) (s : Int × Int × List Int × List api_Waiting) : Option ((Int × Int × List Int × List api_Waiting) ⊕ ((List Int × List api_Waiting) ⊕ (List Int × List api_Waiting))) :=
  some (.inl (s.1 - placesS s.1 (atW s.2.2.2 x).Left, s.2.1 + 1, (bif (atW s.2.2.2 x).Left - placesS s.1 (atW s.2.2.2 x).Left == 0 then s.2.2.1 ++ [(atW s.2.2.2 x).Event] else s.2.2.1), s.2.2.2.set x.toNat (lessW (atW s.2.2.2 x) (placesS s.1 (atW s.2.2.2 x).Left))))
theorem foldG : ∀ (q : List Int) (pl k : Int) (d : List Int) (r : List api_Waiting), foldL stepG (fun s => some (.inl (s.2.2.1, s.2.2.2))) q (pl, k, d, r) = some (.inl (giveS pl q d r))
  | [], pl, k, d, r => rfl
  | i :: q, pl, k, d, r => by
    rw [foldL]
    simp only [stepG]
    rw [foldG q, giveS]
structure OkG (n : Nat) (s : Int × Int × List Int × List api_Waiting) : Prop where
  pl : 0 ≤ s.1 ∧ s.1 ≤ 1099511627776
  k : 0 ≤ s.2.1
  done : (s.2.2.1.length : Int) ≤ s.2.1
  len : s.2.2.2.length = n
  left : ∀ i, i < n → 0 ≤ (s.2.2.2.getD i w0).Left ∧ (s.2.2.2.getD i w0).Left ≤ 1099511627776
theorem step_L2_eq (l : List api_Waiting) (_hl : l.length ≤ 1000) (rate : Int) (h0 : 0 ≤ rate) (h1 : rate ≤ 1099511627776) (s2 y : List Int) (hy : y.length = s2.length) (hyl : y.length ≤ 1000) (hm : ∀ x ∈ y, ∃ i : Nat, x = (i : Int) ∧ i < l.length)
    (hw : ∀ i, i < l.length → 0 ≤ (l.getD i w0).Left ∧ (l.getD i w0).Left ≤ 1099511627776) : loopF (queue_Step_L2 s2 y) (rate, 0, [], l) = some (.inl (giveS rate y [] l)) := by
  have key := loopF_range (body := queue_Step_L2 s2 y) y (fun s => s.2.1) stepG (fun s => .inl (s.2.2.1, s.2.2.2)) (OkG l.length)
    (fun s x ho g0 hx => by
      have hlt : s.2.1.toNat < y.length := (List.getElem?_eq_some_iff.1 hx).1
      obtain ⟨i, rfl, hi⟩ := hm x (List.mem_of_getElem? hx)
      have c1 : decide (s.2.1 < ((s2.length : Nat) : Int)) = true := by simp; omega
      have c2 : decide (s.2.1 < ((y.length : Nat) : Int)) = true := by simp; omega
      have c3 : decide (0 ≤ s.2.1) = true := by simpa using g0
      have c4 : decide ((0 : Int) ≤ (i : Int)) = true := by simp
      have c5 : decide ((i : Int) < ((s.2.2.2.length : Nat) : Int)) = true := by rw [ho.len]; simp; omega
      have hir : i < s.2.2.2.length := by rw [ho.len]; exact hi
      obtain ⟨b1, b2⟩ := ho.left i hi
      obtain ⟨p1, p2⟩ := ho.pl
      have hd := ho.done
      have ha : atW s.2.2.2 (i : Int) = s.2.2.2.getD i w0 := rfl
      unfold queue_Step_L2 stepG
      simp only [c1, c2, c3, cond_true, Bool.and_self, chkO_true]
      rw [bind_some_of ((getI_of g0).trans hx)]
      simp only [c4, c5, Bool.and_self, chkO_true]
      rw [bind_some_of (getI_in w0 hir), ha]
      generalize s.2.2.2.getD i w0 = w at b1 b2
      have hn : (if w.Left < s.1 then w.Left else s.1) = placesS s.1 w.Left := rfl
      have hp : 0 ≤ placesS s.1 w.Left ∧ placesS s.1 w.Left ≤ s.1 ∧ placesS s.1 w.Left ≤ w.Left := by unfold placesS; split <;> omega
      simp only [hn]
      generalize placesS s.1 w.Left = n at hp
      rw [wrap64 (n := w.Left - n) (by omega) (by omega), wrap64 (n := s.1 - n) (by omega) (by omega), wrap64 (n := s.2.1 + 1) (by omega) (by omega)]
      have hs : getI (s.2.2.2.set (i : Int).toNat ⟨w.Event, w.Net, w.Left - n, w.Due⟩) (i : Int) = some ⟨w.Event, w.Net, w.Left - n, w.Due⟩ := by
        rw [getI_nat]
        simp [hir]
      rw [bind_some_of hs]
      simp only
      cases hz : w.Left - n == 0
      · rfl
      · simp only [cond_true]
        rw [chk_true (by simp; omega)]
        rfl)
    (fun s _ hi => by
      unfold queue_Step_L2
      have : decide (s.2.1 < ((s2.length : Nat) : Int)) = false := by simp; omega
      simp only [this, cond_false])
    (fun x s s' ho g0 g1 hf => by
      unfold stepG at hf
      injection hf with hf
      injection hf with hf
      subst hf
      obtain ⟨p1, p2⟩ := ho.pl
      have hd := ho.done
      have hk := ho.k
      have hxl : 0 ≤ (atW s.2.2.2 x).Left ∧ (atW s.2.2.2 x).Left ≤ 1099511627776 := by
        unfold atW
        by_cases hx : x.toNat < l.length
        · exact ho.left _ hx
        · rw [List.getD_eq_getElem?_getD, List.getElem?_eq_none (by rw [ho.len]; omega)]
          simp [w0]
      have hp : 0 ≤ placesS s.1 (atW s.2.2.2 x).Left ∧ placesS s.1 (atW s.2.2.2 x).Left ≤ s.1 ∧ placesS s.1 (atW s.2.2.2 x).Left ≤ (atW s.2.2.2 x).Left := by unfold placesS; split <;> omega
      refine ⟨rfl, ⟨by simp only; omega, by simp only; omega, ?_, by simp [ho.len], fun i hi => ?_⟩⟩
      · simp only
        cases (atW s.2.2.2 x).Left - placesS s.1 (atW s.2.2.2 x).Left == 0
        · simp only [cond_false]; omega
        · simp; omega
      · simp only
        by_cases hix : x.toNat = i
        · have : (s.2.2.2.set x.toNat (lessW (atW s.2.2.2 x) (placesS s.1 (atW s.2.2.2 x).Left))).getD i w0 = lessW (atW s.2.2.2 x) (placesS s.1 (atW s.2.2.2 x).Left) := by
            rw [List.getD_eq_getElem?_getD, List.getElem?_set, if_pos hix, if_pos (by rw [ho.len]; omega)]
            rfl
          rw [this]
          unfold lessW
          simp only
          omega
        · have : (s.2.2.2.set x.toNat (lessW (atW s.2.2.2 x) (placesS s.1 (atW s.2.2.2 x).Left))).getD i w0 = s.2.2.2.getD i w0 := by
            rw [List.getD_eq_getElem?_getD, List.getElem?_set, if_neg hix, ← List.getD_eq_getElem?_getD]
          rw [this]
          exact ho.left i hi)
    (rate, 0, [], l) ⟨⟨h0, h1⟩, Int.le_refl _, by simp, rfl, hw⟩ (Int.le_refl _) (Int.natCast_nonneg _)
  rw [key]
  exact foldG y rate 0 [] l
end Go.Proofs.YtbijnfgjcbfpmaaGreat
namespace Go.Proofs.YtbijnfgjcbfpmaaGreat
open Go.RowKit
theorem clone_eq (l : List api_Waiting) (hl : l.length ≤ 1000) : slices_Clone_api_Waiting_api_Waiting l = some l := by
  unfold slices_Clone_api_Waiting_api_Waiting
  rw [chk_true (by simp; omega)]
theorem giveS_len : ∀ (q : List Int) (pl : Int) (d : List Int) (r : List api_Waiting), (giveS pl q d r).2.length = r.length
  | [], _, _, _ => rfl
  | i :: q, pl, d, r => by
    rw [giveS, giveS_len q]
    simp
theorem okW_left {w : api_Waiting} (h : okW w = true) : 1 ≤ w.Left ∧ w.Left ≤ 1099511627776 := by
  simp only [okW, Bool.and_eq_true, decide_eq_true_eq] at h
  omega
theorem queue_ok {l : List api_Waiting} (h : queueB l = true) {i : Nat} (hi : i < l.length) : okW (l.getD i w0) = true := by
  have := List.all_eq_true.1 h i (List.mem_range.2 hi)
  unfold oneW at this
  rw [Bool.and_eq_true] at this
  exact this.1
theorem step_down (p : api_Profile) (net : Int) (l : List api_Waiting) (hl : l.length ≤ 1000) : queue_Step p net l false = some ([], l) := by
  unfold queue_Step
  rw [clone_eq l hl, bind_some_of rfl]
  rfl
theorem step_none (p : api_Profile) (net : Int) (l : List api_Waiting) (hl : l.length ≤ 1000) {c : Int} (hc : profile_Check p = some c) (h : c ≠ 0 ∨ queueB l = false) : queue_Step p net l true = some ([], l) := by
  unfold queue_Step
  rw [clone_eq l hl, bind_some_of rfl, hc, bind_some_of rfl, queue_queue_eq l hl]
  simp only [Bool.not_true, cond_false]
  rcases h with h | h
  · have : (c != 0) = true := by simpa using h
    rw [this]
    rfl
  · rw [h]
    cases c != 0 <;> rfl
theorem step_up (p : api_Profile) (net : Int) (l : List api_Waiting) (hl : l.length ≤ 1000) (hc : profile_Check p = some 0) (hr : 0 ≤ p.Rate ∧ p.Rate ≤ 1099511627776) (hq : queueB l = true) :
    ∃ r : List Int, r.Perm (idxs net l l.length) ∧ (r.Pairwise fun a b => ltW (atW l b) (atW l a) = false) ∧ queue_Step p net l true = some ((giveS p.Rate r [] l).1, (giveS p.Rate r [] l).2.filter fun w => !(w.Left == 0)) := by
  obtain ⟨r, h1, h2, h3⟩ := step_sort l hl hq net
  refine ⟨r, h2, h3, ?_⟩
  have hlen := idxs_len net l l.length
  have hrl := h2.length_eq
  have h4 := step_L2_eq l hl p.Rate hr.1 hr.2 (idxs net l l.length) r hrl (by omega) (fun x hx => by
    obtain ⟨i, e, hi, _⟩ := mem_idxs (h2.mem_iff.1 hx)
    exact ⟨i, e, hi⟩) (fun i hi => by
    have := okW_left (queue_ok hq hi)
    omega)
  unfold queue_Step
  rw [clone_eq l hl, bind_some_of rfl, hc, bind_some_of rfl, queue_queue_eq l hl, hq]
  simp only [Bool.not_true, cond_false]
  have c0 : ((0 : Int) != 0) = false := rfl
  rw [c0]
  simp only [cond_false, Option.bind_some, Bool.not_true]
  rw [step_L1_eq l hl net, seqF_inl rfl, h1, bind_some_of rfl, h4, seqF_inl rfl]
  have e2 : queue_Step_2 = fun w => some (w.Left == 0) := rfl
  rw [e2, deleteF_eq _ (by rw [giveS_len]; exact hl), bind_some_of rfl]
end Go.Proofs.YtbijnfgjcbfpmaaGreat
namespace Go.Proofs.YtbijnfgjcbfpmaaGreat
open Go.RowKit
def totalS (net : Int) : List api_Waiting → Int
  | [] => 0
  | w :: r => (bif w.Net == net then w.Left else 0) + totalS net r
theorem totalS_append (net : Int) : ∀ (a b : List api_Waiting), totalS net (a ++ b) = totalS net a + totalS net b
  | [], b => by simp [totalS]
  | w :: a, b => by
    rw [List.cons_append, totalS, totalS, totalS_append net a b]
    omega
theorem totalS_range (net : Int) : ∀ (l : List api_Waiting), (∀ w ∈ l, 0 ≤ w.Left ∧ w.Left ≤ 1099511627776) → 0 ≤ totalS net l ∧ totalS net l ≤ 1099511627776 * (l.length : Int)
  | [], _ => by simp [totalS]
  | w :: r, h => by
    obtain ⟨h1, h2⟩ := totalS_range net r fun w hw => h w (by simp [hw])
    obtain ⟨h3, h4⟩ := h w (by simp)
    rw [totalS, List.length_cons]
    cases w.Net == net
    · simp only [cond_false]
      omega
    · simp only [cond_true]
      omega
end Go.Proofs.YtbijnfgjcbfpmaaGreat
namespace Go.Proofs.YtbijnfgjcbfpmaaGreat
open Go.RowKit
theorem totalS_set (net : Int) : ∀ (l : List api_Waiting) (i : Nat) (w : api_Waiting), i < l.length → totalS net (l.set i w) = totalS net l - (bif (l.getD i w0).Net == net then (l.getD i w0).Left else 0) + (bif w.Net == net then w.Left else 0)
  | [], i, w, h => by simp at h
  | x :: l, 0, w, h => by
    simp only [List.set_cons_zero, totalS, List.getD_cons_zero]
    omega
  | x :: l, i + 1, w, h => by
    simp only [List.set_cons_succ, totalS, List.getD_cons_succ]
    rw [totalS_set net l i w (by simpa using h)]
    omega
/-- what the entries need -/
def sumQ (r : List api_Waiting) : List Int → Int
  | [] => 0
  | i :: q => (atW r i).Left + sumQ r q
theorem atW_set {r : List api_Waiting} {i j : Nat} (h : i ≠ j) (w : api_Waiting) : atW (r.set i w) (j : Int) = atW r (j : Int) := by
  unfold atW
  rw [Int.toNat_natCast, List.getD_eq_getElem?_getD, List.getElem?_set, if_neg h, ← List.getD_eq_getElem?_getD]
theorem sumQ_set {r : List api_Waiting} {i : Nat} (w : api_Waiting) : ∀ (q : List Int), (∀ x ∈ q, ∃ j : Nat, x = (j : Int) ∧ i ≠ j) → sumQ (r.set i w) q = sumQ r q
  | [], _ => rfl
  | x :: q, h => by
    obtain ⟨j, rfl, hj⟩ := h x (by simp)
    rw [sumQ, sumQ, atW_set hj, sumQ_set w q fun x hx => h x (by simp [hx])]
theorem sumQ_nonneg {r : List api_Waiting} (hr : ∀ i, 0 ≤ (r.getD i w0).Left) : ∀ q : List Int, 0 ≤ sumQ r q
  | [] => Int.le_refl _
  | x :: q => by
    have := hr x.toNat
    have := sumQ_nonneg hr q
    rw [sumQ]
    unfold atW
    omega
theorem getD_set_left {r : List api_Waiting} {i : Nat} {w : api_Waiting} (hr : ∀ k, 0 ≤ (r.getD k w0).Left) (hw : 0 ≤ w.Left) : ∀ k, 0 ≤ ((r.set i w).getD k w0).Left := by
  intro k
  rw [List.getD_eq_getElem?_getD, List.getElem?_set]
  by_cases h : i = k
  · rw [if_pos h]
    by_cases h2 : i < r.length
    · rw [if_pos h2]; exact hw
    · rw [if_neg h2]; exact Int.le_refl _
  · rw [if_neg h, ← List.getD_eq_getElem?_getD]
    exact hr k
/-- a step gives as many places as the rate says, or as are needed, if these are fewer -/
theorem giveS_total (net : Int) : ∀ (q : List Int) (pl : Int) (d : List Int) (r : List api_Waiting), 0 ≤ pl → q.Nodup → (∀ x ∈ q, ∃ j : Nat, x = (j : Int) ∧ j < r.length ∧ (r.getD j w0).Net = net) → (∀ k, 0 ≤ (r.getD k w0).Left) →
    totalS net (giveS pl q d r).2 = totalS net r - min pl (sumQ r q)
  | [], pl, d, r, hp, _, _, _ => by
    simp only [giveS, sumQ]
    omega
  | x :: q, pl, d, r, hp, hnd, hq, hr => by
    obtain ⟨i, rfl, hi, hn⟩ := hq x (by simp)
    rw [List.nodup_cons] at hnd
    have ha : atW r (i : Int) = r.getD i w0 := rfl
    have hl := hr i
    rw [giveS, ha, Int.toNat_natCast]
    have hpn : 0 ≤ placesS pl (r.getD i w0).Left ∧ placesS pl (r.getD i w0).Left ≤ pl ∧ placesS pl (r.getD i w0).Left ≤ (r.getD i w0).Left ∧ (placesS pl (r.getD i w0).Left = pl ∨ placesS pl (r.getD i w0).Left = (r.getD i w0).Left) := by
      unfold placesS; split <;> omega
    have hset := totalS_set net r i (lessW (r.getD i w0) (placesS pl (r.getD i w0).Left)) hi
    have hother : ∀ y ∈ q, ∃ j : Nat, y = (j : Int) ∧ i ≠ j := by
      intro y hy
      obtain ⟨j, rfl, _, _⟩ := hq y (by simp [hy])
      exact ⟨j, rfl, fun e => hnd.1 (e ▸ hy)⟩
    have hsq := sumQ_set (r := r) (lessW (r.getD i w0) (placesS pl (r.getD i w0).Left)) q hother
    have hn1 : ((r.getD i w0).Net == net) = true := by simpa using hn
    have hn2 : ((lessW (r.getD i w0) (placesS pl (r.getD i w0).Left)).Net == net) = true := hn1
    rw [hn1, hn2] at hset
    have hnn := sumQ_nonneg hr q
    have ih := giveS_total net q (pl - placesS pl (r.getD i w0).Left) (bif (r.getD i w0).Left - placesS pl (r.getD i w0).Left == 0 then d ++ [(r.getD i w0).Event] else d) (r.set i (lessW (r.getD i w0) (placesS pl (r.getD i w0).Left))) (by omega) hnd.2 (fun y hy => by
      obtain ⟨j, rfl, hj, hjn⟩ := hq y (by simp [hy])
      refine ⟨j, rfl, by simpa using hj, ?_⟩
      have hij : i ≠ j := fun e => hnd.1 (e ▸ hy)
      have := atW_set (r := r) hij (lessW (r.getD i w0) (placesS pl (r.getD i w0).Left))
      have h3 : (r.set i (lessW (r.getD i w0) (placesS pl (r.getD i w0).Left))).getD j w0 = r.getD j w0 := this
      rw [h3]
      exact hjn) (getD_set_left hr (by show 0 ≤ (r.getD i w0).Left - placesS pl (r.getD i w0).Left; omega))
    rw [ih, hset, hsq, sumQ, ha]
    simp only [cond_true]
    show totalS net r - (r.getD i w0).Left + ((r.getD i w0).Left - placesS pl (r.getD i w0).Left) - _ = _
    omega
end Go.Proofs.YtbijnfgjcbfpmaaGreat
namespace Go.Proofs.YtbijnfgjcbfpmaaGreat
open Go.RowKit
def nz (w : api_Waiting) : Bool := !(w.Left == 0)
theorem filter_set_len : ∀ (l : List api_Waiting) (i : Nat) (w : api_Waiting), i < l.length → nz (l.getD i w0) = true → (((l.set i w).filter nz).length : Int) = ((l.filter nz).length : Int) - 1 + bif nz w then 1 else 0
  | [], i, w, h, _ => by simp at h
  | x :: l, 0, w, h, hx => by
    have hx : nz x = true := hx
    rw [List.set_cons_zero, List.filter_cons, List.filter_cons, if_pos hx]
    cases hw : nz w
    · simp
    · simp
  | x :: l, i + 1, w, h, hx => by
    have ih := filter_set_len l i w (by simpa using h) hx
    rw [List.set_cons_succ, List.filter_cons, List.filter_cons]
    by_cases hxx : nz x = true
    · rw [if_pos hxx, if_pos hxx, List.length_cons, List.length_cons]
      omega
    · rw [if_neg hxx, if_neg hxx]
      exact ih
/-- what is done and what stays are as many as before -/
theorem giveS_many : ∀ (q : List Int) (pl : Int) (d : List Int) (r : List api_Waiting), 0 ≤ pl → q.Nodup → (∀ x ∈ q, ∃ j : Nat, x = (j : Int) ∧ j < r.length ∧ nz (r.getD j w0) = true) →
    ((giveS pl q d r).1.length : Int) + (((giveS pl q d r).2.filter nz).length : Int) = (d.length : Int) + ((r.filter nz).length : Int)
  | [], pl, d, r, hp, _, _ => rfl
  | x :: q, pl, d, r, hp, hnd, hq => by
    obtain ⟨i, rfl, hi, hn⟩ := hq x (by simp)
    rw [List.nodup_cons] at hnd
    have ha : atW r (i : Int) = r.getD i w0 := rfl
    rw [giveS, ha, Int.toNat_natCast]
    have hpn : placesS pl (r.getD i w0).Left ≤ pl := by unfold placesS; split <;> omega
    have hset := filter_set_len r i (lessW (r.getD i w0) (placesS pl (r.getD i w0).Left)) hi hn
    have ih := giveS_many q (pl - placesS pl (r.getD i w0).Left) (bif (r.getD i w0).Left - placesS pl (r.getD i w0).Left == 0 then d ++ [(r.getD i w0).Event] else d) (r.set i (lessW (r.getD i w0) (placesS pl (r.getD i w0).Left))) (by omega) hnd.2 (fun y hy => by
      obtain ⟨j, rfl, hj, hjn⟩ := hq y (by simp [hy])
      refine ⟨j, rfl, by simpa using hj, ?_⟩
      have hij : i ≠ j := fun e => hnd.1 (e ▸ hy)
      have h3 : (r.set i (lessW (r.getD i w0) (placesS pl (r.getD i w0).Left))).getD j w0 = r.getD j w0 := atW_set (r := r) hij _
      rw [h3]
      exact hjn)
    rw [ih, hset]
    have hz : nz (lessW (r.getD i w0) (placesS pl (r.getD i w0).Left)) = !((r.getD i w0).Left - placesS pl (r.getD i w0).Left == 0) := rfl
    rw [hz]
    cases (r.getD i w0).Left - placesS pl (r.getD i w0).Left == 0
    · simp
    · simp only [cond_true, Bool.not_true, cond_false, List.length_append, List.length_cons, List.length_nil]
      omega
end Go.Proofs.YtbijnfgjcbfpmaaGreat
namespace Go.Proofs.YtbijnfgjcbfpmaaGreat
open Go.RowKit
theorem getW_set_eq {r : List api_Waiting} {i : Nat} (hi : i < r.length) (w : api_Waiting) : (r.set i w).getD i w0 = w := by
  rw [List.getD_eq_getElem?_getD, List.getElem?_set_self hi]
  rfl
theorem getW_set_ne {r : List api_Waiting} {i j : Nat} (h : i ≠ j) (w : api_Waiting) : (r.set i w).getD j w0 = r.getD j w0 := by
  rw [List.getD_eq_getElem?_getD, List.getElem?_set_ne h, ← List.getD_eq_getElem?_getD]
theorem placesS_facts {pl left : Int} (hp : 0 ≤ pl) (hl : 0 ≤ left) : 0 ≤ placesS pl left ∧ placesS pl left ≤ pl ∧ placesS pl left ≤ left ∧ (placesS pl left = pl ∨ placesS pl left = left) := by
  unfold placesS
  split <;> omega
structure Gave (a b : api_Waiting) : Prop where
  event : b.Event = a.Event
  net : b.Net = a.Net
  due : b.Due = a.Due
  lo : 0 ≤ b.Left
  hi : b.Left ≤ a.Left
theorem Gave.refl {a : api_Waiting} (h : 0 ≤ a.Left) : Gave a a := ⟨rfl, rfl, rfl, h, Int.le_refl _⟩
theorem Gave.trans {a b c : api_Waiting} (h : Gave a b) (k : Gave b c) : Gave a c := ⟨k.event.trans h.event, k.net.trans h.net, k.due.trans h.due, k.lo, Int.le_trans k.hi h.hi⟩
/-- what a step gives: the parts -/
structure GiveP (pl : Int) (q : List Int) (d : List Int) (r : List api_Waiting) (R : List Int × List api_Waiting) : Prop where
  same : ∀ j : Nat, (j : Int) ∉ q → R.2.getD j w0 = r.getD j w0
  gave : ∀ j : Nat, Gave (r.getD j w0) (R.2.getD j w0)
  some : ∀ j : Nat, (R.2.getD j w0).Left < (r.getD j w0).Left → 0 < pl
  order : q.Pairwise fun a b => (R.2.getD b.toNat w0).Left < (r.getD b.toNat w0).Left → (R.2.getD a.toNat w0).Left = 0
  done : R.1 = d ++ (q.filter fun x => (R.2.getD x.toNat w0).Left == 0).map fun x => (r.getD x.toNat w0).Event
theorem giveS_facts : ∀ (q : List Int) (pl : Int) (d : List Int) (r : List api_Waiting), 0 ≤ pl → q.Nodup → (∀ x ∈ q, ∃ j : Nat, x = (j : Int) ∧ j < r.length) → (∀ k, 0 ≤ (r.getD k w0).Left) → GiveP pl q d r (giveS pl q d r)
  | [], pl, d, r, hp, _, _, hr => ⟨fun _ _ => rfl, fun j => Gave.refl (hr j), fun j h => by simp only [giveS] at h; omega, List.Pairwise.nil, by simp [giveS]⟩
  | x :: q, pl, d, r, hp, hnd, hq, hr => by
    obtain ⟨i, rfl, hi⟩ := hq x (by simp)
    rw [List.nodup_cons] at hnd
    have ha : atW r (i : Int) = r.getD i w0 := rfl
    rw [giveS, ha, Int.toNat_natCast]
    obtain ⟨p1, p2, p3, p4⟩ := placesS_facts (pl := pl) hp (hr i)
    have hr2 : ∀ k, 0 ≤ ((r.set i (lessW (r.getD i w0) (placesS pl (r.getD i w0).Left))).getD k w0).Left := getD_set_left hr (by show 0 ≤ (r.getD i w0).Left - _; omega)
    have ih := giveS_facts q (pl - placesS pl (r.getD i w0).Left) (bif (r.getD i w0).Left - placesS pl (r.getD i w0).Left == 0 then d ++ [(r.getD i w0).Event] else d) (r.set i (lessW (r.getD i w0) (placesS pl (r.getD i w0).Left))) (by omega) hnd.2 (fun y hy => by
      obtain ⟨j, rfl, hj⟩ := hq y (by simp [hy])
      exact ⟨j, rfl, by simpa using hj⟩) hr2
    generalize giveS (pl - placesS pl (r.getD i w0).Left) q (bif (r.getD i w0).Left - placesS pl (r.getD i w0).Left == 0 then d ++ [(r.getD i w0).Event] else d) (r.set i (lessW (r.getD i w0) (placesS pl (r.getD i w0).Left))) = R at ih
    have hne : ∀ y ∈ q, ∃ j : Nat, y = (j : Int) ∧ i ≠ j := by
      intro y hy
      obtain ⟨j, rfl, _⟩ := hq y (by simp [hy])
      exact ⟨j, rfl, fun e => hnd.1 (e ▸ hy)⟩
    have hRi : R.2.getD i w0 = lessW (r.getD i w0) (placesS pl (r.getD i w0).Left) := by
      rw [ih.same i hnd.1, getW_set_eq hi]
    have hless : (lessW (r.getD i w0) (placesS pl (r.getD i w0).Left)).Left = (r.getD i w0).Left - placesS pl (r.getD i w0).Left := rfl
    have hgi : Gave (r.getD i w0) (R.2.getD i w0) := by
      rw [hRi]
      exact ⟨rfl, rfl, rfl, by rw [hless]; omega, by rw [hless]; omega⟩
    have hset : ∀ j : Nat, i ≠ j → (r.set i (lessW (r.getD i w0) (placesS pl (r.getD i w0).Left))).getD j w0 = r.getD j w0 := fun j hj => getW_set_ne hj _
    refine ⟨fun j hj => ?_, fun j => ?_, fun j h => ?_, ?_, ?_⟩
    · rw [List.mem_cons, not_or] at hj
      have hij : i ≠ j := fun e => hj.1 (by rw [e])
      rw [ih.same j hj.2, hset j hij]
    · by_cases hij : i = j
      · subst hij; exact hgi
      · have := ih.gave j
        rw [hset j hij] at this
        exact this
    · by_cases hij : i = j
      · subst hij
        rw [hRi, hless] at h
        omega
      · have := ih.some j (by rw [hset j hij]; exact h)
        omega
    · rw [List.pairwise_cons]
      refine ⟨fun y hy h => ?_, ?_⟩
      · obtain ⟨j, rfl, hij⟩ := hne y hy
        rw [Int.toNat_natCast] at h
        have := ih.some j (by rw [hset j hij]; exact h)
        rw [Int.toNat_natCast, hRi, hless]
        omega
      · refine List.Pairwise.imp_of_mem (fun {a b} hA hB h k => ?_) ih.order
        obtain ⟨j, rfl, hij⟩ := hne b hB
        rw [Int.toNat_natCast] at h k
        exact h (by rw [hset j hij]; exact k)
    · rw [ih.done, List.filter_cons, Int.toNat_natCast]
      have e1 : (q.filter fun x => (R.2.getD x.toNat w0).Left == 0).map (fun x => ((r.set i (lessW (r.getD i w0) (placesS pl (r.getD i w0).Left))).getD x.toNat w0).Event) = (q.filter fun x => (R.2.getD x.toNat w0).Left == 0).map fun x => (r.getD x.toNat w0).Event := by
        apply List.map_congr_left
        intro y hy
        obtain ⟨j, rfl, hij⟩ := hne y ((List.mem_filter.1 hy).1)
        rw [Int.toNat_natCast, hset j hij]
      rw [e1, hRi, hless]
      cases h : (r.getD i w0).Left - placesS pl (r.getD i w0).Left == 0
      · simp
      · simp [Int.toNat_natCast]
end Go.Proofs.YtbijnfgjcbfpmaaGreat

/-
  QueueLess, as plain law.
-/
import Derived.Test.YtbijnfgjcbfpmaaVA
import Derived.Test.YtbijnfgjcbfpmaaPA
import Derived.Test.YtbijnfgjcbfpmaaH4
namespace Go.Proofs.Ytbijnfgjcbfpmaa
open Go.RowKit
theorem less_L1 (l : List api_Waiting) (hl : l.length ≤ 1000) (w : api_Waiting) : loopF (law30_QueueLess_L1 l w) ((0 : Int), []) = some (.inl (l.filter fun x => x.Net == w.Net)) := by
  refine loopF_inv (body := law30_QueueLess_L1 l w) l.length (fun i s => s = ((i : Int), (l.take i).filter fun x => x.Net == w.Net)) (fun r => r = some (.inl (l.filter fun x => x.Net == w.Net))) ?_ ?_ (s0 := ((0 : Int), [])) rfl
  · rintro i s hi rfl
    left
    have c1 : decide ((i : Int) < ((l.length : Nat) : Int)) = true := by simp; omega
    have hlen := List.length_filter_le (fun x : api_Waiting => x.Net == w.Net) (l.take i)
    have hlt : (l.take i).length = i := by rw [List.length_take]; omega
    unfold law30_QueueLess_L1
    simp only [c1, cond_true]
    rw [bind_some_of (getI_in w0 hi), wrap64 (by omega) (by omega)]
    have hs := filter_take_succ l (fun x => x.Net == w.Net) i hi
    cases hn2 : (l.getD i w0).Net == w.Net
    · rw [hn2] at hs
      simp only [cond_false] at hs ⊢
      exact ⟨_, rfl, by rw [hs]; simp⟩
    · rw [hn2] at hs
      simp only [cond_true] at hs ⊢
      rw [chk_true (by simp; omega)]
      exact ⟨_, rfl, by rw [hs]; rfl⟩
  · rintro s rfl
    refine ⟨_, ?_, rfl⟩
    unfold law30_QueueLess_L1
    simp only [Int.lt_irrefl, decide_false, cond_false, List.take_length]
/-- an entry that is put -/
theorem putS_ok {p : api_Profile} {l : List api_Waiting} {w : api_Waiting} {now : Int} (h1 : queueB l = true) (h2 : okW w = true) (h3 : hasW l w.Event w.Net = false) (h4 : PlanOk p (jobsS w.Net (l ++ [w])) now) : putS p l w now = (l ++ [w], 0) := by
  unfold putS
  rw [h1, h2, h3, plan_ok.2 h4]
  rfl
theorem putS_inv {p : api_Profile} {l : List api_Waiting} {w : api_Waiting} {now : Int} : ((putS p l w now).2 ≠ 0 ∧ (putS p l w now).1 = l) ∨ (putS p l w now = (l ++ [w], 0) ∧ queueB l = true ∧ okW w = true ∧ hasW l w.Event w.Net = false ∧ PlanOk p (jobsS w.Net (l ++ [w])) now) := by
  unfold putS
  cases h1 : queueB l
  · left; exact ⟨(by simp), rfl⟩
  · cases h2 : okW w
    · left; exact ⟨(by simp), rfl⟩
    · cases h3 : hasW l w.Event w.Net
      · cases h4 : (planS p (jobsS w.Net (l ++ [w])) now).2.2 != 0
        · right
          exact ⟨rfl, rfl, rfl, rfl, plan_ok.1 (by simpa using h4)⟩
        · left
          exact ⟨by simpa using h4, rfl⟩
      · left; exact ⟨(by simp), rfl⟩
theorem okW_of {w : api_Waiting} (h : okW w = true) {left due : Int} (h1 : 1 ≤ left) (h2 : left ≤ w.Left) (h3 : w.Due ≤ due) (h4 : due ≤ 1073741824) : okW ⟨w.Event, w.Net, left, due⟩ = true := by
  unfold okW at h ⊢
  simp only [Bool.and_eq_true, decide_eq_true_eq] at h ⊢
  omega
theorem set_last {A : Type} (l : List A) (a b : A) : (l ++ [a]).set l.length b = l ++ [b] := by
  rw [List.set_append_right _ _ (Nat.le_refl _), Nat.sub_self]
  rfl
theorem getD_last {A : Type} (l : List A) (a d : A) : (l ++ [a]).getD l.length d = a := by
  rw [List.getD_eq_getElem?_getD, List.getElem?_append_right (Nat.le_refl _), Nat.sub_self]
  rfl
theorem jobs_snoc (l : List api_Waiting) (w : api_Waiting) : jobsS w.Net (l ++ [w]) = jobsS w.Net l ++ [jobW w] := by
  rw [jobsS_append, jobsS_one, beq_self_eq_true]
  rfl
/-- with fewer places, and later, it is put as well -/
theorem plan_less_late {p : api_Profile} {l : List api_Waiting} {w : api_Waiting} {now : Int} (h : PlanOk p (jobsS w.Net (l ++ [w])) now) {left due : Int} (h1 : 1 ≤ left) (h2 : left ≤ w.Left) (h3 : w.Due ≤ due) (h4 : due ≤ 1073741824) :
    PlanOk p (jobsS w.Net (l ++ [⟨w.Event, w.Net, left, due⟩])) now := by
  have e : jobsS w.Net (l ++ [⟨w.Event, w.Net, left, due⟩]) = jobsS w.Net l ++ [⟨w.Event, left, due⟩] := jobs_snoc l ⟨w.Event, w.Net, left, due⟩
  rw [jobs_snoc] at h
  rw [e]
  have hk : (jobsS w.Net l).length < (jobsS w.Net l ++ [jobW w]).length := by simp
  have a := plan_less h hk (s := left) h1 (by rw [getD_last]; exact h2)
  rw [getD_last, set_last] at a
  have hk2 : (jobsS w.Net l).length < (jobsS w.Net l ++ [(⟨(jobW w).Id, left, (jobW w).Due⟩ : api_Job)]).length := by simp
  have b := plan_late a hk2 (d := due) (by rw [getD_last]; exact h3) h4
  rw [getD_last, set_last] at b
  exact b
theorem law30_QueueLess_true' (a0 : api_Profile) (hp : ProfOk a0) (a1 : List api_Waiting) (a2 : api_Waiting) (a3 a4 a5 : Int) (w4 : 0 ≤ a4 ∧ a4 ≤ 255) (w5 : 0 ≤ a5 ∧ a5 ≤ 255) : law30_QueueLess a0 a1 a2 a3 a4 a5 = some true := by
  unfold law30_QueueLess
  rw [small_true, bind_some_of rfl, ref30_Few_eq, bind_some_of rfl]
  cases hf : (decide ((a1.length : Int) ≤ 20) && decide (a0.Window ≤ 1000) && decide ((a0.Types.length : Int) ≤ 20))
  · rfl
  · have hl : a1.length ≤ 20 := by
      simp only [Bool.and_eq_true, decide_eq_true_eq] at hf
      omega
    simp only [Bool.not_true, cond_false]
    rw [ref30_Right_eq a1 (by omega), bind_some_of rfl]
    cases hq : queueB a1
    · rfl
    · simp only [Bool.not_true, cond_false]
      rw [put_eq a0 hp a1 (by omega) a2 a3, bind_some_of rfl]
      rcases putS_inv (p := a0) (l := a1) (w := a2) (now := a3) with ⟨h1, h2⟩ | ⟨h1, _, hw, hh, hpl⟩
      · have e : ((putS a0 a1 a2 a3).2 != 0) = true := by simpa using h1
        simp only [e, cond_true]
        rw [h2, ref30_Same_refl a1 (by omega), bind_some_of rfl]
      · rw [h1]
        have e0 : ((0 : Int) != 0) = false := rfl
        simp only [e0, cond_false]
        rw [jobs_eq _ (by simp; omega), bind_some_of rfl, plan_eq a0 hp _ (by have := jobsS_len a2.Net (a1 ++ [a2]); simp at this; omega) a3, bind_some_of rfl, plan_ok.2 hpl]
        simp only [e0, cond_false]
        rw [chk_true (by simp; omega), chk_true (by simp; omega), List.nil_append, ref30_Same_refl _ (by simp; omega), bind_some_of rfl]
        simp only [Bool.not_true, cond_false]
        -- without one of the others
        have k1 : (bif decide ((0 : Int) < (a1.length : Int)) then
                (chkO ((a1.length : Int) != 0)).bind fun _ =>
                (chkO (cutO (0 : Int) (Int.tmod (IntKind.i64.wrap a4) (a1.length : Int)) (a1.length : Int))).bind fun _ =>
                (chkO (decide (0 + (List.drop (0 : Int).toNat (List.take (Int.tmod (IntKind.i64.wrap a4) (a1.length : Int)).toNat a1)).length ≤ 1000000))).bind fun _ =>
                (chkO (cutO (IntKind.i64.wrap ((Int.tmod (IntKind.i64.wrap a4) (a1.length : Int)) + (1 : Int))) (a1.length : Int) (a1.length : Int))).bind fun _ =>
                (chkO (decide ((([] : List api_Waiting) ++ (List.drop (0 : Int).toNat (List.take (Int.tmod (IntKind.i64.wrap a4) (a1.length : Int)).toNat a1))).length + (List.drop (IntKind.i64.wrap ((Int.tmod (IntKind.i64.wrap a4) (a1.length : Int)) + (1 : Int))).toNat (List.take (a1.length : Int).toNat a1)).length ≤ 1000000))).bind fun _ =>
                (queue_Put a0 ((([] : List api_Waiting) ++ (List.drop (0 : Int).toNat (List.take (Int.tmod (IntKind.i64.wrap a4) (a1.length : Int)).toNat a1))) ++ (List.drop (IntKind.i64.wrap ((Int.tmod (IntKind.i64.wrap a4) (a1.length : Int)) + (1 : Int))).toNat (List.take (a1.length : Int).toNat a1))) a2 a3).bind fun y38 =>
                (bif (y38.2 != (0 : Int)) then (some (.inr false) : Option (Unit ⊕ Bool)) else some (.inl ())) else some (.inl ())) = some (.inl ()) := by
          by_cases hn : 0 < a1.length
          · obtain ⟨k, hk, e⟩ := at_index a1.length hn a4 w4.1 w4.2
            have c1 : decide ((0 : Int) < (a1.length : Int)) = true := decide_eq_true (by omega)
            have c2 : ((a1.length : Int) != 0) = true := by
              rw [bne_iff_ne]
              omega
            have hw1 : IntKind.i64.wrap ((k : Int) + 1) = ((k + 1 : Nat) : Int) := by rw [wrap64 (by omega) (by omega)]; omega
            have z : (0 : Int).toNat = 0 := rfl
            simp only [c1, cond_true, c2, chkO_true, e, hw1, Int.toNat_natCast, List.take_length, z, List.drop_zero, List.nil_append]
            have c3 : cutO (0 : Int) (k : Int) (a1.length : Int) = true := by
              unfold cutO
              simp only [Bool.and_eq_true, decide_eq_true_eq]
              omega
            have c4 : cutO ((k + 1 : Nat) : Int) (a1.length : Int) (a1.length : Int) = true := by
              unfold cutO
              simp only [Bool.and_eq_true, decide_eq_true_eq]
              omega
            rw [c3, chkO_true, chk_true (decide_eq_true (by rw [List.length_take]; omega)), c4, chkO_true, chk_true (decide_eq_true (by rw [List.length_take, List.length_drop]; omega))]
            have hs : (a1.take k ++ a1.drop (k + 1)).Sublist a1 := by
              have : (a1.take k ++ a1.drop (k + 1)) = a1.eraseIdx k := (List.eraseIdx_eq_take_drop_succ a1 k).symm
              rw [this]
              exact List.eraseIdx_sublist a1 k
            rw [put_eq a0 hp _ (by have := hs.length_le; omega) a2 a3, bind_some_of rfl, putS_ok (queueB_sub hq hs) hw (hasW_sub hh hs) (plan_sub hpl (jobsS_sub _ (hs.append (List.Sublist.refl _))))]
            rfl
          · have c1 : decide ((0 : Int) < (a1.length : Int)) = false := decide_eq_false (by omega)
            simp only [c1, cond_false]
        rw [seqF_inl k1]
        have hwl := okW_left hw
        have hwd : 0 ≤ a2.Due ∧ a2.Due ≤ 1073741824 := by
          unfold okW at hw
          simp only [Bool.and_eq_true, decide_eq_true_eq] at hw
          exact ⟨hw.1.2, hw.2⟩
        rw [wrap64 (n := a5) (by omega) (by omega), wrap64 (n := a2.Left - a5) (by omega) (by omega), wrap64 (n := a2.Due + a5) (by omega) (by omega)]
        have m1 : 1 ≤ (if 1 < a2.Left - a5 then a2.Left - a5 else 1) ∧ (if 1 < a2.Left - a5 then a2.Left - a5 else 1) ≤ a2.Left := by split <;> omega
        have m2 : a2.Due ≤ (if 1073741824 < a2.Due + a5 then 1073741824 else a2.Due + a5) ∧ (if 1073741824 < a2.Due + a5 then 1073741824 else a2.Due + a5) ≤ 1073741824 := by split <;> omega
        generalize (if 1 < a2.Left - a5 then a2.Left - a5 else 1) = left at m1 ⊢
        generalize (if 1073741824 < a2.Due + a5 then 1073741824 else a2.Due + a5) = due at m2 ⊢
        rw [put_eq a0 hp a1 (by omega), put_eq a0 hp a1 (by omega), bind_some_of rfl, bind_some_of rfl]
        rw [putS_ok (w := ⟨a2.Event, a2.Net, left, a2.Due⟩) hq (okW_of hw m1.1 m1.2 (Int.le_refl _) hwd.2) hh (plan_less_late hpl m1.1 m1.2 (Int.le_refl _) hwd.2)]
        rw [putS_ok (w := ⟨a2.Event, a2.Net, left, due⟩) hq (okW_of hw m1.1 m1.2 m2.1 m2.2) hh (plan_less_late hpl m1.1 m1.2 m2.1 m2.2)]
        rw [less_L1 a1 (by omega), seqF_inl rfl]
        have hs : (a1.filter fun x => x.Net == a2.Net).Sublist a1 := List.filter_sublist
        rw [put_eq a0 hp _ (by have := hs.length_le; omega), bind_some_of rfl, putS_ok (queueB_sub hq hs) hw (hasW_sub hh hs) (plan_sub hpl (jobsS_sub _ (hs.append (List.Sublist.refl _))))]
        rfl
theorem law30_QueueLess_true (a0 : api_Profile) (w0 : (api_Profile.Q a0)) (a1 : (List api_Waiting)) (_w1 : (a1.length ≤ maxLen ∧ ∀ u2 ∈ a1, (api_Waiting.Q u2))) (a2 : api_Waiting) (_w2 : (api_Waiting.Q a2)) (a3 : Int) (_w3 : (IntKind.i64.min ≤ a3 ∧ a3 ≤ IntKind.i64.max)) (a4 : Int) (w4 : (IntKind.u8.min ≤ a4 ∧ a4 ≤ IntKind.u8.max)) (a5 : Int) (w5 : (IntKind.u8.min ≤ a5 ∧ a5 ≤ IntKind.u8.max)) : law30_QueueLess a0 a1 a2 a3 a4 a5 = some true :=
  law30_QueueLess_true' a0 (prof_of w0) a1 a2 a3 a4 a5 w4 w5
end Go.Proofs.Ytbijnfgjcbfpmaa

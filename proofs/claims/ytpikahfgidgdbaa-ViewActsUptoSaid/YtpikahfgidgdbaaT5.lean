/-
  ViewActs, as plain law.
-/
import Derived.Test.YtpikahfgidgdbaaQ
import Derived.Test.YtpikahfgidgdbaaPA
import Derived.Test.YtpikahfgidgdbaaH5
namespace Go.Proofs.Ytpikahfgidgdbaa
open Go.RowKit
theorem acts_body {e : api_Event} {s : VSt} {y8 y11 : List api_Msg} {i : Nat} (hi : i < y8.length) (hi2 : i ≤ 1000) (h8 : getI y8 (i : Int) = some (vOut s)) (h11 : getI y11 (i : Int) = some (vOut (turnS e s))) (hsm : SmallM (vOut (turnS e s))) (_hk : (e.Kind == 0) = false) (he : 0 ≤ s.ed ∧ s.ed ≤ 1000000) :
    law16_ViewActs_L1 y8 e y11 (i : Int) = some (.inl ((i : Int) + 1)) := by
  have hw : RowKit.wrap64 (s.ed + 1) = IntKind.i64.wrap (s.ed + 1) := wrap_eq (by omega) (by omega)
  have fin : ∀ m : api_Msg, m = vOut (turnS e s) → ((ref16_Same m (vOut (turnS e s))).bind fun y => bif !y then some (.inr (.inr false)) else some (.inl (IntKind.i64.wrap ((i : Int) + 1)))) = (some (.inl ((i : Int) + 1)) : Option (Int ⊕ (Unit ⊕ Bool))) := fun m hm => by
    rw [hm, bind_some_of (same_refl _ hsm.1 hsm.2), wrap64 (by omega) (by omega)]
    rfl
  unfold law16_ViewActs_L1
  rw [decide_eq_true (by omega), cond_true, bind_some_of h8]
  have hid : (vOut s).Id = s.id := rfl
  have hgr : (vOut s).Group = s.gr := rfl
  have hgo : (vOut s).Gone = s.gone := rfl
  have hau : (vOut s).Author = s.au := rfl
  rw [hid, hgr, hgo, hau]
  by_cases c1 : e.Target = s.id
  · by_cases c2 : e.Group = s.gr
    · cases c3 : s.gone
      · have hturn : turnS e s = vAct s e := by simp [turnS, c1]
        have hb1 : (e.Target == s.id) = true := by simp [c1]
        have hb2 : (e.Group == s.gr) = true := by simp [c2]
        have hb3 : (e.Group != s.gr) = false := by simp [c2]
        rw [hb1, hb2]
        by_cases k1 : e.Kind = 1
        · have q1 : (e.Kind == 1) = true := by simp [k1]
          have q2 : (e.Kind == 2) = false := by simp [k1]
          have q3 : (e.Kind == 3) = false := by simp [k1]
          have q4 : (e.Kind == 4) = false := by simp [k1]
          cases ka : e.Author == s.au
          · simp only [q1, q2, q3, q4, seqF, cond_true, cond_false, Bool.not_false, h11, Option.bind_some]
            refine fin _ ?_
            rw [hturn]
            simp [vAct, vOut, hb3, c3, q1, q2, q3, q4, ka]
          · simp only [q1, q2, q3, q4, seqF, cond_true, cond_false, Bool.not_false, h11, Option.bind_some]
            refine fin _ ?_
            rw [hturn]
            simp [vAct, vOut, hb3, c3, q1, ka, hw]
        · have q1 : (e.Kind == 1) = false := by simp [k1]
          by_cases k2 : e.Kind = 2
          · have q2 : (e.Kind == 2) = true := by simp [k2]
            have q3 : (e.Kind == 3) = false := by simp [k2]
            have q4 : (e.Kind == 4) = false := by simp [k2]
            simp only [q1, q2, q3, q4, seqF, cond_true, cond_false, Bool.not_false, h11, Option.bind_some]
            refine fin _ ?_
            rw [hturn]
            simp [vAct, vOut, hb3, c3, q1, q2]
          · have q2 : (e.Kind == 2) = false := by simp [k2]
            by_cases k3 : e.Kind = 3
            · have q3 : (e.Kind == 3) = true := by simp [k3]
              simp only [q1, q2, q3, seqF, cond_true, cond_false, Bool.not_false, h11, Option.bind_some]
              refine fin _ ?_
              rw [hturn]
              simp [vAct, vOut, hb3, c3, q1, q2, q3]
            · have q3 : (e.Kind == 3) = false := by simp [k3]
              cases q4 : e.Kind == 4
              · simp only [q1, q2, q3, seqF, cond_true, cond_false, Bool.not_false, h11, Option.bind_some]
                refine fin _ ?_
                rw [hturn]
                simp [vAct, vOut, hb3, c3, q1, q2, q3, q4]
              · simp only [q1, q2, q3, seqF, cond_true, cond_false, Bool.not_false, h11, Option.bind_some]
                refine fin _ ?_
                rw [hturn]
                simp [vAct, vOut, hb3, c3, q1, q2, q3, q4]
      · have hturn : turnS e s = s := by simp [turnS, vAct, c3]
        have hb1 : (e.Target == s.id) = true := by simp [c1]
        have hb2 : (e.Group == s.gr) = true := by simp [c2]
        rw [hb1, hb2]
        simp only [seqF, cond_true, cond_false, Bool.not_true, h11, Option.bind_some]
        refine fin _ ?_
        rw [hturn]
        simp [vOut, c3]
    · have hb3 : (e.Group != s.gr) = true := by simp [c2]
      have hturn : turnS e s = s := by
        unfold turnS vAct
        rw [hb3]
        cases s.id == e.Target <;> rfl
      have hb1 : (e.Target == s.id) = true := by simp [c1]
      have hb2 : (e.Group == s.gr) = false := by simp [c2]
      rw [hb1, hb2]
      simp only [seqF, cond_true, cond_false, h11, Option.bind_some]
      refine fin _ ?_
      rw [hturn]
      rfl
  · have hturn : turnS e s = s := by
      unfold turnS
      rw [beq_false_of_ne (fun h => c1 h.symm)]
      rfl
    have hb1 : (e.Target == s.id) = false := by simp [c1]
    rw [hb1]
    simp only [seqF, cond_false, h11, Option.bind_some]
    refine fin _ ?_
    rw [hturn]
    rfl
theorem law16_ViewActs_true (a0 : (List api_Event)) (w0 : (a0.length ≤ maxLen ∧ ∀ u3 ∈ a0, (api_Event.Q u3))) (a1 : api_Event) (w1 : (api_Event.Q a1)) (hb2 : a0.length + 1 ≤ 1000000) : law16_ViewActs a0 a1 = some true := by
  obtain ⟨hlen, hq⟩ := w0
  unfold law16_ViewActs
  rw [small_true, bind_some_of rfl]
  simp only [List.nil_append]
  rw [decide_eq_true (show 0 + a0.length ≤ 1000000 by omega), decide_eq_true (show a0.length + [a1].length ≤ 1000000 from hb2), chkO_true, chkO_true]
  obtain ⟨b, hfew, hf⟩ := few_eq (a0 ++ [a1]) (by rw [List.length_append]; simp only [maxLen, List.length_cons, List.length_nil]; omega)
  rw [bind_some_of hfew]
  cases b
  · rfl
  obtain ⟨h30, hfe⟩ := hf rfl
  have hq2 : ∀ e ∈ a0 ++ [a1], api_Event.Q e := fun e he => by
    rcases List.mem_append.1 he with he | he
    · exact hq e he
    · rw [List.mem_singleton.1 he]; exact w1
  have hl : a0.length + 1 ≤ 30 := by rw [List.length_append] at h30; simpa using h30
  have hfe0 : ∀ e ∈ a0, fewE e := fun e he => hfe e (List.mem_append_left _ he)
  simp only [Bool.not_true, cond_false]
  rw [bind_some_of (Q_view (by omega) hfe0 hq), bind_some_of (Q_view (by rw [List.length_append]; simp; omega) hfe hq2)]
  have hs1 := Q_small (l := a0) (by omega) hfe0
  have hs2 := Q_small (l := a0 ++ [a1]) (by rw [List.length_append]; simp; omega) hfe
  cases hk : a1.Kind == 0
  · simp only [cond_false]
    have hl1 : (viewS (a0 ++ [a1])).length = (viewS a0).length := by
      rw [viewS_act a0 a1 hk]
      unfold viewS
      rw [List.length_map, List.length_map]
    rw [hl1, bne_self_eq_false, cond_false]
    refine seqF_inl (loop_all_true (viewS a0).length (fun i hi => ?_) ?_)
    · have hi' : i < (vRun a0 a0.length).length := by
        unfold viewS at hi
        rwa [List.length_map] at hi
      have h11 : getI (viewS (a0 ++ [a1])) (i : Int) = some (vOut (turnS a1 (vRun a0 a0.length)[i])) := by
        rw [viewS_act a0 a1 hk]
        exact vRun_at (f := fun s => vOut (turnS a1 s)) hi'
      refine acts_body hi (by omega) (vRun_at (f := vOut) hi') h11 (hs2.2 _ ?_) hk ?_
      · rw [getI_nat] at h11
        exact List.mem_of_getElem? h11
      · have := vRun_ed a0 a0.length (by omega) _ (List.getElem_mem hi')
        omega
    · unfold law16_ViewActs_L1
      rw [decide_eq_false (by omega)]
      rfl
  · simp only [cond_true]
    rw [viewS_post a0 a1 hk] at hs2 ⊢
    have hl1 : (viewS a0 ++ [vOut (vPost a0 a0.length a1)]).length = (viewS a0).length + 1 := by rw [List.length_append]; rfl
    have hw1 : IntKind.i64.wrap (((viewS a0).length : Int) + 1) = (((viewS a0).length + 1 : Nat) : Int) := by
      rw [wrap64 (by omega) (by omega)]
      omega
    rw [hl1, hw1, bne_self_eq_false, cond_false]
    have hw2 : IntKind.i64.wrap ((((viewS a0).length + 1 : Nat) : Int) - 1) = ((viewS a0).length : Int) := by
      rw [wrap64 (by omega) (by omega)]
      omega
    have hget : getI (viewS a0 ++ [vOut (vPost a0 a0.length a1)]) ((viewS a0).length : Int) = some (vOut (vPost a0 a0.length a1)) := by
      rw [getI_nat, List.getElem?_append_right (Nat.le_refl _), Nat.sub_self]
      rfl
    rw [hw2, bind_some_of hget]
    have hcut : cutO (0 : Int) ((viewS a0).length : Int) (((viewS a0).length + 1 : Nat) : Int) = true := by
      unfold cutO
      simp
      omega
    rw [hcut, chkO_true]
    have htk : List.drop (0 : Int).toNat (List.take ((viewS a0).length : Int).toNat (viewS a0 ++ [vOut (vPost a0 a0.length a1)])) = viewS a0 := by
      rw [Int.toNat_natCast]
      simp
    rw [htk, bind_some_of (sameall_refl _ (by omega) hs1.2)]
    simp only [cond_true]
    have hid : (vOut (vPost a0 a0.length a1)).Id = (a0.length : Int) := rfl
    have htx : (vOut (vPost a0 a0.length a1)).Text = a1.Text := rfl
    have hfl : (vOut (vPost a0 a0.length a1)).Files = a1.Files := rfl
    have hed : (vOut (vPost a0 a0.length a1)).Edits = 0 := rfl
    have hgo : (vOut (vPost a0 a0.length a1)).Gone = false := rfl
    have hre : (vOut (vPost a0 a0.length a1)).Reacts = [] := by
      simp [vOut, vPost, sortP]
    rw [hid, htx, hfl, hed, hgo, hre]
    have hff : a1.Files.length ≤ 1000000 := by
      have := (hfe a1 (by simp)).2.1
      omega
    simp only [beq_self_eq_true, cond_true]
    rw [bind_some_of (ints_refl _ hff)]
    rfl
end Go.Proofs.Ytpikahfgidgdbaa

/-
  ViewReacts, as plain law.
-/
import Derived.Test.YtpikahfgidgdbaaQ
import Derived.Test.YtpikahfgidgdbaaPA
import Derived.Test.YtpikahfgidgdbaaH6
namespace Go.Proofs.Ytpikahfgidgdbaa
open Go.RowKit
theorem reacts_asc {y4 : List api_Msg} {i : Nat} {s : VSt} (h : getI y4 (i : Int) = some (vOut s)) (hn : s.re.Nodup) (hl : s.re.length ≤ 1000000) : loopF (law16_ViewReacts_L1 y4 (i : Int)) 1 = some (.inl ()) := by
  have hlen : (vOut s).Reacts.length ≤ 1000000 := by
    simp only [vOut]
    cases s.gone
    · simp only [cond_false, List.length_map]
      rw [(sortP_perm s.re).length_eq]; exact hl
    · exact Nat.zero_le _
  refine loopF_inv (body := law16_ViewReacts_L1 y4 (i : Int)) (s0 := 1) ((vOut s).Reacts.length - 1) (fun k q => q = ((k + 1 : Nat) : Int)) (fun o => o = some (.inl ())) (fun k q hk hJ => ?_) (fun q hJ => ?_) rfl
  · subst hJ
    have hk' : k + 1 < (vOut s).Reacts.length := by omega
    have hg : s.gone = false := by
      cases hg : s.gone
      · rfl
      · simp [vOut, hg] at hk'
    have hr : (vOut s).Reacts = (sortP s.re).map toA := by simp [vOut, hg]
    refine Or.inl ⟨((k + 1 + 1 : Nat) : Int), ?_, rfl⟩
    unfold law16_ViewReacts_L1
    have hw : IntKind.i64.wrap (((k + 1 : Nat) : Int) - 1) = (k : Int) := by
      rw [wrap64 (by omega) (by omega)]; omega
    rw [bind_some_of h, decide_eq_true (by omega), cond_true, hw, getI_nat, getI_nat, hr]
    rw [hr, List.length_map] at hk'
    have hx : (sortP s.re)[k]? = some (sortP s.re)[k] := List.getElem?_eq_getElem (by omega)
    have hy : (sortP s.re)[k + 1]? = some (sortP s.re)[k + 1] := List.getElem?_eq_getElem hk'
    have hst := sortP_strict hn hx hy
    rw [List.getElem?_map, List.getElem?_map, hx, hy]
    simp only [Option.map_some, Option.bind_some, toA]
    rw [wrap64 (by omega) (by omega)]
    rcases hst with hst | ⟨h1, h2⟩
    · rw [decide_eq_false (by omega)]
      have : ((sortP s.re)[k].1 == (sortP s.re)[k + 1].1) = false := beq_false_of_ne (by omega)
      rw [this]
      rfl
    · rw [decide_eq_false (by omega)]
      have : ((sortP s.re)[k].1 == (sortP s.re)[k + 1].1) = true := by simp [h1]
      rw [this, decide_eq_false (by omega)]
      rfl
  · subst hJ
    refine ⟨_, ?_, rfl⟩
    unfold law16_ViewReacts_L1
    rw [bind_some_of h, decide_eq_false (by omega)]
    rfl
theorem out_reacts {s : VSt} (h : s.gone = false) : (vOut s).Reacts = (sortP s.re).map toA := by simp [vOut, h]
theorem out_has {s : VSt} (h : s.gone = false) (hl : s.re.length ≤ 1000000) (x : Pr) : law16_has (vOut s).Reacts x.1 x.2 = some (decide (x ∈ s.re)) := by
  obtain ⟨b, hb, hiff⟩ := has_eq (vOut s).Reacts (by rw [out_reacts h, List.length_map, (sortP_perm s.re).length_eq]; exact hl) x
  rw [hb]
  congr 1
  refine bool_ext ?_
  rw [hiff, decide_eq_true_eq, out_reacts h, toA_mem, (sortP_perm s.re).mem_iff]
theorem reacts_kept {y4 b c : List api_Msg} {i : Nat} {s sb sc : VSt} {who n : Int} (h4 : getI y4 (i : Int) = some (vOut s)) (hb : getI b (i : Int) = some (vOut sb)) (hc : getI c (i : Int) = some (vOut sc)) (hg : s.gone = false) (hgb : sb.gone = false) (hgc : sc.gone = false)
    (hl : s.re.length ≤ 1000) (hlb : sb.re.length ≤ 1000) (hlc : sc.re.length ≤ 1000) (h1 : ∀ x ∈ s.re, x ∈ sb.re) (h2 : ∀ x ∈ s.re, x ∈ sc.re ∨ x = (who, n)) : loopF (law16_ViewReacts_L2 y4 (i : Int) b c who n) 0 = some (.inl ()) := by
  have hlen : (vOut s).Reacts.length = s.re.length := by rw [out_reacts hg, List.length_map, (sortP_perm s.re).length_eq]
  refine loopF_inv (body := law16_ViewReacts_L2 y4 (i : Int) b c who n) (s0 := 0) s.re.length (fun k q => q = (k : Int)) (fun o => o = some (.inl ())) (fun k q hk hJ => ?_) (fun q hJ => ?_) rfl
  · subst hJ
    refine Or.inl ⟨((k + 1 : Nat) : Int), ?_, rfl⟩
    unfold law16_ViewReacts_L2
    have hk' : k < (sortP s.re).length := by rw [(sortP_perm s.re).length_eq]; exact hk
    have hget : getI (vOut s).Reacts (k : Int) = some (toA (sortP s.re)[k]) := by
      rw [out_reacts hg, getI_nat, List.getElem?_map, List.getElem?_eq_getElem hk']
      rfl
    have hm : (sortP s.re)[k] ∈ s.re := (sortP_perm s.re).mem_iff.1 (List.getElem_mem hk')
    generalize (sortP s.re)[k] = x at *
    have e1 : law16_has (vOut sb).Reacts (toA x).a0 (toA x).a1 = some (decide (x ∈ sb.re)) := out_has hgb (by omega) x
    have e2 : law16_has (vOut sc).Reacts (toA x).a0 (toA x).a1 = some (decide (x ∈ sc.re)) := out_has hgc (by omega) x
    rw [bind_some_of h4, decide_eq_true (by omega), cond_true, bind_some_of hget, bind_some_of hb, bind_some_of e1, decide_eq_true (h1 x hm), Bool.not_true, cond_false, bind_some_of hc, bind_some_of e2, wrap64 (by omega) (by omega)]
    by_cases hx : x ∈ sc.re
    · rw [decide_eq_true hx]; rfl
    · rcases h2 x hm with h | rfl
      · exact absurd h hx
      · rw [decide_eq_false hx]
        simp [toA]
  · subst hJ
    refine ⟨_, ?_, rfl⟩
    unfold law16_ViewReacts_L2
    rw [bind_some_of h4, decide_eq_false (by omega)]
    rfl
theorem law16_ViewReacts_true (a0 : (List api_Event)) (w0 : (a0.length ≤ maxLen ∧ ∀ u3 ∈ a0, (api_Event.Q u3))) (a1 : Int) (w1 : (IntKind.i64.min ≤ a1 ∧ a1 ≤ IntKind.i64.max)) (a2 : Int) (w2 : (IntKind.i64.min ≤ a2 ∧ a2 ≤ IntKind.i64.max)) (a3 : Int) (_w3 : (IntKind.i64.min ≤ a3 ∧ a3 ≤ IntKind.i64.max)) : law16_ViewReacts a0 a1 a2 a3 = some true := by
  obtain ⟨hlen, hq⟩ := w0
  unfold law16_ViewReacts
  rw [small_true, bind_some_of rfl]
  obtain ⟨b, hfew, hf⟩ := few_eq a0 hlen
  rw [bind_some_of hfew]
  cases b
  · rfl
  obtain ⟨h30, hfe⟩ := hf rfl
  simp only [Bool.not_true, cond_false]
  rw [bind_some_of (Q_view (by omega) hfe hq)]
  have hs1 := Q_small (l := a0) (by omega) hfe
  refine seqF_inl (a := ()) (loopF_inv (body := law16_ViewReacts_L3 (viewS a0) a3 a0 a1 a2) (s0 := 0) (viewS a0).length (fun i q => q = (i : Int)) (fun o => o = some (.inl ())) (fun i q hi hJ => ?_) (fun q hJ => ?_) rfl)
  · subst hJ
    refine Or.inl ⟨((i + 1 : Nat) : Int), ?_, rfl⟩
    have hi' : i < (vRun a0 a0.length).length := by
      unfold viewS at hi
      rwa [List.length_map] at hi
    have hget : getI (viewS a0) (i : Int) = some (vOut (vRun a0 a0.length)[i]) := vRun_at (f := vOut) hi'
    have hnd := vRun_re a0 a0.length _ (List.getElem_mem hi')
    have hsm := vRun_small a0 (m := 1000000) (fun e he => by have := (hfe e he).2.1; omega) a0.length _ (List.getElem_mem hi')
    unfold law16_ViewReacts_L3
    rw [decide_eq_true (by omega), cond_true]
    refine (seqF_inl (a := ()) ?_).trans (by rw [wrap64 (by omega) (by omega)]; rfl)
    refine (seqF_inl (a := ()) (reacts_asc hget hnd (by omega))).trans ?_
    rw [bind_some_of hget]
    have hEach : ∀ e : api_Event, (e.Kind == 0) = false → getI ((vRun a0 a0.length).map fun s => vOut (turnS e (turnS e s))) (i : Int) = some (vOut (turnS e (turnS e (vRun a0 a0.length)[i]))) := fun e _ => vRun_at (f := fun s => vOut (turnS e (turnS e s))) hi'
    generalize hsi : (vRun a0 a0.length)[i] = s at *
    have hgo : (vOut s).Gone = s.gone := rfl
    have hid : (vOut s).Id = s.id := rfl
    have hgr : (vOut s).Group = s.gr := rfl
    rw [hgo, hid, hgr]
    cases hg : s.gone
    · by_cases hat : s.id = a3
      · have hne : (s.id != a3) = false := by simp [hat]
        rw [hne]
        simp only [cond_false, List.nil_append]
        rw [decide_eq_true (show 0 + a0.length ≤ 1000000 by omega), chkO_true]
        obtain ⟨eR, heR⟩ : ∃ e, e = (api_Event.mk a1 (0 : Int) ([] : List Int) (3 : Int) s.gr a3 (0 : Int) (0 : Int) a2 (ByteArray.mk #[]) ([] : List Int) (0 : Int)) := ⟨_, rfl⟩
        obtain ⟨eU, heU⟩ : ∃ e, e = (api_Event.mk a1 (0 : Int) ([] : List Int) (4 : Int) s.gr a3 (0 : Int) (0 : Int) a2 (ByteArray.mk #[]) ([] : List Int) (0 : Int)) := ⟨_, rfl⟩
        rw [← heR, ← heU]
        have hok : ∀ e : api_Event, e.Files = [] → e.Author = a1 → e.N = a2 → view_View (a0 ++ [e, e]) = some (viewS (a0 ++ [e, e])) := fun e h1 h2 h3 => view_eq (by rw [List.length_append]; simp; omega) fun x hx => by
          rcases List.mem_append.1 hx with hx | hx
          · exact ⟨by have := (hfe x hx).2.1; omega, (hq x hx).1, (hq x hx).2.2.2.2.2.2.2.2.1⟩
          · have : x = e := by simpa using hx
            subst this
            exact ⟨by rw [h1]; exact Nat.zero_le _, by rw [h2]; exact w1, by rw [h3]; exact w2⟩
        rw [decide_eq_true (show a0.length + [eR, eR].length ≤ 1000000 by simp; omega), chkO_true, bind_some_of (hok eR (by rw [heR]) (by rw [heR]) (by rw [heR]))]
        rw [decide_eq_true (show a0.length + [eU, eU].length ≤ 1000000 by simp; omega), chkO_true, bind_some_of (hok eU (by rw [heU]) (by rw [heU]) (by rw [heU]))]
        have kR : (eR.Kind == 0) = false := by rw [heR]; rfl
        have kU : (eU.Kind == 0) = false := by rw [heU]; rfl
        have lR : (viewS (a0 ++ [eR, eR])).length = (viewS a0).length := by rw [viewS_two a0 eR kR]; unfold viewS; rw [List.length_map, List.length_map]
        have lU : (viewS (a0 ++ [eU, eU])).length = (viewS a0).length := by rw [viewS_two a0 eU kU]; unfold viewS; rw [List.length_map, List.length_map]
        rw [lR, lU, bne_self_eq_false, cond_false]
        have tR : turnS eR (turnS eR s) = { s with re := putP s.re (a1, a2) } := by
          have h1 : turnS eR s = { s with re := putP s.re (a1, a2) } := by rw [heR]; simp [turnS, vAct, hat, hg]
          have h2 : turnS eR { s with re := putP s.re (a1, a2) } = { s with re := putP (putP s.re (a1, a2)) (a1, a2) } := by rw [heR]; simp [turnS, vAct, hat, hg]
          rw [h1, h2, putP_twice]
        have tU : turnS eU (turnS eU s) = { s with re := s.re.erase (a1, a2) } := by
          have h1 : turnS eU s = { s with re := s.re.erase (a1, a2) } := by rw [heU]; simp [turnS, vAct, hat, hg]
          have h2 : turnS eU { s with re := s.re.erase (a1, a2) } = { s with re := (s.re.erase (a1, a2)).erase (a1, a2) } := by rw [heU]; simp [turnS, vAct, hat, hg]
          rw [h1, h2, List.erase_of_not_mem (a := (a1, a2)) (l := s.re.erase (a1, a2)) (fun hm => (hnd.mem_erase_iff.1 hm).1 rfl)]
        have gR : getI (viewS (a0 ++ [eR, eR])) (i : Int) = some (vOut { s with re := putP s.re (a1, a2) }) := by rw [viewS_two a0 eR kR, hEach eR kR, tR]
        have gU : getI (viewS (a0 ++ [eU, eU])) (i : Int) = some (vOut { s with re := s.re.erase (a1, a2) }) := by rw [viewS_two a0 eU kU, hEach eU kU, tU]
        have nR := putP_len s.re (a1, a2)
        have nU := erase_len s.re (a1, a2)
        have n30 : s.re.length ≤ 30 := by omega
        have lenR : (vOut { s with re := putP s.re (a1, a2) }).Reacts.length = (putP s.re (a1, a2)).length := by rw [out_reacts (s := { s with re := putP s.re (a1, a2) }) hg, List.length_map, (sortP_perm _).length_eq]
        have lenU : (vOut { s with re := s.re.erase (a1, a2) }).Reacts.length = (s.re.erase (a1, a2)).length := by rw [out_reacts (s := { s with re := s.re.erase (a1, a2) }) hg, List.length_map, (sortP_perm _).length_eq]
        have lenS : (vOut s).Reacts.length = s.re.length := by rw [out_reacts hg, List.length_map, (sortP_perm _).length_eq]
        have hp : (if (a1, a2) ∈ s.re then 0 else 1) ≤ 1 := by split <;> omega
        have hasS := out_has hg (by omega) (a1, a2)
        have hasR : law16_has (vOut { s with re := putP s.re (a1, a2) }).Reacts a1 a2 = some true := by
          have := out_has (s := { s with re := putP s.re (a1, a2) }) hg (show (putP s.re (a1, a2)).length ≤ 1000000 by omega) (a1, a2)
          rw [decide_eq_true (mem_putP.2 (Or.inr rfl))] at this
          exact this
        have hasU : law16_has (vOut { s with re := s.re.erase (a1, a2) }).Reacts a1 a2 = some false := by
          have := out_has (s := { s with re := s.re.erase (a1, a2) }) hg (show (s.re.erase (a1, a2)).length ≤ 1000000 by omega) (a1, a2)
          rw [decide_eq_false (fun hm => (hnd.mem_erase_iff.1 hm).1 rfl)] at this
          exact this
        have hwas : ∀ z : Int, z = (if (a1, a2) ∈ s.re then 1 else 0) → (IntKind.i64.wrap (IntKind.i64.wrap ((s.re.length : Int) + 1) - z) = ((putP s.re (a1, a2)).length : Int) ∧ IntKind.i64.wrap ((s.re.length : Int) - z) = ((s.re.erase (a1, a2)).length : Int)) := by
          intro z hz
          rw [wrap64 (n := (s.re.length : Int) + 1) (by omega) (by omega)]
          by_cases hm : (a1, a2) ∈ s.re
          · rw [if_pos hm] at hz nR nU
            have := List.length_pos_of_mem hm
            subst hz
            rw [wrap64 (by omega) (by omega), wrap64 (by omega) (by omega)]
            omega
          · rw [if_neg hm] at hz nR nU
            subst hz
            rw [wrap64 (by omega) (by omega), wrap64 (by omega) (by omega)]
            omega
        have hkept := reacts_kept (who := a1) (n := a2) hget gR gU hg hg hg (by omega) (show (putP s.re (a1, a2)).length ≤ 1000 by omega) (show (s.re.erase (a1, a2)).length ≤ 1000 by omega) (fun x hx => mem_putP.2 (Or.inl hx)) (fun x hx => by
          by_cases hxx : x = (a1, a2)
          · exact Or.inr hxx
          · exact Or.inl ((List.mem_erase_of_ne hxx).2 hx))
        have tail : ∀ z : Int, z = (if (a1, a2) ∈ s.re then 1 else 0) → (getI (viewS (a0 ++ [eR, eR])) (i : Int)).bind (fun x1452 =>
            (law16_has x1452.Reacts a1 a2).bind fun y1453 => bif !y1453 then some (.inr (.inr (.inr false))) else
              (getI (viewS (a0 ++ [eU, eU])) (i : Int)).bind fun x1454 => (law16_has x1454.Reacts a1 a2).bind fun y1455 => bif y1455 then some (.inr (.inr (.inr false))) else
                (getI (viewS a0) (i : Int)).bind fun x1456 => bif ((x1452.Reacts.length : Int) != (IntKind.i64.wrap ((IntKind.i64.wrap ((x1456.Reacts.length : Int) + (1 : Int))) - z))) then some (.inr (.inr (.inr false))) else
                  bif ((x1454.Reacts.length : Int) != (IntKind.i64.wrap ((x1456.Reacts.length : Int) - z))) then some (.inr (.inr (.inr false))) else loopF (law16_ViewReacts_L2 (viewS a0) (i : Int) (viewS (a0 ++ [eR, eR])) (viewS (a0 ++ [eU, eU])) a1 a2) (0 : Int)) = some (.inl ()) := by
          intro z hz
          obtain ⟨z1, z2⟩ := hwas z hz
          rw [bind_some_of gR, bind_some_of hasR, Bool.not_true, cond_false, bind_some_of gU, bind_some_of hasU, cond_false, bind_some_of hget, lenR, lenU, lenS, z1, z2, bne_self_eq_false, cond_false, bne_self_eq_false, cond_false]
          exact hkept
        by_cases hm : (a1, a2) ∈ s.re
        · refine (seqF_inl (a := (1 : Int)) ?_).trans (tail 1 (by rw [if_pos hm]))
          rw [bind_some_of hasS, decide_eq_true hm]
          rfl
        · refine (seqF_inl (a := (0 : Int)) ?_).trans (tail 0 (by rw [if_neg hm]))
          rw [bind_some_of hasS, decide_eq_false hm]
          rfl
      · have hne : (s.id != a3) = true := by simp [hat]
        rw [hne]
        rfl
    · rfl
  · subst hJ
    refine ⟨_, ?_, rfl⟩
    unfold law16_ViewReacts_L3
    rw [decide_eq_false (by omega)]
    rfl
end Go.Proofs.Ytpikahfgidgdbaa

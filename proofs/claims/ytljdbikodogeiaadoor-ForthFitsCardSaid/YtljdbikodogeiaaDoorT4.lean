/-
  The law ForthFits answers true, as plain Lean.
-/
import Derived.Test.YtljdbikodogeiaaDoorBB
import Derived.Test.YtljdbikodogeiaaDoorH4
import Derived.Test.YtljdbikodogeiaaDoorT3
namespace Go.Proofs.YtljdbikodogeiaaDoor
open Go.RowKit
theorem fits_L1 (ev : List api_Event) (hl : ev.length ≤ 14) : (loopF (law21_ForthFits_L1 ev true) (0 : Int) = some (.inl ()) ∧ ∀ i, i < ev.length → ((ev.getD i e0).Kind = 3 ∨ (ev.getD i e0).Kind = 4) → 1 ≤ (ev.getD i e0).N) ∨ loopF (law21_ForthFits_L1 ev true) (0 : Int) = some (.inr true) := by
  refine loopF_inv (body := law21_ForthFits_L1 ev true) ev.length (fun i s => s = (i : Int) ∧ ∀ j, j < i → ((ev.getD j e0).Kind = 3 ∨ (ev.getD j e0).Kind = 4) → 1 ≤ (ev.getD j e0).N) (fun r => (r = some (.inl ()) ∧ ∀ i, i < ev.length → ((ev.getD i e0).Kind = 3 ∨ (ev.getD i e0).Kind = 4) → 1 ≤ (ev.getD i e0).N) ∨ r = some (.inr true)) (fun i s hi hs => ?_) (fun s hs => ?_) ⟨rfl, fun j hj => absurd hj (Nat.not_lt_zero _)⟩
  · obtain ⟨rfl, hN⟩ := hs
    have hlt : decide ((i : Int) < (ev.length : Int)) = true := decide_eq_true (by omega)
    have hw : IntKind.i64.wrap ((i : Int) + 1) = ((i + 1 : Nat) : Int) := by rw [wrap64 (by omega) (by omega)]; omega
    have next : (((ev.getD i e0).Kind = 3 ∨ (ev.getD i e0).Kind = 4) → 1 ≤ (ev.getD i e0).N) → ∀ j, j < i + 1 → ((ev.getD j e0).Kind = 3 ∨ (ev.getD j e0).Kind = 4) → 1 ≤ (ev.getD j e0).N := by
      intro h j hj
      by_cases hji : j = i
      · rw [hji]; exact h
      · exact hN j (by omega)
    unfold law21_ForthFits_L1
    simp only [hlt, cond_true, getI_in e0 hi, bind_s, hw]
    by_cases hn : (ev.getD i e0).N < 1
    · rw [decide_eq_true hn]
      cases h3 : (ev.getD i e0).Kind == 3
      · cases h4 : (ev.getD i e0).Kind == 4
        · left
          refine ⟨_, rfl, rfl, next fun h => ?_⟩
          rw [beq_eq_false_iff_ne] at h3 h4
          rcases h with h | h
          · exact absurd h h3
          · exact absurd h h4
        · right
          exact ⟨_, rfl, Or.inr rfl⟩
      · right
        exact ⟨_, rfl, Or.inr rfl⟩
    · rw [decide_eq_false hn]
      left
      cases (ev.getD i e0).Kind == 3
      · cases (ev.getD i e0).Kind == 4
        · exact ⟨_, rfl, rfl, next fun _ => by omega⟩
        · exact ⟨_, rfl, rfl, next fun _ => by omega⟩
      · exact ⟨_, rfl, rfl, next fun _ => by omega⟩
  · obtain ⟨rfl, hN⟩ := hs
    refine ⟨.inl (), ?_, Or.inl ⟨rfl, hN⟩⟩
    unfold law21_ForthFits_L1
    simp only [Int.lt_irrefl, decide_false, cond_false]
theorem many_eq {p : api_Profile} (hp : ProfOk p) (hc : chk p = 0) {ev : List api_Event} {bad : List Int} (h : NetOk (netOf p ev bad)) {id : Int} (h1 : 0 ≤ id) (h2 : id < (ev.length : Int)) (hk : (ev.getD id.toNat e0).Kind = 0) : forth_Many p (compS p) ev bad id = some (((firstS' (netOf p ev bad) id).length : Nat) : Int) := by
  unfold forth_Many
  rw [forth_eq hp hc h, bind_s]
  unfold forthS allS
  rw [decide_eq_false (show ¬ id < 0 by omega), decide_eq_false (show ¬ (ev.length : Int) ≤ id by omega), ne_ev, hk]
  rfl
theorem fits_L2 {p : api_Profile} (hp : ProfOk p) (hc : chk p = 0) {ev : List api_Event} {bad : List Int} (h : NetOk (netOf p ev bad)) {id : Int} (h1 : 0 ≤ id) (h2 : id < (ev.length : Int)) (hg : PlacedL p ev bad id (allS (netOf p ev bad) id)) :
    loopF (law21_ForthFits_L2 (allS (netOf p ev bad) id, (0 : Int)) id p bad ev (compS p, (0 : Int))) (0 : Int) = some (.inl ()) := by
  obtain ⟨l1, l2⟩ := files_len h h1 h2
  generalize allS (netOf p ev bad) id = l at hg l1 l2 ⊢
  have hk := loopF_idx (body := law21_ForthFits_L2 (l, (0 : Int)) id p bad ev (compS p, (0 : Int))) l.length (fun _ => true) (.inr (.inr false)) (fun i hi => by
    have hlt : decide ((i : Int) < ((l.length : Nat) : Int)) = true := decide_eq_true (by omega)
    have h0 : decide ((0 : Int) ≤ (i : Int)) = true := decide_eq_true (by omega)
    have hw : IntKind.i64.wrap ((i : Int) + 1) = (i : Int) + 1 := wrap64 (by omega) (by omega)
    have hx := hg i hi
    have hf := hx.fit.files
    have hb : bad.length ≤ 12 := h.bad
    have hmf : p.Files ≤ 4 := by
      have := hc
      unfold chk at this
      cases a1 : profB p
      · rw [a1] at this; cases this
      cases a2 : rngP p
      · rw [a1, a2] at this; cases this
      unfold rngP at a2
      simp only [Bool.and_eq_true, decide_eq_true_eq] at a2
      exact a2.1.1.1.1.1.2
    unfold law21_ForthFits_L2
    simp only [hlt, h0, cond_true, Bool.and_self, chkO_true, getI_in i0 hi, bind_s, hw]
    generalize l.getD i i0 = x at hx hf
    rw [show (x.Event != id) = false by rw [hx.event]; simp, show (x.Part != (i : Int)) = false by rw [hx.part]; simp, show (x.Of != ((l.length : Nat) : Int)) = false by rw [hx.of]; simp, fits_eq hx.fit (by omega) (by omega)]
    simp only [cond_false, bind_s, Bool.not_true]
    have act : x.Kind = 1 ∨ x.Kind = 2 → ((getI ev id).bind fun x797 => (bif (x.On != x797.Target) then some (.inr (.inr (.inr (.inr false)))) else (bif (x.OnPart != (i : Int)) then some (.inr (.inr (.inr (.inr false)))) else (forth_Many p (compS p) ev bad x.On).bind fun y798 => (bif (((l.length : Nat) : Int) != y798) then some (.inr (.inr (.inr (.inr false)))) else some (.inl ((i : Int) + 1)))))) = (some (.inl ((i : Int) + 1)) : Option ((Int) ⊕ ((Unit) ⊕ ((Int) ⊕ ((Unit) ⊕ (Bool)))))) := by
      intro hk
      obtain ⟨q1, q2, q3, q4, q5, q6⟩ := hx.act hk
      rw [ev_at h1 h2, bind_s, show (x.On != (ev.getD id.toNat e0).Target) = false by rw [q1]; simp, show (x.OnPart != (i : Int)) = false by rw [q2]; simp, many_eq hp hc h q3 q4 q5]
      simp only [cond_false, bind_s]
      rw [← q6, show (((l.length : Nat) : Int) != ((l.length : Nat) : Int)) = false by simp]
      rfl
    cases k1 : x.Kind == 1
    · cases k2 : x.Kind == 2
      · simp only [cond_false, seqF_l]
        cases k0 : x.Kind == 0
        · rfl
        · have k0 : x.Kind = 0 := by simpa using k0
          simp only [cond_true]
          by_cases hi0 : (0 : Int) < (i : Int)
          · obtain ⟨q1, q2, q3, q4⟩ := hx.post k0 (by omega)
            rw [decide_eq_true hi0, q1, q2, q3, q4]
            rfl
          · rw [decide_eq_false hi0]
            rfl
      · simp only [cond_false, seqF_l, cond_true]
        exact act (Or.inr (by simpa using k2))
    · simp only [seqF_l, cond_true]
      exact act (Or.inl (by simpa using k1))) (by
    unfold law21_ForthFits_L2
    simp only [Int.lt_irrefl, decide_false, cond_false])
  rw [hk, all_true]
  rfl
theorem law21_ForthFits_true (a0 : api_Profile) (w0 : (api_Profile.Q a0)) (a1 : (List api_Event)) (w1 : (a1.length ≤ maxLen ∧ ∀ u4 ∈ a1, (api_Event.Q u4))) (a2 : (List Int)) (_w2 : (a2.length ≤ maxLen ∧ ∀ u5 ∈ a2, (IntKind.i64.min ≤ u5 ∧ u5 ≤ IntKind.i64.max))) : law21_ForthFits a0 a1 a2 = some true := by
  have hp := prof_ok w0
  unfold law21_ForthFits
  rw [small_true, bind_s, compile_eq _ hp, bind_s, few_eq, bind_s]
  cases hf : fewB a1 a2
  · rfl
  cases hc : chk a0 != 0
  case true =>
    simp only [Bool.not_true, cond_false, cond_true]
    rw [hc]
    rfl
  have hc : chk a0 = 0 := by simpa using hc
  simp only [Bool.not_true, cond_false]
  have e0' : ((0 : Int) != 0) = false := rfl
  simp only [e0', cond_false]
  have hnet := net_ok (bad := a2) hc hf (ev_ints w1.2)
  have hlen : a1.length ≤ 14 := hnet.ev
  rcases fits_L1 a1 hlen with ⟨h1, hN⟩ | h1
  · rw [h1, seqF_l]
    have hk := loopF_idx (body := law21_ForthFits_L3 a1 a0 (compS a0, (0 : Int)) a2) a1.length (fun _ => true) false (fun i hi => by
      have hlt : decide ((i : Int) < (a1.length : Int)) = true := decide_eq_true (by omega)
      have hw : IntKind.i64.wrap ((i : Int) + 1) = (i : Int) + 1 := wrap64 (by omega) (by omega)
      have i1 : (0 : Int) ≤ (i : Int) := by omega
      have i2 : (i : Int) < (a1.length : Int) := by omega
      have hg := all_good a0 a1 a2 hnet (i : Int) (by simpa using hN i hi)
      have h2 := fits_L2 hp hc hnet i1 i2 hg
      have hfs : forthS a0 a1 a2 (i : Int) = (allS (netOf a0 a1 a2) (i : Int), 0) := by
        unfold forthS
        rw [decide_eq_false (show ¬ (i : Int) < 0 by omega), decide_eq_false (show ¬ (a1.length : Int) ≤ (i : Int) by omega)]
        rfl
      unfold law21_ForthFits_L3
      simp only [hlt, cond_true, hw]
      rw [forth_eq hp hc hnet, bind_s, hfs, e0', cond_false, ev_at i1 i2, bind_s]
      have mid : ((bif ((a1.getD (i : Int).toNat e0).Kind == (0 : Int)) then (bif (decide (((((allS (netOf a0 a1 a2) (i : Int)), (0 : Int)).1.length : Nat) : Int) < (1 : Int))) then some (.inr (.inr (.inr (.inr false)))) else (bif (decide (a0.Parts < ((((allS (netOf a0 a1 a2) (i : Int)), (0 : Int)).1.length : Nat) : Int))) then some (.inr (.inr (.inr (.inr false)))) else some (.inl ()))) else some (.inl ())) : Option (Unit ⊕ (Unit ⊕ (Int ⊕ (Unit ⊕ Bool))))) = some (.inl ()) := by
        cases hk : (a1.getD (i : Int).toNat e0).Kind == (0 : Int)
        · rfl
        · have e : allS (netOf a0 a1 a2) (i : Int) = firstS' (netOf a0 a1 a2) (i : Int) := by
            unfold allS
            rw [ne_ev, hk]
            rfl
          have hl := first_len hnet (i : Int)
          have hpp : 1 ≤ a0.Parts ∧ a0.Parts ≤ 20 := hnet.parts
          rw [ne_p] at hl
          rw [e]
          simp only [cond_true]
          rw [decide_eq_false (by omega), decide_eq_false (by omega)]
          rfl
      rw [mid, seqF_l, h2]
      rfl) (by
      unfold law21_ForthFits_L3
      simp only [Int.lt_irrefl, decide_false, cond_false])
    rw [hk, all_true]
    rfl
  · rw [h1, seqF_r]
end Go.Proofs.YtljdbikodogeiaaDoor

/-
  What a link gives in few steps (plain law of layers 28 and 29).
-/
import Derived.Test.YtafgcjodefafoaaP12
namespace Go.Proofs.Ytafgcjodefafoaa
open Go.RowKit
theorem times_small {p : api_Profile} (h : ChkOk p) {s : Int} (_h0 : 0 ≤ s) (h1 : s ≤ 60) : timesS p s = (p.Rate * s, 0) := by
  unfold timesS
  by_cases hs : 0 < s
  · have h2 : (4503599627370496 : Int) / 60 ≤ 4503599627370496 / s := div_anti (by omega) hs h1
    have h3 : (4503599627370496 : Int) / 60 = 75059993789508 := by decide
    have := h.rateM
    have hr : ¬ 4503599627370496 / s < p.Rate := by omega
    simp [hr]
  · simp [hs]
theorem gives_small {p : api_Profile} (h0 : chk p = 0) {now due : Int} (t0 : 0 ≤ due - now) (t1 : due - now ≤ 60) : givesS p now due = p.Rate * stepsS p (due - now) := by
  have hok := chk_ok h0
  obtain ⟨s0, s1, _⟩ := stepsS_range hok t0
  have h1 : ¬ due < now := by omega
  have h2 : due - now ≤ 1073741824 := by omega
  unfold givesS leastS
  simp only [h1, decide_false, cond_false, h0, t0, h2, decide_true, Bool.and_self, beq_self_eq_true, cond_true]
  rw [times_small hok s0 (by omega)]
  rfl
theorem take_load {p : api_Profile} {jobs : List api_Job} {now : Int} (h : okA p jobs now = true) {i : Nat} (hi : i < jobs.length) (hk : ∀ k, k < i → late p now (ordR jobs) k = false) : PlanOk p ((ordR jobs).take i) now := by
  obtain ⟨c0, v, n0, n1⟩ := okA_iff.1 h
  obtain ⟨v1, v2, v3⟩ := valid_ok v
  have hids := ord_ids v
  have hmem : ∀ x ∈ ordR jobs, okJ x = true := fun x hx => v1 x ((ordR_perm jobs).mem_iff.1 hx)
  have hs : ((ordR jobs).take i).Sublist (ordR jobs) := List.take_sublist _ _
  refine ⟨okA_iff.2 ⟨c0, valid_of (fun x hx => hmem x (hs.subset hx)) (by rw [List.length_take]; omega) (hids.sublist hs), n0, n1⟩, fun j hj => ?_⟩
  rw [List.mem_take_iff_getElem] at hj
  obtain ⟨k, hk', rfl⟩ := hj
  have hkl : k < (ordR jobs).length := by omega
  have e : (ordR jobs).getD k j0 = (ordR jobs)[k] := by rw [List.getD_eq_getElem?_getD, List.getElem?_eq_getElem hkl]; rfl
  have h1 := hk k (by omega)
  unfold late give at h1
  rw [need_load (ordR_sorted jobs) hids hkl, e] at h1
  have h2 : loadJ ((ordR jobs).take i) (ordR jobs)[k] ≤ loadJ (ordR jobs) (ordR jobs)[k] := sumS_sublist (hs.filter _) fun x hx => hmem x (List.mem_filter.1 hx).1
  simp at h1
  omega
end Go.Proofs.Ytafgcjodefafoaa

/-
  Plans without their order: what stands before a job, and when a plan is made (plain law of layer 29).
-/
import Derived.Test.YtafgcjodefafoaaQ
namespace Go.Proofs.Ytafgcjodefafoaa
open Go.RowKit
/-- what the jobs up to a job need -/
def loadJ (jobs : List api_Job) (j : api_Job) : Int := sumS (jobs.filter fun k => leJ k j)
theorem leJ_refl (a : api_Job) : leJ a a = true := by rw [leJ_iff]; omega
theorem leJ_trans {a b c : api_Job} (h : leJ a b = true) (k : leJ b c = true) : leJ a c = true := by
  rw [leJ_iff] at h k ⊢; omega
theorem leJ_total (a b : api_Job) : leJ a b = true ∨ leJ b a = true := by
  rw [leJ_iff, leJ_iff]; omega
theorem load_perm {a b : List api_Job} (h : a.Perm b) (j : api_Job) : loadJ a j = loadJ b j := sumS_perm (h.filter _)
theorem load_append (a b : List api_Job) (j : api_Job) : loadJ (a ++ b) j = loadJ a j + loadJ b j := by
  unfold loadJ
  rw [List.filter_append, sumS_append]
theorem need_load {l : List api_Job} (hs : l.Pairwise fun a b => leJ a b = true) (hd : l.Pairwise fun a b => a.Id ≠ b.Id) {i : Nat} (hi : i < l.length) : need l i = loadJ l (l.getD i j0) := by
  unfold need loadJ
  have hx : l.getD i j0 = l[i] := by rw [List.getD_eq_getElem?_getD, List.getElem?_eq_getElem hi]; rfl
  rw [hx]
  rw [List.pairwise_iff_getElem] at hs hd
  have h1 : (l.take (i + 1)).filter (fun k => leJ k l[i]) = l.take (i + 1) := by
    rw [List.filter_eq_self]
    intro a ha
    rw [List.mem_take_iff_getElem] at ha
    obtain ⟨k, hk, rfl⟩ := ha
    by_cases hki : k = i
    · subst hki; exact leJ_refl _
    · exact hs k i (by omega) hi (by omega)
  have h2 : (l.drop (i + 1)).filter (fun k => leJ k l[i]) = [] := by
    rw [List.filter_eq_nil_iff]
    intro a ha
    obtain ⟨k, hk, rfl⟩ := List.mem_iff_getElem.1 ha
    rw [List.length_drop] at hk
    rw [List.getElem_drop]
    have e1 := hs i (i + 1 + k) hi (by omega) (by omega)
    have e2 := hd i (i + 1 + k) hi (by omega) (by omega)
    rw [leJ_iff] at e1
    rw [leJ_iff]
    omega
  have : l.filter (fun k => leJ k l[i]) = l.take (i + 1) := by
    have e : l = l.take (i + 1) ++ l.drop (i + 1) := (List.take_append_drop _ _).symm
    calc l.filter (fun k => leJ k l[i]) = (l.take (i + 1) ++ l.drop (i + 1)).filter (fun k => leJ k l[i]) := by rw [← e]
      _ = l.take (i + 1) := by rw [List.filter_append, h1, h2, List.append_nil]
  rw [this]
/-- a plan is made -/
structure PlanOk (p : api_Profile) (jobs : List api_Job) (now : Int) : Prop where
  ok : okA p jobs now = true
  fits : ∀ j ∈ jobs, loadJ jobs j ≤ givesS p now j.Due
theorem okA_iff {p : api_Profile} {jobs : List api_Job} {now : Int} : okA p jobs now = true ↔ chk p = 0 ∧ validB jobs = true ∧ 0 ≤ now ∧ now ≤ 1073741824 := by
  unfold okA
  simp only [Bool.and_eq_true, beq_iff_eq, decide_eq_true_eq]
  constructor
  · rintro ⟨⟨⟨h1, h2⟩, h3⟩, h4⟩
    exact ⟨h1, h2, h3, h4⟩
  · rintro ⟨h1, h2, h3, h4⟩
    exact ⟨⟨⟨h1, h2⟩, h3⟩, h4⟩
theorem ord_ids {jobs : List api_Job} (h : validB jobs = true) : (ordR jobs).Pairwise fun a b => a.Id ≠ b.Id :=
  ((ordR_perm jobs).pairwise_iff (fun h e => h e.symm)).2 (valid_ok h).2.2
theorem need_of {jobs : List api_Job} (h : validB jobs = true) {i : Nat} (hi : i < jobs.length) : need (ordR jobs) i = loadJ jobs ((ordR jobs).getD i j0) := by
  rw [need_load (ordR_sorted jobs) (ord_ids h) (by rw [ordR_len]; exact hi), load_perm (ordR_perm jobs)]
theorem nolate_iff {p : api_Profile} {jobs : List api_Job} {now : Int} (h : okA p jobs now = true) : (List.range jobs.length).find? (late p now (ordR jobs)) = none ↔ PlanOk p jobs now := by
  have hv := (okA_iff.1 h).2.1
  rw [List.find?_range_eq_none]
  constructor
  · intro hk
    refine ⟨h, fun j hj => ?_⟩
    obtain ⟨i, hi, rfl⟩ := List.mem_iff_getElem.1 ((ordR_perm jobs).mem_iff.2 hj)
    have hi' : i < jobs.length := by rw [← ordR_len]; exact hi
    have := hk i hi'
    unfold late give at this
    rw [need_of hv hi'] at this
    have e : (ordR jobs).getD i j0 = (ordR jobs)[i] := by rw [List.getD_eq_getElem?_getD, List.getElem?_eq_getElem hi]; rfl
    rw [e] at this
    simpa using this
  · intro hp i hi
    have hi' : i < (ordR jobs).length := by rw [ordR_len]; exact hi
    have := hp.fits _ ((ordR_perm jobs).mem_iff.1 (getD_mem hi'))
    unfold late give
    rw [need_of hv hi]
    simpa using this
theorem plan_ok {p : api_Profile} {jobs : List api_Job} {now : Int} : (planS p jobs now).2.2 = 0 ↔ PlanOk p jobs now := by
  unfold planS
  cases h : okA p jobs now
  · simp only [cond_false]
    constructor
    · intro h; cases h
    · intro hp
      have := hp.ok
      rw [h] at this
      cases this
  · rw [← nolate_iff h]
    simp only [cond_true]
    split
    · rename_i i hi
      rw [hi]
      constructor <;> intro h <;> cases h
    · rename_i hi
      exact ⟨fun _ => hi, fun _ => rfl⟩
theorem plan_ok_val {p : api_Profile} {jobs : List api_Job} {now : Int} (h : PlanOk p jobs now) : planS p jobs now = ((List.range jobs.length).map (slackS p now (ordR jobs)), -1, 0) := by
  have h2 := (nolate_iff h.ok).2 h
  unfold planS
  rw [h.ok, h2]
  rfl
theorem slack_ok {p : api_Profile} {jobs : List api_Job} {now : Int} (h : PlanOk p jobs now) {i : Nat} (hi : i < jobs.length) : 0 ≤ slackS p now (ordR jobs) i := by
  have := List.find?_range_eq_none.1 ((nolate_iff h.ok).2 h) i hi
  unfold late at this
  unfold slackS
  simp at this
  omega
/- what a link gives grows -/
theorem div_anti {a b c : Int} (hc : 0 ≤ c) (ha : 0 < a) (h : a ≤ b) : c / b ≤ c / a := by
  have h1 := Int.ediv_mul_le c (b := b) (by omega)
  have h2 : 0 ≤ c / b := Int.ediv_nonneg hc (by omega)
  have h3 : c / b * a ≤ c / b * b := Int.mul_le_mul_of_nonneg_left h h2
  exact Int.le_ediv_of_mul_le ha (by omega)
theorem gives_mono {p : api_Profile} (h : chk p = 0) {now now' d d' : Int} (h1 : d - now ≤ d' - now') (h2 : d' - now' ≤ 1073741824) : givesS p now d ≤ givesS p now' d' := by
  have hok := chk_ok h
  by_cases hd : d < now
  · have : givesS p now d = 0 := by unfold givesS; simp [hd]
    rw [this]
    exact (gives_range now' d' h h2).1
  · have hd' : ¬ d' < now' := by omega
    have h0 : 0 ≤ d - now := by omega
    have h0' : 0 ≤ d' - now' := by omega
    have hm : d - now ≤ 1073741824 := by omega
    have hs : stepsS p (d - now) ≤ stepsS p (d' - now') := by
      have := stepsS_mono hok h0 (d' - now' - (d - now)).toNat
      rw [show d - now + ((d' - now' - (d - now)).toNat : Int) = d' - now' by omega] at this
      exact this
    obtain ⟨s0, _, _⟩ := stepsS_range hok h0
    have val : ∀ t : Int, 0 ≤ t → t ≤ 1073741824 → ∀ n e : Int, e - n = t → givesS p n e = if 0 < stepsS p t ∧ 4503599627370496 / stepsS p t < p.Rate then 4503599627370496 else p.Rate * stepsS p t := by
      intro t t0 t1 n e he
      have hne : ¬ e < n := by omega
      unfold givesS leastS timesS
      rw [he]
      simp only [hne, decide_false, cond_false, h, t0, t1, decide_true, Bool.and_self, beq_self_eq_true, cond_true]
      by_cases c1 : 0 < stepsS p t
      · by_cases c2 : 4503599627370496 / stepsS p t < p.Rate
        · simp [c1, c2]
        · simp [c1, c2]
      · simp [c1]
    rw [val _ h0 hm now d rfl, val _ h0' h2 now' d' rfl]
    have hr := hok.rate
    by_cases c1 : 0 < stepsS p (d - now) ∧ 4503599627370496 / stepsS p (d - now) < p.Rate
    · have c2 : 0 < stepsS p (d' - now') ∧ 4503599627370496 / stepsS p (d' - now') < p.Rate := by
        refine ⟨by omega, ?_⟩
        have := div_anti (c := 4503599627370496) (by omega) c1.1 hs
        omega
      rw [if_pos c1, if_pos c2]
      exact Int.le_refl _
    · rw [if_neg c1]
      have hmul : p.Rate * stepsS p (d - now) ≤ p.Rate * stepsS p (d' - now') := Int.mul_le_mul_of_nonneg_left hs (by omega)
      by_cases c2 : 0 < stepsS p (d' - now') ∧ 4503599627370496 / stepsS p (d' - now') < p.Rate
      · rw [if_pos c2]
        by_cases c3 : 0 < stepsS p (d - now)
        · have : p.Rate ≤ 4503599627370496 / stepsS p (d - now) := by
            rw [not_and] at c1
            have := c1 c3
            omega
          have := Int.mul_le_mul_of_nonneg_right this s0
          have h5 := Int.ediv_mul_le 4503599627370496 (b := stepsS p (d - now)) (by omega)
          omega
        · have : stepsS p (d - now) = 0 := by omega
          rw [this]
          simp
      · rw [if_neg c2]
        exact hmul
theorem exists_max : ∀ (l : List api_Job), l ≠ [] → ∃ m ∈ l, ∀ a ∈ l, leJ a m = true
  | [], h => absurd rfl h
  | [x], _ => ⟨x, by simp, fun a ha => by simp at ha; subst ha; exact leJ_refl _⟩
  | x :: y :: l, _ => by
    obtain ⟨m, hm, h⟩ := exists_max (y :: l) (by simp)
    rcases leJ_total x m with hx | hx
    · refine ⟨m, by simp at hm ⊢; right; exact hm, fun a ha => ?_⟩
      rcases List.mem_cons.1 ha with rfl | ha
      · exact hx
      · exact h a ha
    · refine ⟨x, by simp, fun a ha => ?_⟩
      rcases List.mem_cons.1 ha with rfl | ha
      · exact leJ_refl _
      · exact leJ_trans (h a ha) hx
theorem sumS_nonneg {l : List api_Job} (h : ∀ x ∈ l, okJ x = true) : 0 ≤ sumS l := (sumS_bound l h).1
/-- what stands before any place is given in time -/
theorem load_any {p : api_Profile} {jobs : List api_Job} {now : Int} (h : PlanOk p jobs now) (q : api_Job → Bool) (d : Int) (hd : d ≤ 1073741824) (hq : ∀ a b, a ∈ jobs → b ∈ jobs → q b = true → leJ a b = true → q a = true) (hdue : ∀ a ∈ jobs, q a = true → a.Due ≤ d) : sumS (jobs.filter q) ≤ givesS p now d := by
  obtain ⟨c0, v, n0, n1⟩ := okA_iff.1 h.ok
  by_cases he : jobs.filter q = []
  · rw [he]
    exact (gives_range now d c0 (by omega)).1
  · obtain ⟨m, hm, hmax⟩ := exists_max _ he
    obtain ⟨hmj, hmq⟩ := List.mem_filter.1 hm
    have e : jobs.filter q = jobs.filter fun k => leJ k m := by
      apply List.filter_congr
      intro a ha
      cases hqa : q a
      · cases hla : leJ a m
        · rfl
        · have := hq a m ha hmj hmq hla
          rw [hqa] at this
          cases this
      · rw [hmax a (List.mem_filter.2 ⟨ha, hqa⟩)]
    rw [e]
    have := h.fits m hmj
    unfold loadJ at this
    refine Int.le_trans this (gives_mono c0 ?_ (by omega))
    have := hdue m hmj hmq
    omega
theorem sumS_sublist {a b : List api_Job} (h : a.Sublist b) (hb : ∀ x ∈ b, okJ x = true) : sumS a ≤ sumS b := by
  induction h with
  | slnil => exact Int.le_refl _
  | cons x _ ih =>
    have := ih fun y hy => hb y (by simp [hy])
    have hx := hb x (by simp)
    simp only [okJ, Bool.and_eq_true, decide_eq_true_eq] at hx
    simp only [sumS]
    omega
  | cons_cons x _ ih =>
    have := ih fun y hy => hb y (by simp [hy])
    simp only [sumS]
    omega
/-- fewer jobs -/
theorem plan_sub {p : api_Profile} {a b : List api_Job} {now : Int} (h : PlanOk p b now) (hs : a.Sublist b) : PlanOk p a now := by
  obtain ⟨c0, v, n0, n1⟩ := okA_iff.1 h.ok
  obtain ⟨v1, v2, v3⟩ := valid_ok v
  refine ⟨okA_iff.2 ⟨c0, valid_of (fun x hx => v1 x (hs.subset hx)) (Nat.le_trans hs.length_le v2) (v3.sublist hs), n0, n1⟩, fun j hj => ?_⟩
  refine Int.le_trans ?_ (h.fits j (hs.subset hj))
  exact sumS_sublist (hs.filter _) fun x hx => v1 x (List.mem_filter.1 hx).1
/-- one job in the place of another -/
def wt (x j : api_Job) : Int := bif leJ x j then x.Size else 0
theorem load_cons (x : api_Job) (l : List api_Job) (j : api_Job) : loadJ (x :: l) j = wt x j + loadJ l j := by
  unfold loadJ wt
  rw [List.filter_cons]
  cases leJ x j
  · simp
  · simp [sumS]
theorem load_set : ∀ (l : List api_Job) (k : Nat) (y j : api_Job), k < l.length → loadJ (l.set k y) j + wt (l.getD k j0) j = loadJ l j + wt y j
  | [], k, y, j, h => by simp at h
  | x :: l, 0, y, j, _ => by
    rw [List.set_cons_zero, load_cons, load_cons]
    show _ + wt x j = _
    omega
  | x :: l, k + 1, y, j, h => by
    rw [List.set_cons_succ, load_cons, load_cons]
    have := load_set l k y j (by simpa using h)
    have e : (x :: l).getD (k + 1) j0 = l.getD k j0 := rfl
    rw [e]
    omega
theorem pairwise_set {l : List api_Job} {k : Nat} {y : api_Job} (hk : k < l.length) (h : l.Pairwise fun a b => a.Id ≠ b.Id) (e : y.Id = (l.getD k j0).Id) : (l.set k y).Pairwise fun a b => a.Id ≠ b.Id := by
  have key : ∀ m : List api_Job, (m.Pairwise fun a b => a.Id ≠ b.Id) ↔ (m.map api_Job.Id).Pairwise fun a b => a ≠ b := fun m => by rw [List.pairwise_map]
  rw [key] at h ⊢
  have : (l.set k y).map api_Job.Id = l.map api_Job.Id := by
    apply List.ext_getElem?
    intro i
    rw [List.getElem?_map, List.getElem?_map, List.getElem?_set]
    by_cases hik : k = i
    · subst hik
      rw [if_pos rfl, if_pos hk, List.getElem?_eq_getElem hk]
      rw [List.getD_eq_getElem?_getD, List.getElem?_eq_getElem hk] at e
      simpa using e
    · rw [if_neg hik]
  rw [this]
  exact h
theorem mem_set {l : List api_Job} {k : Nat} {y j : api_Job} (h : j ∈ l.set k y) : j = y ∨ (j ∈ l) := by
  rcases List.mem_or_eq_of_mem_set h with h | h
  · exact Or.inr h
  · exact Or.inl h
theorem plan_less {p : api_Profile} {jobs : List api_Job} {now : Int} (h : PlanOk p jobs now) {k : Nat} (hk : k < jobs.length) {s : Int} (s0 : 1 ≤ s) (s1 : s ≤ (jobs.getD k j0).Size) : PlanOk p (jobs.set k ⟨(jobs.getD k j0).Id, s, (jobs.getD k j0).Due⟩) now := by
  obtain ⟨c0, v, n0, n1⟩ := okA_iff.1 h.ok
  obtain ⟨v1, v2, v3⟩ := valid_ok v
  have hx := v1 _ (getD_mem hk)
  have hxm := getD_mem hk
  generalize hg : jobs.getD k j0 = x at *
  have hle : ∀ j, leJ ⟨x.Id, s, x.Due⟩ j = leJ x j := fun j => rfl
  have hle2 : ∀ j, leJ j ⟨x.Id, s, x.Due⟩ = leJ j x := fun j => rfl
  have hld : ∀ l : List api_Job, loadJ l ⟨x.Id, s, x.Due⟩ = loadJ l x := fun l => rfl
  simp only [okJ, Bool.and_eq_true, decide_eq_true_eq] at hx
  refine ⟨okA_iff.2 ⟨c0, valid_of (fun y hy => ?_) (by simpa using v2) (pairwise_set hk v3 (by rw [hg])), n0, n1⟩, fun j hj => ?_⟩
  · rcases mem_set hy with rfl | hy
    · simp only [okJ, Bool.and_eq_true, decide_eq_true_eq]
      omega
    · exact v1 y hy
  · have hl : ∀ j, loadJ (jobs.set k ⟨x.Id, s, x.Due⟩) j ≤ loadJ jobs j := by
      intro j
      have := load_set jobs k ⟨x.Id, s, x.Due⟩ j hk
      rw [hg] at this
      unfold wt at this
      rw [hle] at this
      cases hl : leJ x j
      · rw [hl] at this
        simp only [cond_false] at this
        omega
      · rw [hl] at this
        simp only [cond_true] at this
        omega
    rcases mem_set hj with rfl | hj
    · refine Int.le_trans (hl _) ?_
      rw [hld]
      exact h.fits x hxm
    · exact Int.le_trans (hl j) (h.fits j hj)
theorem plan_late {p : api_Profile} {jobs : List api_Job} {now : Int} (h : PlanOk p jobs now) {k : Nat} (hk : k < jobs.length) {d : Int} (d0 : (jobs.getD k j0).Due ≤ d) (d1 : d ≤ 1073741824) : PlanOk p (jobs.set k ⟨(jobs.getD k j0).Id, (jobs.getD k j0).Size, d⟩) now := by
  obtain ⟨c0, v, n0, n1⟩ := okA_iff.1 h.ok
  obtain ⟨v1, v2, v3⟩ := valid_ok v
  have hx := v1 _ (getD_mem hk)
  have hxm := getD_mem hk
  generalize hg : jobs.getD k j0 = x at *
  simp only [okJ, Bool.and_eq_true, decide_eq_true_eq] at hx
  refine ⟨okA_iff.2 ⟨c0, valid_of (fun y hy => ?_) (by simpa using v2) (pairwise_set hk v3 (by rw [hg])), n0, n1⟩, fun j hj => ?_⟩
  · rcases mem_set hy with rfl | hy
    · simp only [okJ, Bool.and_eq_true, decide_eq_true_eq]
      omega
    · exact v1 y hy
  · have hset := load_set jobs k ⟨x.Id, x.Size, d⟩ j hk
    rw [hg] at hset
    rcases mem_set hj with rfl | hj
    · have hw : wt x ⟨x.Id, x.Size, d⟩ = x.Size := by
        unfold wt
        have : leJ x ⟨x.Id, x.Size, d⟩ = true := by rw [leJ_iff]; dsimp only; omega
        rw [this]
        rfl
      have hw2 : wt ⟨x.Id, x.Size, d⟩ ⟨x.Id, x.Size, d⟩ = x.Size := by
        unfold wt
        rw [leJ_refl]
        rfl
      rw [hw, hw2] at hset
      have hany := load_any h (fun k => leJ k ⟨x.Id, x.Size, d⟩) d d1 (fun a b _ _ hb hab => leJ_trans hab hb) (fun a _ ha => by rw [leJ_iff] at ha; dsimp only at ha; omega)
      have e : loadJ (jobs.set k ⟨x.Id, x.Size, d⟩) ⟨x.Id, x.Size, d⟩ = loadJ jobs ⟨x.Id, x.Size, d⟩ := by omega
      rw [e]
      exact hany
    · refine Int.le_trans ?_ (h.fits j hj)
      have : wt ⟨x.Id, x.Size, d⟩ j ≤ wt x j := by
        unfold wt
        cases h1 : leJ ⟨x.Id, x.Size, d⟩ j
        · cases leJ x j
          · simp
          · simp; omega
        · have : leJ x j = true := leJ_trans (b := ⟨x.Id, x.Size, d⟩) (by rw [leJ_iff]; dsimp only; omega) h1
          rw [this]
          simp
      omega
theorem plan_early {p : api_Profile} {jobs : List api_Job} {now now' : Int} (h : PlanOk p jobs now) (n0' : 0 ≤ now') (n1' : now' ≤ now) : PlanOk p jobs now' := by
  obtain ⟨c0, v, n0, n1⟩ := okA_iff.1 h.ok
  obtain ⟨v1, v2, v3⟩ := valid_ok v
  refine ⟨okA_iff.2 ⟨c0, v, n0', by omega⟩, fun j hj => Int.le_trans (h.fits j hj) (gives_mono c0 (by omega) ?_)⟩
  have := v1 j hj
  simp only [okJ, Bool.and_eq_true, decide_eq_true_eq] at this
  omega
end Go.Proofs.Ytafgcjodefafoaa

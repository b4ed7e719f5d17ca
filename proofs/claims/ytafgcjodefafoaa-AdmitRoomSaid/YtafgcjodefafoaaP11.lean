/-
  Room: what more fits (plain law of layer 29).
-/
import Derived.Test.YtafgcjodefafoaaP10
namespace Go.Proofs.Ytafgcjodefafoaa
open Go.RowKit
def befJ (jobs : List api_Job) (due : Int) : Int := sumS (jobs.filter fun j => decide (j.Due ≤ due))
/-- so many more places fit until a step -/
structure Fits (p : api_Profile) (jobs : List api_Job) (now due x : Int) : Prop where
  most : x ≤ 1099511627776
  own : x + befJ jobs due ≤ givesS p now due
  rest : ∀ j ∈ jobs, due < j.Due → loadJ jobs j + x ≤ givesS p now j.Due
theorem bef_eq (jobs : List api_Job) (due : Int) : befS (ordR jobs) due jobs.length = befJ jobs due := by
  unfold befS befJ
  rw [← ordR_len jobs, List.take_length]
  exact sumS_perm ((ordR_perm jobs).filter _)
theorem most_iff (p : api_Profile) (now : Int) (l : List api_Job) (due x : Int) : ∀ i, x ≤ mostS p now l due i ↔ x ≤ 1099511627776 ∧ ∀ k, k < i → due < (l.getD k j0).Due → x ≤ slackS p now l k
  | 0 => by simp [mostS]
  | i + 1 => by
    have ih := most_iff p now l due x i
    simp only [mostS]
    by_cases hd : (l.getD i j0).Due ≤ due
    · simp only [hd, decide_true, cond_true]
      rw [ih]
      constructor
      · rintro ⟨h1, h2⟩
        refine ⟨h1, fun k hk hdk => ?_⟩
        by_cases hki : k < i
        · exact h2 k hki hdk
        · have : k = i := by omega
          subst this
          omega
      · rintro ⟨h1, h2⟩
        exact ⟨h1, fun k hk hdk => h2 k (by omega) hdk⟩
    · simp only [hd, decide_false, cond_false]
      have e : x ≤ (if slackS p now l i < mostS p now l due i then slackS p now l i else mostS p now l due i) ↔ x ≤ slackS p now l i ∧ x ≤ mostS p now l due i := by
        split <;> omega
      rw [e, ih]
      constructor
      · rintro ⟨h0, h1, h2⟩
        refine ⟨h1, fun k hk hdk => ?_⟩
        by_cases hki : k < i
        · exact h2 k hki hdk
        · have : k = i := by omega
          subst this
          exact h0
      · rintro ⟨h1, h2⟩
        exact ⟨h2 i (by omega) (by omega), h1, fun k hk hdk => h2 k (by omega) hdk⟩
theorem fits_iff {p : api_Profile} {jobs : List api_Job} {now : Int} (hv : validB jobs = true) (due x : Int) : Fits p jobs now due x ↔ x ≤ givesS p now due - befS (ordR jobs) due jobs.length ∧ x ≤ mostS p now (ordR jobs) due jobs.length := by
  rw [bef_eq, most_iff]
  constructor
  · intro h
    have := h.own
    refine ⟨by omega, h.most, fun k hk hd => ?_⟩
    have hm : (ordR jobs).getD k j0 ∈ jobs := (ordR_perm jobs).mem_iff.1 (getD_mem (by rw [ordR_len]; exact hk))
    have := h.rest _ hm hd
    unfold slackS give
    rw [need_of hv hk]
    omega
  · rintro ⟨h1, h2, h3⟩
    refine ⟨h2, by omega, fun j hj hd => ?_⟩
    obtain ⟨i, hi, rfl⟩ := List.mem_iff_getElem.1 ((ordR_perm jobs).mem_iff.2 hj)
    have hi' : i < jobs.length := by rw [← ordR_len]; exact hi
    have e : (ordR jobs).getD i j0 = (ordR jobs)[i] := by rw [List.getD_eq_getElem?_getD, List.getElem?_eq_getElem hi]; rfl
    have := h3 i hi' (by rw [e]; exact hd)
    unfold slackS give at this
    rw [need_of hv hi', e] at this
    omega
theorem room_fits {p : api_Profile} {jobs : List api_Job} {now due : Int} (h : PlanOk p jobs now) (d0 : 0 ≤ due) (d1 : due ≤ 1073741824) (hl : jobs.length ≤ 999) :
    0 ≤ roomS p jobs now due ∧ roomS p jobs now due ≤ 1099511627776 ∧ (0 < roomS p jobs now due → Fits p jobs now due (roomS p jobs now due)) ∧ ¬ Fits p jobs now due (roomS p jobs now due + 1) := by
  have hv := (okA_iff.1 h.ok).2.1
  have hr : roomOk p jobs now due = true := by
    unfold roomOk
    rw [h.ok, (nolate_iff h.ok).2 h]
    simp [d0, d1, hl]
  have hm := (most_iff p now (ordR jobs) due (mostS p now (ordR jobs) due jobs.length) jobs.length).1 (Int.le_refl _)
  rw [fits_iff hv, fits_iff hv]
  unfold roomS roomV
  rw [hr]
  simp only [cond_true]
  generalize givesS p now due - befS (ordR jobs) due jobs.length = a at *
  generalize mostS p now (ordR jobs) due jobs.length = b at *
  have := hm.1
  by_cases h1 : a < b
  · rw [if_pos h1]
    split <;> omega
  · rw [if_neg h1]
    split <;> omega
theorem room_zero {p : api_Profile} {jobs : List api_Job} {now due : Int} (h : ¬ PlanOk p jobs now) : roomS p jobs now due = 0 := by
  have hr : roomOk p jobs now due = false := by
    unfold roomOk
    cases ho : okA p jobs now
    · rfl
    · rw [← nolate_iff ho] at h
      cases hf : (List.range jobs.length).find? (late p now (ordR jobs))
      · exact absurd hf h
      · rfl
  unfold roomS
  rw [hr]
  rfl
theorem fits_down {p : api_Profile} {jobs : List api_Job} {now due x y : Int} (h : Fits p jobs now due x) (hy : y ≤ x) : Fits p jobs now due y :=
  ⟨by have := h.most; omega, by have := h.own; omega, fun j hj hd => by have := h.rest j hj hd; omega⟩
theorem sumS_filter_le {l : List api_Job} (hl : ∀ x ∈ l, okJ x = true) {q r : api_Job → Bool} (h : ∀ x ∈ l, q x = true → r x = true) : sumS (l.filter q) ≤ sumS (l.filter r) := by
  have e : l.filter q = (l.filter r).filter q := by
    rw [List.filter_filter]
    apply List.filter_congr
    intro x hx
    cases hq : q x
    · rfl
    · rw [h x hx hq]
      rfl
  rw [e]
  exact sumS_sublist List.filter_sublist fun x hx => hl x (List.mem_filter.1 hx).1
theorem load_le_bef {jobs : List api_Job} (hl : ∀ x ∈ jobs, okJ x = true) {k : api_Job} {due : Int} (hk : k.Due ≤ due) : loadJ jobs k ≤ befJ jobs due := by
  refine sumS_filter_le hl fun x _ hx => ?_
  rw [leJ_iff] at hx
  rw [decide_eq_true_eq]
  omega
theorem wt_range {x j : api_Job} (h : okJ x = true) : 0 ≤ wt x j ∧ wt x j ≤ x.Size := by
  simp only [okJ, Bool.and_eq_true, decide_eq_true_eq] at h
  unfold wt
  cases leJ x j
  · simp only [cond_false]; omega
  · simp only [cond_true]; omega
theorem load_snoc (l : List api_Job) (x j : api_Job) : loadJ (l ++ [x]) j = loadJ l j + wt x j := by
  rw [load_append, load_cons]
  simp [loadJ, sumS]
theorem bef_snoc (l : List api_Job) (x : api_Job) (due : Int) (h : x.Due ≤ due) : befJ (l ++ [x]) due = befJ l due + x.Size := by
  unfold befJ
  rw [List.filter_append, sumS_append]
  simp [List.filter_cons, h, sumS]
/-- one more job -/
theorem plan_add {p : api_Profile} {jobs : List api_Job} {now due id s : Int} (hid : 0 ≤ id) (hnew : ∀ j ∈ jobs, j.Id ≠ id) (d0 : 0 ≤ due) (d1 : due ≤ 1073741824) (hl : jobs.length ≤ 999) :
    PlanOk p (jobs ++ [⟨id, s, due⟩]) now ↔ PlanOk p jobs now ∧ 1 ≤ s ∧ Fits p jobs now due s := by
  constructor
  · intro h
    obtain ⟨c0, v, n0, n1⟩ := okA_iff.1 h.ok
    obtain ⟨v1, v2, v3⟩ := valid_ok v
    have hx := v1 ⟨id, s, due⟩ (by simp)
    simp only [okJ, Bool.and_eq_true, decide_eq_true_eq] at hx
    refine ⟨plan_sub h (List.sublist_append_left _ _), by omega, by omega, ?_, fun j hj hd => ?_⟩
    · have := load_any h (fun j => decide (j.Due ≤ due)) due d1 (fun a b _ _ hb hab => by
          rw [leJ_iff] at hab
          rw [decide_eq_true_eq] at hb ⊢
          omega) (fun a _ ha => by simpa using ha)
      have e := bef_snoc jobs ⟨id, s, due⟩ due (Int.le_refl _)
      unfold befJ at e
      rw [e] at this
      unfold befJ
      dsimp only at this
      omega
    · have := h.fits j (by simp [hj])
      rw [load_snoc] at this
      have e : wt ⟨id, s, due⟩ j = s := by
        unfold wt
        have : leJ ⟨id, s, due⟩ j = true := by rw [leJ_iff]; dsimp only; omega
        rw [this]
        rfl
      omega
  · rintro ⟨h, s1, hf⟩
    obtain ⟨c0, v, n0, n1⟩ := okA_iff.1 h.ok
    obtain ⟨v1, v2, v3⟩ := valid_ok v
    have hx : okJ ⟨id, s, due⟩ = true := by
      have := hf.most
      simp only [okJ, Bool.and_eq_true, decide_eq_true_eq]
      omega
    refine ⟨okA_iff.2 ⟨c0, valid_of (fun y hy => ?_) (by simp; omega) ?_, n0, n1⟩, fun j hj => ?_⟩
    · rcases List.mem_append.1 hy with hy | hy
      · exact v1 y hy
      · rw [List.mem_singleton.1 hy]
        exact hx
    · rw [List.pairwise_append]
      refine ⟨v3, List.pairwise_singleton _ _, fun a ha b hb => ?_⟩
      rw [List.mem_singleton.1 hb]
      exact hnew a ha
    · rw [load_snoc]
      have hw := wt_range (j := j) hx
      dsimp only at hw
      have hown := hf.own
      rcases List.mem_append.1 hj with hj | hj
      · by_cases hd : due < j.Due
        · have := hf.rest j hj hd
          omega
        · by_cases hd2 : j.Due < due
          · have e : wt ⟨id, s, due⟩ j = 0 := by
              unfold wt
              have : leJ ⟨id, s, due⟩ j = false := by
                rw [Bool.eq_false_iff, ne_eq, leJ_iff]; dsimp only; omega
              rw [this]
              rfl
            have := h.fits j hj
            omega
          · have hd3 : j.Due = due := by omega
            have := load_le_bef v1 (k := j) (due := due) (by omega)
            rw [hd3]
            omega
      · rw [List.mem_singleton.1 hj] at hw ⊢
        have := load_le_bef v1 (k := ⟨id, s, due⟩) (due := due) (Int.le_refl _)
        dsimp only
        omega
theorem fits_later {p : api_Profile} {jobs : List api_Job} {now due due' n : Int} (h : PlanOk p jobs now) (hf : Fits p jobs now due n) (hd : due ≤ due') (d1 : due' ≤ 1073741824) : Fits p jobs now due' n := by
  obtain ⟨c0, v, n0, n1⟩ := okA_iff.1 h.ok
  obtain ⟨v1, v2, v3⟩ := valid_ok v
  refine ⟨hf.most, ?_, fun j hj hdj => hf.rest j hj (by omega)⟩
  by_cases he : ∃ j ∈ jobs, due < j.Due ∧ j.Due ≤ due'
  · obtain ⟨j, hj, hj1, hj2⟩ := he
    have hne : jobs.filter (fun j => decide (j.Due ≤ due')) ≠ [] := fun e => by
      have : j ∈ jobs.filter (fun j => decide (j.Due ≤ due')) := List.mem_filter.2 ⟨hj, by simpa using hj2⟩
      rw [e] at this
      simp at this
    obtain ⟨m, hm, hmax⟩ := exists_max _ hne
    obtain ⟨hmj, hmd⟩ := List.mem_filter.1 hm
    have hmd : m.Due ≤ due' := by simpa using hmd
    have hjm := hmax j (List.mem_filter.2 ⟨hj, by simpa using hj2⟩)
    rw [leJ_iff] at hjm
    have e : befJ jobs due' = loadJ jobs m := by
      unfold befJ loadJ
      congr 1
      apply List.filter_congr
      intro a ha
      by_cases had : a.Due ≤ due'
      · rw [hmax a (List.mem_filter.2 ⟨ha, by simpa using had⟩)]
        simpa using had
      · have : leJ a m = false := by rw [Bool.eq_false_iff, ne_eq, leJ_iff]; omega
        rw [this]
        simpa using had
    rw [e]
    have := hf.rest m hmj (by omega)
    have := gives_mono c0 (now := now) (now' := now) (d := m.Due) (d' := due') (by omega) (by omega)
    omega
  · have e : befJ jobs due' = befJ jobs due := by
      unfold befJ
      congr 1
      apply List.filter_congr
      intro a ha
      apply bool_ext
      simp only [decide_eq_true_eq]
      constructor
      · intro h1
        apply Int.not_lt.1
        intro h2
        exact he ⟨a, ha, h2, h1⟩
      · intro h1; omega
    rw [e]
    have := hf.own
    have := gives_mono c0 (now := now) (now' := now) (d := due) (d' := due') (by omega) (by omega)
    omega
theorem fits_add {p : api_Profile} {jobs : List api_Job} {now due id s x : Int} (hs : 1 ≤ s) (hf : Fits p (jobs ++ [⟨id, s, due⟩]) now due x) (hm : x + s ≤ 1099511627776) : Fits p jobs now due (x + s) := by
  refine ⟨hm, ?_, fun j hj hd => ?_⟩
  · have := hf.own
    rw [bef_snoc _ _ _ (Int.le_refl _)] at this
    dsimp only at this
    omega
  · have := hf.rest j (by simp [hj]) hd
    rw [load_snoc] at this
    have e : wt ⟨id, s, due⟩ j = s := by
      unfold wt
      have : leJ ⟨id, s, due⟩ j = true := by rw [leJ_iff]; dsimp only; omega
      rw [this]
      rfl
    omega
/- an id that no job has -/
def passN (l : List api_Job) (id : Int) : Int := l.foldl (fun id j => if j.Id == id then id + 1 else id) id
theorem pass_range : ∀ (l : List api_Job) (id : Int), id ≤ passN l id ∧ passN l id ≤ id + l.length
  | [], id => by simp [passN]
  | x :: l, id => by
    have h1 := pass_range l id
    have h2 := pass_range l (id + 1)
    have e : passN (x :: l) id = if x.Id == id then passN l (id + 1) else passN l id := by
      unfold passN
      rw [List.foldl_cons]
      split <;> rfl
    rw [e]
    simp only [List.length_cons]
    split <;> omega
theorem pass_cases : ∀ (l : List api_Job) (id : Int), (passN l id = id ∧ ∀ j ∈ l, j.Id ≠ id) ∨ id + 1 ≤ passN l id
  | [], id => Or.inl ⟨rfl, fun j hj => by simp at hj⟩
  | x :: l, id => by
    have e : passN (x :: l) id = if x.Id == id then passN l (id + 1) else passN l id := by
      unfold passN
      rw [List.foldl_cons]
      split <;> rfl
    rw [e]
    by_cases hx : x.Id = id
    · right
      have := (pass_range l (id + 1)).1
      simp [hx, this]
    · have hx' : (x.Id == id) = false := by simpa using hx
      rw [hx']
      rcases pass_cases l id with ⟨h1, h2⟩ | h1
      · left
        refine ⟨by simpa using h1, fun j hj => ?_⟩
        rcases List.mem_cons.1 hj with rfl | hj
        · exact hx
        · exact h2 j hj
      · right
        simpa using h1
theorem pass_has (jobs : List api_Job) : ∀ (l : List api_Job), (∀ j ∈ l, j ∈ jobs) → ∀ (id : Int), (∀ v, 0 ≤ v → v < id → ∃ j ∈ jobs, j.Id = v) → ∀ v, 0 ≤ v → v < passN l id → ∃ j ∈ jobs, j.Id = v
  | [], _, id, h => h
  | x :: l, hl, id, h => by
    have e : passN (x :: l) id = if x.Id == id then passN l (id + 1) else passN l id := by
      unfold passN
      rw [List.foldl_cons]
      split <;> rfl
    rw [e]
    by_cases hx : x.Id = id
    · have : (x.Id == id) = true := by simpa using hx
      rw [this]
      refine pass_has jobs l (fun j hj => hl j (by simp [hj])) (id + 1) fun v v0 v1 => ?_
      by_cases hv : v = id
      · exact ⟨x, hl x (by simp), by omega⟩
      · exact h v v0 (by omega)
    · have : (x.Id == id) = false := by simpa using hx
      rw [this]
      exact pass_has jobs l (fun j hj => hl j (by simp [hj])) id h
theorem pigeon : ∀ (m : Nat) (L : List Int), (∀ v : Nat, v < m → (v : Int) ∈ L) → m ≤ L.length
  | 0, _, _ => Nat.zero_le _
  | m + 1, L, h => by
    have hm := h m (by omega)
    have ih := pigeon m (L.erase (m : Int)) fun v hv => (List.mem_erase_of_ne (by omega)).2 (h v (by omega))
    rw [List.length_erase_of_mem hm] at ih
    have := List.length_pos_of_mem hm
    omega
theorem New_eq (jobs : List api_Job) (hl : jobs.length ≤ 1000) : ∃ id, ref29_New jobs = some id ∧ 0 ≤ id ∧ id ≤ 1000000 ∧ ∀ j ∈ jobs, j.Id ≠ id := by
  have inner : ∀ id : Int, 0 ≤ id → id ≤ 2000000 → loopF (ref29_New_L1 jobs) (id, 0) = some (.inl (passN jobs id)) := by
    intro id h0 h1
    refine loopF_inv (body := ref29_New_L1 jobs) jobs.length (fun i s => s = (passN (jobs.take i) id, (i : Int))) (fun r => r = some (.inl (passN jobs id))) (fun i s hi hs => ?_) (fun s hs => ?_) rfl
    · left
      subst hs
      have hw : IntKind.i64.wrap ((i : Int) + 1) = (i : Int) + 1 := wrap64 (by omega) (by omega)
      have hlt : ((i : Int) < (jobs.length : Int)) := by omega
      have hr := pass_range (jobs.take i) id
      rw [List.length_take] at hr
      have e : passN (jobs.take (i + 1)) id = if (jobs.getD i j0).Id == passN (jobs.take i) id then passN (jobs.take i) id + 1 else passN (jobs.take i) id := by
        rw [take_succ_getD jobs j0 hi]
        unfold passN
        rw [List.foldl_append]
        rfl
      refine ⟨(passN (jobs.take (i + 1)) id, (i : Int) + 1), ?_, by simp only [Prod.mk.injEq]; exact ⟨trivial, by omega⟩⟩
      rw [e]
      unfold ref29_New_L1
      simp only [hlt, decide_true, cond_true, hw]
      rw [bind_some_of (getI_in j0 hi), wrap64 (n := passN (jobs.take i) id + 1) (by omega) (by omega)]
      cases (jobs.getD i j0).Id == passN (jobs.take i) id <;> rfl
    · subst hs
      refine ⟨_, ?_, rfl⟩
      unfold ref29_New_L1
      simp only [Int.lt_irrefl, decide_false, cond_false, List.take_length]
  have key : ∃ id, loopF (ref29_New_L2 jobs) (0, 0) = some (.inl id) ∧ 0 ≤ id ∧ id ≤ 1000000 ∧ (∀ v, 0 ≤ v → v < id → ∃ j ∈ jobs, j.Id = v) ∧ ((∀ j ∈ jobs, j.Id ≠ id) ∨ (jobs.length : Int) ≤ id) := by
    refine loopF_inv (body := ref29_New_L2 jobs) jobs.length (fun i s => s.2 = (i : Int) ∧ 0 ≤ s.1 ∧ s.1 ≤ (i : Int) * 1000 ∧ (∀ v, 0 ≤ v → v < s.1 → ∃ j ∈ jobs, j.Id = v) ∧ ((∀ j ∈ jobs, j.Id ≠ s.1) ∨ (i : Int) ≤ s.1))
      (fun r => ∃ id, r = some (.inl id) ∧ 0 ≤ id ∧ id ≤ 1000000 ∧ (∀ v, 0 ≤ v → v < id → ∃ j ∈ jobs, j.Id = v) ∧ ((∀ j ∈ jobs, j.Id ≠ id) ∨ (jobs.length : Int) ≤ id)) (fun i s hi hs => ?_) (fun s hs => ?_) ⟨rfl, Int.le_refl _, by simp, fun v v0 v1 => by dsimp only at v1; omega, Or.inr (Int.le_refl _)⟩
    · left
      obtain ⟨s1, s2⟩ := s
      obtain ⟨h1, h2, h3, h4, h5⟩ := hs
      dsimp only at h1 h2 h3 h4 h5
      subst h1
      have hw : IntKind.i64.wrap ((i : Int) + 1) = (i : Int) + 1 := wrap64 (by omega) (by omega)
      have hlt : ((i : Int) < (jobs.length : Int)) := by omega
      have hr := pass_range jobs s1
      refine ⟨(passN jobs s1, (i : Int) + 1), ?_, by dsimp only; omega, by dsimp only; omega, by dsimp only; omega, pass_has jobs jobs (fun j hj => hj) s1 h4, ?_⟩
      · unfold ref29_New_L2
        simp only [hlt, decide_true, cond_true, hw]
        rw [seqF_inl (inner s1 h2 (by omega))]
      · dsimp only
        rcases pass_cases jobs s1 with ⟨q1, q2⟩ | q1
        · left
          rw [q1]
          exact q2
        · rcases h5 with h5 | h5
          · left
            have : passN jobs s1 = s1 := by
              have : ∀ l : List api_Job, (∀ j ∈ l, j ∈ jobs) → passN l s1 = s1 := by
                intro l
                induction l with
                | nil => exact fun _ => rfl
                | cons x l ih =>
                  intro hl
                  have hx := h5 x (hl x (by simp))
                  have hx' : (x.Id == s1) = false := by simpa using hx
                  have ih := ih fun j hj => hl j (by simp [hj])
                  unfold passN at ih ⊢
                  rw [List.foldl_cons, hx']
                  exact ih
              exact this jobs fun j hj => hj
            rw [this]
            exact h5
          · right
            omega
    · obtain ⟨s1, s2⟩ := s
      obtain ⟨h1, h2, h3, h4, h5⟩ := hs
      dsimp only at h1 h2 h3 h4 h5
      subst h1
      refine ⟨.inl s1, ?_, s1, rfl, h2, by omega, h4, h5⟩
      unfold ref29_New_L2
      simp only [Int.lt_irrefl, decide_false, cond_false]
  obtain ⟨id, h1, h2, h3, h4, h5⟩ := key
  refine ⟨id, ?_, h2, h3, ?_⟩
  · unfold ref29_New
    rw [h1]
    rfl
  · rcases h5 with h5 | h5
    · exact h5
    · intro j hj e
      have := pigeon (id.toNat + 1) (jobs.map api_Job.Id) fun v hv => by
        by_cases hvi : (v : Int) = id
        · rw [hvi, ← e]
          exact List.mem_map.2 ⟨j, hj, rfl⟩
        · obtain ⟨j', hj', e'⟩ := h4 (v : Int) (by omega) (by omega)
          rw [← e']
          exact List.mem_map.2 ⟨j', hj', rfl⟩
      rw [List.length_map] at this
      omega
end Go.Proofs.Ytafgcjodefafoaa

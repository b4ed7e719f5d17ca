/-
  Plans: what admit.Plan, Check, Room and their references compute (plain law of layer 29).
-/
import Derived.Test.YtafgcjodefafoaaP6
namespace Go.Proofs.Ytafgcjodefafoaa
open Go.RowKit Go.Shelf Go.Lib Go.Sort
def sumS : List api_Job → Int
  | [] => 0
  | j :: r => j.Size + sumS r
theorem sumS_append : ∀ (a b : List api_Job), sumS (a ++ b) = sumS a + sumS b
  | [], b => by simp [sumS]
  | x :: a, b => by
    simp only [List.cons_append, sumS, sumS_append a b]
    omega
theorem sumS_bound : ∀ (l : List api_Job), (∀ x ∈ l, okJ x = true) → 0 ≤ sumS l ∧ sumS l ≤ l.length * 1099511627776
  | [], _ => by simp [sumS]
  | x :: l, h => by
    have ih := sumS_bound l fun y hy => h y (by simp [hy])
    have hx := h x (by simp)
    simp only [okJ, Bool.and_eq_true, decide_eq_true_eq] at hx
    simp only [sumS, List.length_cons]
    omega
theorem sumS_perm {a b : List api_Job} (h : a.Perm b) : sumS a = sumS b := by
  induction h with
  | nil => rfl
  | cons x _ ih => simp only [sumS, ih]
  | swap x y l => simp only [sumS]; omega
  | trans _ _ ih1 ih2 => exact ih1.trans ih2
/- valid lists -/
theorem valid_ok {l : List api_Job} (h : validB l = true) : (∀ x ∈ l, okJ x = true) ∧ l.length ≤ 1000 ∧ l.Pairwise fun a b => a.Id ≠ b.Id := by
  unfold validB at h
  rw [Bool.and_eq_true] at h
  have h1 : ∀ i, i < l.length → oneJ l i = true := fun i hi => List.all_eq_true.1 h.1 i (List.mem_range.2 hi)
  refine ⟨fun x hx => ?_, by simpa using h.2, ?_⟩
  · obtain ⟨i, hi, rfl⟩ := List.mem_iff_getElem.1 hx
    have := h1 i hi
    unfold oneJ at this
    rw [Bool.and_eq_true, List.getD_eq_getElem?_getD, List.getElem?_eq_getElem hi] at this
    exact this.1
  · rw [List.pairwise_iff_getElem]
    intro i j hi hj hij e
    have := h1 j hj
    unfold oneJ at this
    rw [Bool.and_eq_true, List.getD_eq_getElem?_getD, List.getElem?_eq_getElem hj, Bool.not_eq_true', List.any_eq_false] at this
    have h2 := this.2 l[i] (by
      rw [List.mem_take_iff_getElem]
      exact ⟨i, by omega, rfl⟩)
    apply h2
    simpa using e
theorem valid_of {l : List api_Job} (h1 : ∀ x ∈ l, okJ x = true) (h2 : l.length ≤ 1000) (h3 : l.Pairwise fun a b => a.Id ≠ b.Id) : validB l = true := by
  unfold validB
  rw [Bool.and_eq_true]
  refine ⟨List.all_eq_true.2 fun i hi => ?_, by simpa using h2⟩
  have hi := List.mem_range.1 hi
  unfold oneJ
  rw [Bool.and_eq_true, List.getD_eq_getElem?_getD, List.getElem?_eq_getElem hi, Bool.not_eq_true', List.any_eq_false]
  refine ⟨h1 _ (List.getElem_mem hi), fun y hy => ?_⟩
  rw [List.mem_take_iff_getElem] at hy
  obtain ⟨k, hk, rfl⟩ := hy
  rw [List.pairwise_iff_getElem] at h3
  have := h3 k i (by omega) hi (by omega)
  simpa using this
theorem id_inj {l : List api_Job} (h : l.Pairwise fun a b => a.Id ≠ b.Id) {x y : api_Job} (hx : x ∈ l) (hy : y ∈ l) (e : x.Id = y.Id) : x = y := by
  obtain ⟨i, hi, rfl⟩ := List.mem_iff_getElem.1 hx
  obtain ⟨j, hj, rfl⟩ := List.mem_iff_getElem.1 hy
  rw [List.pairwise_iff_getElem] at h
  rcases Nat.lt_trichotomy i j with hij | hij | hij
  · exact absurd e (h i j hi hj hij)
  · subst hij; rfl
  · exact absurd e.symm (h j i hj hi hij)
/- sorting -/
def cmpI (x y : Int) : Int := if x < y then -1 else if y < x then 1 else 0
def cmpJ (a b : api_Job) : Int := if cmpI a.Due b.Due ≠ 0 then cmpI a.Due b.Due else cmpI a.Id b.Id
theorem cmp_Compare_eq (x y : Int) : cmp_Compare_int x y = some (cmpI x y) := by
  unfold cmp_Compare_int cmp_isNaN_int cmpI
  have h1 : ∀ z : Int, (z != z) = false := fun z => by simp
  simp only [h1, Option.bind_some, cond_false]
  by_cases h : x < y
  · simp [h]
  · by_cases h' : y < x
    · simp [h, h']
    · simp [h, h']
theorem cmp_Or_eq (a b : Int) : cmp_Or_int [a, b] = some (if a ≠ 0 then a else b) := by
  have step : ∀ i : Nat, ∀ x, [a, b][i]? = some x → cmp_Or_int_L1 [a, b] (i : Int) = bif x != 0 then some (.inr (.inr x)) else some (.inl ((i : Int) + 1)) := by
    intro i x hx
    have hi : i < 2 := (List.getElem?_eq_some_iff.1 hx).1
    have hlt : ((i : Int) < ((([a, b] : List Int).length : Nat) : Int)) := by simp only [List.length_cons, List.length_nil]; omega
    unfold cmp_Or_int_L1
    simp only [hlt, decide_true, cond_true]
    rw [bind_some_of (show getI [a, b] (i : Int) = some x by rw [getI_nat]; exact hx), wrap64 (n := (i : Int) + 1) (by omega) (by omega)]
  have s0 := step 0 a rfl
  have s1 := step 1 b rfl
  have s2 : cmp_Or_int_L1 [a, b] 2 = some (.inr (.inl ())) := by
    unfold cmp_Or_int_L1
    rfl
  unfold cmp_Or_int
  by_cases ha : a = 0
  · subst ha
    rw [loopF_next (s' := 1) (by simpa using s0)]
    by_cases hb : b = 0
    · subst hb
      rw [loopF_next (s' := 2) (by simpa using s1), loopF_stop s2]
      rfl
    · have : (b != 0) = true := by simpa using hb
      rw [loopF_stop (b := .inr b) (by simpa [this] using s1)]
      simp [seqF]
  · have : (a != 0) = true := by simpa using ha
    rw [loopF_stop (b := .inr a) (by simpa [this] using s0)]
    simp [seqF, ha]
theorem demands_cmp (a b : api_Job) : admit_demands_1 a b = some (cmpJ a b) := by
  unfold admit_demands_1
  rw [cmp_Compare_eq, cmp_Compare_eq, bind_some_of rfl, bind_some_of rfl, cmp_Or_eq]
  rfl
theorem ltOf_cmp (a b : api_Job) : ltOf cmpJ a b = ltJ a b := by
  apply bool_ext
  rw [ltJ_iff]
  unfold ltOf cmpJ cmpI
  rw [decide_eq_true_eq]
  by_cases h1 : a.Due < b.Due
  · simp [h1]
  · by_cases h2 : b.Due < a.Due
    · simp only [h1, h2, if_true, if_false]
      simp
      omega
    · by_cases h3 : a.Id < b.Id
      · simp only [h1, h2, h3, if_true, if_false]
        simp
        omega
      · by_cases h4 : b.Id < a.Id
        · simp only [h1, h2, h3, h4, if_true, if_false]
          simp
        · simp only [h1, h2, h3, h4, if_true, if_false]
          simp
theorem sort_eq {l : List api_Job} (h : validB l = true) : sortF admit_demands_1 l = some (ordR l) := by
  obtain ⟨h1, h2, h3⟩ := valid_ok h
  have hok : SortOk admit_demands_1 l cmpJ := by
    refine ⟨demands_cmp, ⟨fun x => ?_, fun x y z => ?_, fun x y z => ?_⟩, fun x hx y hy e1 e2 => ?_, by omega⟩
    · rw [ltOf_cmp, ltJ_not]; omega
    · rw [ltOf_cmp, ltOf_cmp, ltOf_cmp, ltJ_iff, ltJ_iff, ltJ_iff]; omega
    · rw [ltOf_cmp, ltOf_cmp, ltOf_cmp, ltJ_not, ltJ_not, ltJ_not]; omega
    · rw [ltOf_cmp, ltJ_not] at e1 e2
      exact id_inj h3 hx hy (by omega)
  rw [sortF_eq hok]
  congr 1
  refine List.Perm.eq_of_pairwise (le := fun x y => leJ x y = true) ?_ ?_ (ordR_sorted l) ((List.mergeSort_perm _ _).trans (ordR_perm l).symm)
  · intro a b ha hb e1 e2
    have ha := (List.mergeSort_perm _ _).mem_iff.1 ha
    have hb := (ordR_perm l).mem_iff.1 hb
    rw [leJ_iff] at e1 e2
    exact id_inj h3 ha hb (by omega)
  · have := List.pairwise_mergeSort (le := fun x y => !ltOf cmpJ y x) (fun a b c e1 e2 => by
        simp only [Bool.not_eq_true', ltOf_cmp] at e1 e2 ⊢
        rw [ltJ_not] at e1 e2 ⊢
        omega) (fun a b => by
        simp only [ltOf_cmp]
        cases h : ltJ b a
        · rfl
        · have : ltJ a b = false := by
            rw [ltJ_iff] at h
            rw [ltJ_not]
            omega
          rw [this]
          rfl) l
    exact this.imp fun {a b} h => by
      unfold leJ
      rw [← ltOf_cmp]
      exact h
/- plans -/
theorem gives_range {p : api_Profile} (now due : Int) (h : chk p = 0) (h2 : due - now ≤ 1073741824) : 0 ≤ givesS p now due ∧ givesS p now due ≤ 4503599627370496 := by
  have hok := chk_ok h
  unfold givesS
  by_cases hd : due < now
  · simp [hd]
  · simp only [hd, decide_false, cond_false]
    cases h3 : (leastS p (due - now)).2 == 3
    · simp only [cond_false]
      unfold leastS at h3 ⊢
      have h0 : 0 ≤ due - now := by omega
      simp only [h, h0, h2, decide_true, Bool.and_self, beq_self_eq_true, cond_true] at h3 ⊢
      obtain ⟨s0, s1, _⟩ := stepsS_range hok h0
      unfold timesS at h3 ⊢
      by_cases hs : 0 < stepsS p (due - now)
      · by_cases hr : 4503599627370496 / stepsS p (due - now) < p.Rate
        · simp [hs, hr] at h3
        · simp only [hs, hr, decide_true, decide_false, Bool.and_false, cond_false]
          refine ⟨Int.mul_nonneg (by have := hok.rate; omega) s0, ?_⟩
          have hr : p.Rate ≤ 4503599627370496 / stepsS p (due - now) := by omega
          have := Int.mul_le_mul_of_nonneg_right hr s0
          have h5 := Int.ediv_mul_le 4503599627370496 (b := stepsS p (due - now)) (by omega)
          omega
      · have : stepsS p (due - now) = 0 := by omega
        simp [this]
    · simp
def okA (p : api_Profile) (jobs : List api_Job) (now : Int) : Bool := chk p == 0 && validB jobs && decide (0 ≤ now) && decide (now ≤ 1073741824)
/-- what the first jobs need -/
def need (l : List api_Job) (i : Nat) : Int := sumS (l.take (i + 1))
def give (p : api_Profile) (now : Int) (l : List api_Job) (i : Nat) : Int := givesS p now (l.getD i j0).Due
def demS (p : api_Profile) (now : Int) (l : List api_Job) (i : Nat) : admit_demand := ⟨l.getD i j0, need l i, give p now l i⟩
structure Fine (p : api_Profile) (now : Int) (l : List api_Job) : Prop where
  prof : ProfOk p
  chk0 : chk p = 0
  now0 : 0 ≤ now
  nowM : now ≤ 1073741824
  ok : ∀ x ∈ l, okJ x = true
  len : l.length ≤ 1000
theorem need_succ {l : List api_Job} {i : Nat} (h : i < l.length) : need l i = sumS (l.take i) + (l.getD i j0).Size := by
  unfold need
  rw [take_succ_getD l j0 h, sumS_append]
  simp [sumS]
theorem getD_mem {l : List api_Job} {i : Nat} (h : i < l.length) : l.getD i j0 ∈ l := by
  rw [List.getD_eq_getElem?_getD, List.getElem?_eq_getElem h]
  exact List.getElem_mem h
theorem Fine.at_ {p : api_Profile} {now : Int} {l : List api_Job} (h : Fine p now l) {i : Nat} (hi : i < l.length) :
    0 ≤ sumS (l.take i) ∧ sumS (l.take i) ≤ 1099511627776000 ∧ 0 ≤ need l i ∧ need l i ≤ 1099511627776000 ∧ 0 ≤ give p now l i ∧ give p now l i ≤ 4503599627370496 ∧ okJ (l.getD i j0) = true ∧ admit_gives p now (l.getD i j0).Due = some (give p now l i) ∧ ref29_gives p now (l.getD i j0).Due = some (give p now l i) := by
  have hm := getD_mem hi
  have hj := h.ok _ hm
  have b1 := sumS_bound (l.take i) fun x hx => h.ok x (List.mem_of_mem_take hx)
  have b2 := sumS_bound (l.take (i + 1)) fun x hx => h.ok x (List.mem_of_mem_take hx)
  have hl := h.len
  rw [List.length_take] at b1 b2
  have hj' := hj
  simp only [okJ, Bool.and_eq_true, decide_eq_true_eq] at hj'
  have hg := gives_range (p := p) now (l.getD i j0).Due h.chk0 (by have := h.now0; omega)
  have he := gives_eq p h.prof now (l.getD i j0).Due h.now0 h.nowM (by omega) (by omega)
  refine ⟨b1.1, by omega, b2.1, ?_, hg.1, hg.2, hj, he.1, he.2⟩
  unfold need
  omega
theorem okA_fine {p : api_Profile} (hp : ProfOk p) {jobs : List api_Job} {now : Int} (h : okA p jobs now = true) : Fine p now (ordR jobs) := by
  unfold okA at h
  simp only [Bool.and_eq_true, beq_iff_eq, decide_eq_true_eq] at h
  obtain ⟨⟨⟨h1, h2⟩, h3⟩, h4⟩ := h
  obtain ⟨v1, v2, _⟩ := valid_ok h2
  exact ⟨hp, h1, h3, h4, fun x hx => v1 x ((ordR_perm jobs).mem_iff.1 hx), by rw [ordR_len]; exact v2⟩
theorem demands_loop {p : api_Profile} {now : Int} {l : List api_Job} (h : Fine p now l) (y9 : List api_Job) (hy : y9.length = l.length) : loopF (admit_demands_L1 y9 l p now) (0, 0, []) = some (.inl ((List.range l.length).map (demS p now l))) := by
  refine loopF_inv (body := admit_demands_L1 y9 l p now) l.length (fun i s => s = (sumS (l.take i), (i : Int), (List.range i).map (demS p now l))) (fun r => r = some (.inl ((List.range l.length).map (demS p now l)))) (fun i s hi hs => ?_) (fun s hs => ?_) rfl
  · left
    subst hs
    obtain ⟨b1, b2, b3, b4, b5, b6, b7, b8, b9⟩ := h.at_ hi
    have hl := h.len
    have hw : IntKind.i64.wrap ((i : Int) + 1) = (i : Int) + 1 := wrap64 (by omega) (by omega)
    have hlt : ((i : Int) < ((y9.length : Nat) : Int)) := by omega
    have hlt2 : ((i : Int) < ((l.length : Nat) : Int)) := by omega
    have h0 : (0 : Int) ≤ (i : Int) := by omega
    have hs : IntKind.i64.wrap (sumS (l.take i) + (l.getD i j0).Size) = need l i := by
      rw [← need_succ hi]
      exact wrap64 (by omega) (by omega)
    refine ⟨(need l i, (i : Int) + 1, (List.range i).map (demS p now l) ++ [demS p now l i]), ?_, ?_⟩
    · unfold admit_demands_L1
      simp only [hlt, hlt2, h0, decide_true, cond_true, Bool.and_self, chkO_true, hw]
      rw [bind_some_of (getI_in j0 hi), bind_some_of b8, hs]
      have hc : decide (((List.range i).map (demS p now l)).length + [(admit_demand.mk (l.getD i j0) (need l i) (give p now l i))].length ≤ 1000000) = true := by simp; omega
      rw [hc, chkO_true]
      rfl
    · rw [List.range_succ, List.map_append]
      simp only [Prod.mk.injEq]
      exact ⟨rfl, by omega, rfl⟩
  · subst hs
    refine ⟨_, ?_, rfl⟩
    unfold admit_demands_L1
    simp only [hy, Int.lt_irrefl, decide_false, cond_false]
theorem gt_not (a b : Int) : decide (a < b) = !decide (b ≤ a) := not_lt_le a b
theorem demands_eq (p : api_Profile) (hp : ProfOk p) (jobs : List api_Job) (hj : jobs.length ≤ 1000) (now : Int) :
    admit_demands p jobs now = some (bif okA p jobs now then ((List.range jobs.length).map (demS p now (ordR jobs)), true) else ([], false)) := by
  unfold admit_demands
  rw [profile_Check_eq p hp, bind_some_of rfl, admit_valid_eq jobs (by unfold maxLen; omega), ne_zero, gt_not now 0, gt_not 1073741824 now]
  have hf := fun h => okA_fine hp (jobs := jobs) (now := now) h
  unfold okA at hf ⊢
  cases h1 : chk p == 0
  · rfl
  · cases h2 : validB jobs
    · rfl
    · cases h3 : decide (0 ≤ now)
      · rfl
      · cases h4 : decide (now ≤ 1073741824)
        · rfl
        · rw [h1, h2, h3, h4] at hf
          have hclone : slices_Clone_api_Job_api_Job jobs = some jobs := by
            unfold slices_Clone_api_Job_api_Job
            have : decide (jobs.length ≤ 1000000) = true := by simp; omega
            rw [this]
            rfl
          simp only [Bool.not_true, cond_false, Option.bind_some, Bool.and_self, cond_true]
          rw [hclone, bind_some_of rfl, sort_eq h2, bind_some_of rfl, demands_loop (hf rfl) jobs (ordR_len jobs).symm, ordR_len]
          rfl
theorem valid_eq (p : api_Profile) (hp : ProfOk p) (jobs : List api_Job) (hj : jobs.length ≤ 1000) (now : Int) : ref29_valid p jobs now = some (okA p jobs now) := by
  unfold ref29_valid okA
  rw [ref13_Check_eq p hp, bind_some_of rfl, ref29_Right_eq jobs (by unfold maxLen; omega)]
  cases chk p == 0
  · rfl
  · cases validB jobs
    · rfl
    · cases decide (0 ≤ now) <;> rfl
/-- a job could be late -/
def late (p : api_Profile) (now : Int) (l : List api_Job) (i : Nat) : Bool := decide (give p now l i < need l i)
def slackS (p : api_Profile) (now : Int) (l : List api_Job) (i : Nat) : Int := give p now l i - need l i
def planS (p : api_Profile) (jobs : List api_Job) (now : Int) : List Int × Int × Int :=
  bif okA p jobs now then (match (List.range jobs.length).find? (late p now (ordR jobs)) with
    | some i => ([], ((ordR jobs).getD i j0).Id, 16)
    | none => ((List.range jobs.length).map (slackS p now (ordR jobs)), -1, 0)) else ([], -1, 1)
def planL (p : api_Profile) (now : Int) (l : List api_Job) : List Int ⊕ (List Int × Int × Int) := match (List.range l.length).find? (late p now l) with
  | some i => .inr ([], (l.getD i j0).Id, 16)
  | none => .inl ((List.range l.length).map (slackS p now l))
theorem find_late {n : Nat} {q : Nat → Bool} {i : Nat} (hi : i < n) (h : q i = true) (hk : ∀ k, k < i → q k = false) : (List.range n).find? q = some i := List.find?_range_eq_some.2 ⟨h, List.mem_range.2 hi, fun j hj => by rw [hk j hj]; rfl⟩
theorem find_none {n : Nat} {q : Nat → Bool} (hk : ∀ k, k < n → q k = false) : (List.range n).find? q = none := List.find?_range_eq_none.2 fun j hj => by rw [hk j hj]; rfl
theorem getD_dem (p : api_Profile) (now : Int) (l : List api_Job) {i : Nat} (hi : i < l.length) : getI ((List.range l.length).map (demS p now l)) (i : Int) = some (demS p now l i) := by
  rw [getI_nat, List.getElem?_map, List.getElem?_range hi]
  rfl
theorem Fine.slack {p : api_Profile} {now : Int} {l : List api_Job} (h : Fine p now l) {i : Nat} (hi : i < l.length) : IntKind.i64.wrap (give p now l i - need l i) = slackS p now l i := by
  obtain ⟨b1, b2, b3, b4, b5, b6, b7, b8, b9⟩ := h.at_ hi
  exact wrap64 (by omega) (by omega)
theorem plan_loop {p : api_Profile} {now : Int} {l : List api_Job} (h : Fine p now l) : loopF (admit_Plan_L1 ((List.range l.length).map (demS p now l), true)) (0, []) = some (planL p now l) := by
  refine loopF_inv (body := admit_Plan_L1 ((List.range l.length).map (demS p now l), true)) l.length (fun i s => s = ((i : Int), (List.range i).map (slackS p now l)) ∧ ∀ k, k < i → late p now l k = false) (fun r => r = some (planL p now l)) (fun i s hi hs => ?_) (fun s hs => ?_) ⟨rfl, fun k hk => by omega⟩
  · obtain ⟨rfl, hk⟩ := hs
    have hl := h.len
    have hw : IntKind.i64.wrap ((i : Int) + 1) = (i : Int) + 1 := wrap64 (by omega) (by omega)
    have hlt : ((i : Int) < ((((List.range l.length).map (demS p now l)).length : Nat) : Int)) := by simp; omega
    have h0 : (0 : Int) ≤ (i : Int) := by omega
    have hc : decide (((List.range i).map (slackS p now l)).length + [slackS p now l i].length ≤ 1000000) = true := by simp; omega
    have hbody : admit_Plan_L1 ((List.range l.length).map (demS p now l), true) ((i : Int), (List.range i).map (slackS p now l)) = bif late p now l i then some (.inr (.inr ([], (l.getD i j0).Id, 16))) else some (.inl ((i : Int) + 1, (List.range i).map (slackS p now l) ++ [slackS p now l i])) := by
      unfold admit_Plan_L1
      simp only [hlt, h0, decide_true, cond_true, Bool.and_self, chkO_true, hw]
      rw [bind_some_of (getD_dem p now l hi)]
      have e : IntKind.i64.wrap ((demS p now l i).gives - (demS p now l i).needs) = slackS p now l i := h.slack hi
      rw [e, hc, chkO_true]
      rfl
    cases hlate : late p now l i
    · left
      rw [hbody, hlate]
      refine ⟨_, rfl, ?_, fun k hk' => ?_⟩
      · rw [List.range_succ, List.map_append]
        simp only [Prod.mk.injEq]
        exact ⟨by omega, rfl⟩
      · by_cases hki : k < i
        · exact hk k hki
        · have : k = i := by omega
          subst this
          exact hlate
    · right
      rw [hbody, hlate]
      refine ⟨_, rfl, ?_⟩
      unfold planL
      rw [find_late hi hlate hk]
  · obtain ⟨rfl, hk⟩ := hs
    refine ⟨.inl ((List.range l.length).map (slackS p now l)), ?_, ?_⟩
    · unfold admit_Plan_L1
      simp only [List.length_map, List.length_range, Int.lt_irrefl, decide_false, cond_false]
    · unfold planL
      rw [find_none hk]
theorem plan_eq (p : api_Profile) (hp : ProfOk p) (jobs : List api_Job) (hj : jobs.length ≤ 1000) (now : Int) : admit_Plan p jobs now = some (planS p jobs now) := by
  unfold admit_Plan planS
  rw [demands_eq p hp jobs hj, bind_some_of rfl]
  cases h : okA p jobs now
  · rfl
  · have := plan_loop (okA_fine hp h)
    rw [ordR_len] at this
    simp only [cond_true, Bool.not_true, cond_false]
    rw [this]
    unfold planL
    rw [ordR_len]
    cases (List.range jobs.length).find? (late p now (ordR jobs)) <;> rfl
theorem ref_plan_loop {p : api_Profile} {now : Int} {l : List api_Job} (h : Fine p now l) : loopF (ref29_Plan_L1 l p now) (0, 0, []) = some (planL p now l) := by
  refine loopF_inv (body := ref29_Plan_L1 l p now) l.length (fun i s => s = (sumS (l.take i), (i : Int), (List.range i).map (slackS p now l)) ∧ ∀ k, k < i → late p now l k = false) (fun r => r = some (planL p now l)) (fun i s hi hs => ?_) (fun s hs => ?_) ⟨rfl, fun k hk => by omega⟩
  · obtain ⟨rfl, hk⟩ := hs
    obtain ⟨b1, b2, b3, b4, b5, b6, b7, b8, b9⟩ := h.at_ hi
    have hl := h.len
    have hw : IntKind.i64.wrap ((i : Int) + 1) = (i : Int) + 1 := wrap64 (by omega) (by omega)
    have hlt : ((i : Int) < ((l.length : Nat) : Int)) := by omega
    have h0 : (0 : Int) ≤ (i : Int) := by omega
    have hs : IntKind.i64.wrap (sumS (l.take i) + (l.getD i j0).Size) = need l i := by
      rw [← need_succ hi]
      exact wrap64 (by omega) (by omega)
    have hc : decide (((List.range i).map (slackS p now l)).length + [slackS p now l i].length ≤ 1000000) = true := by simp; omega
    have hd : decide (slackS p now l i < 0) = late p now l i := by
      unfold late slackS
      apply bool_ext
      simp only [decide_eq_true_eq]
      omega
    have hbody : ref29_Plan_L1 l p now (sumS (l.take i), (i : Int), (List.range i).map (slackS p now l)) = bif late p now l i then some (.inr (.inr ([], (l.getD i j0).Id, 16))) else some (.inl (need l i, (i : Int) + 1, (List.range i).map (slackS p now l) ++ [slackS p now l i])) := by
      unfold ref29_Plan_L1
      simp only [hlt, h0, decide_true, cond_true, Bool.and_self, chkO_true, hw]
      rw [bind_some_of (getI_in j0 hi), bind_some_of b9, hs, h.slack hi, hc, chkO_true, hd]
    cases hlate : late p now l i
    · left
      rw [hbody, hlate]
      refine ⟨_, rfl, ?_, fun k hk' => ?_⟩
      · rw [List.range_succ, List.map_append]
        simp only [Prod.mk.injEq]
        exact ⟨rfl, by omega, rfl⟩
      · by_cases hki : k < i
        · exact hk k hki
        · have : k = i := by omega
          subst this
          exact hlate
    · right
      rw [hbody, hlate]
      refine ⟨_, rfl, ?_⟩
      unfold planL
      rw [find_late hi hlate hk]
  · obtain ⟨rfl, hk⟩ := hs
    refine ⟨.inl ((List.range l.length).map (slackS p now l)), ?_, ?_⟩
    · unfold ref29_Plan_L1
      simp only [Int.lt_irrefl, decide_false, cond_false]
    · unfold planL
      rw [find_none hk]
theorem ref_plan_eq (p : api_Profile) (hp : ProfOk p) (jobs : List api_Job) (hj : jobs.length ≤ 1000) (now : Int) : ref29_Plan p jobs now = some (planS p jobs now) := by
  unfold ref29_Plan planS
  rw [valid_eq p hp jobs hj, bind_some_of rfl]
  cases h : okA p jobs now
  · rfl
  · have := ref_plan_loop (okA_fine hp h)
    simp only [cond_true, Bool.not_true, cond_false]
    rw [ref29_Order_eq jobs hj, bind_some_of rfl, this]
    unfold planL
    rw [ordR_len]
    cases (List.range jobs.length).find? (late p now (ordR jobs)) <;> rfl
end Go.Proofs.Ytafgcjodefafoaa

/-
  What waits for one network, and what a step takes from it: the parts of the queue's theorem.
-/
import Derived.Test.YtbijnfgjcbfpmaaW1
namespace Go.Proofs.Ytbijnfgjcbfpmaa
open Go.RowKit
/-- what is due by a step -/
def leftD (d : Int) : List api_Waiting → Int
  | [] => 0
  | w :: r => (bif decide (w.Due ≤ d) then w.Left else 0) + leftD d r
theorem leftD_filter (d : Int) : ∀ l : List api_Waiting, leftD d (l.filter nz) = leftD d l
  | [] => rfl
  | w :: l => by
    rw [List.filter_cons]
    cases h : nz w
    · have h0 : w.Left = 0 := by simpa [nz] using h
      rw [if_neg (by simp), leftD, leftD_filter d l, h0]
      cases decide (w.Due ≤ d) <;> simp
    · rw [if_pos rfl, leftD, leftD, leftD_filter d l]
theorem leftD_jobs (d : Int) : ∀ l : List api_Waiting, (∀ w ∈ l, w.Net = 1) → sumS ((jobsS 1 l).filter fun j => decide (j.Due ≤ d)) = leftD d l
  | [], _ => rfl
  | w :: l, h => by
    have ih := leftD_jobs d l fun x hx => h x (by simp [hx])
    have e : jobsS 1 (w :: l) = jobW w :: jobsS 1 l := by
      have := jobsS_append 1 [w] l
      rw [jobsS_one, h w (by simp)] at this
      exact this
    rw [e, List.filter_cons, leftD]
    have ed : (jobW w).Due = w.Due := rfl
    rw [ed]
    cases hd : decide (w.Due ≤ d)
    · simp only [cond_false, Int.zero_add]
      rw [if_neg (by simp), ih]
    · simp only [cond_true]
      rw [if_pos trivial, sumS, ih]
      rfl
theorem leftD_nonneg (d : Int) : ∀ l : List api_Waiting, (∀ w ∈ l, 0 ≤ w.Left) → 0 ≤ leftD d l
  | [], _ => Int.le_refl _
  | w :: l, h => by
    have ih := leftD_nonneg d l fun x hx => h x (by simp [hx])
    have := h w (by simp)
    rw [leftD]
    cases decide (w.Due ≤ d) <;> simp <;> omega
theorem leftD_zero {d : Int} : ∀ {l : List api_Waiting}, (∀ w ∈ l, 1 ≤ w.Left) → leftD d l ≤ 0 → ∀ w ∈ l, d < w.Due
  | [], _, _ => by simp
  | x :: l, h, hz => by
    have h1 := h x (by simp)
    have h2 := leftD_nonneg d l fun y hy => by have := h y (by simp [hy]); omega
    rw [leftD] at hz
    have hx : ¬ x.Due ≤ d := by
      intro hx
      rw [decide_eq_true hx] at hz
      simp only [cond_true] at hz
      omega
    rw [decide_eq_false hx] at hz
    simp only [cond_false] at hz
    intro w hw
    rcases List.mem_cons.1 hw with rfl | hw
    · omega
    · exact leftD_zero (fun y hy => h y (by simp [hy])) (by omega) w hw
/-- what is given goes to what is due, if nothing else is given -/
theorem left_total (d : Int) : ∀ (a b : List api_Waiting), b.length = a.length → (∀ j, Gave (a.getD j w0) (b.getD j w0)) → (∀ j, j < a.length → (a.getD j w0).Net = 1) →
    (∀ j, j < a.length → (b.getD j w0).Left < (a.getD j w0).Left → (a.getD j w0).Due ≤ d) → leftD d a - leftD d b = totalS 1 a - totalS 1 b
  | [], [], _, _, _, _ => rfl
  | [], _ :: _, h, _, _, _ => by simp at h
  | _ :: _, [], h, _, _, _ => by simp at h
  | x :: a, y :: b, hl, hg, hn, hd => by
    have ih := left_total d a b (by simpa using hl) (fun j => by simpa using hg (j + 1)) (fun j hj => by simpa using hn (j + 1) (by simpa using hj)) (fun j hj hlt => by simpa using hd (j + 1) (by simpa using hj) (by simpa using hlt))
    have g : Gave x y := by simpa using hg 0
    have n : x.Net = 1 := by simpa using hn 0 (by simp)
    have dd : y.Left < x.Left → x.Due ≤ d := by simpa using hd 0 (by simp)
    have n2 : y.Net = 1 := g.net.trans n
    simp only [leftD, totalS]
    rw [n, n2, g.due]
    have hhi := g.hi
    simp only [beq_self_eq_true, cond_true]
    by_cases h : x.Due ≤ d
    · rw [decide_eq_true h]
      simp only [cond_true]
      omega
    · rw [decide_eq_false h]
      simp only [cond_false]
      have : ¬ y.Left < x.Left := fun hlt => h (dd hlt)
      omega
theorem left_le (d : Int) : ∀ (a b : List api_Waiting), b.length = a.length → (∀ j, Gave (a.getD j w0) (b.getD j w0)) → leftD d b ≤ leftD d a
  | [], [], _, _ => Int.le_refl _
  | [], _ :: _, h, _ => by simp at h
  | _ :: _, [], h, _ => by simp at h
  | x :: a, y :: b, hl, hg => by
    have ih := left_le d a b (by simpa using hl) (fun j => by simpa using hg (j + 1))
    have g : Gave x y := by simpa using hg 0
    simp only [leftD]
    rw [g.due]
    have hhi := g.hi
    cases decide (x.Due ≤ d) <;> simp <;> omega
theorem left_none {d : Int} : ∀ {l : List api_Waiting}, (∀ w ∈ l, w.Due ≤ d → w.Left = 0) → leftD d l = 0
  | [], _ => rfl
  | x :: l, h => by
    have ih := left_none (d := d) (l := l) fun w hw => h w (by simp [hw])
    rw [leftD, ih]
    by_cases hx : x.Due ≤ d
    · rw [h x (by simp) hx]; simp
    · rw [decide_eq_false hx]; rfl
/-- a step with service serves what is due first -/
theorem step_less {rate : Int} (hr : 0 ≤ rate) {l : List api_Waiting} {R : List Int × List api_Waiting} (g : GF rate 1 l R) (hn : ∀ w ∈ l, w.Net = 1) (d c : Int) (hc : 0 ≤ c) (h : leftD d l ≤ rate * (1 + c)) : leftD d (R.2.filter nz) ≤ rate * c := by
  rw [leftD_filter]
  have hrc : rate * (1 + c) = rate + rate * c := by rw [Int.mul_add, Int.mul_one]
  have hnn : 0 ≤ rate * c := Int.mul_nonneg hr hc
  have hnet : ∀ j, j < l.length → (l.getD j w0).Net = 1 := fun j hj => hn _ (mem_getD hj)
  by_cases hz : ∀ w ∈ R.2, w.Due ≤ d → w.Left = 0
  · rw [left_none hz]
    exact hnn
  · have : ∃ w ∈ R.2, w.Due ≤ d ∧ w.Left ≠ 0 := by
      apply Classical.byContradiction
      intro hno
      exact hz fun w hw hd => Classical.byContradiction fun h0 => hno ⟨w, hw, hd, h0⟩
    obtain ⟨w, hw, hd, h0⟩ := this
    obtain ⟨i, hi, rfl⟩ := getD_of_mem hw
    rw [g.len] at hi
    have gi := g.gave i
    have hto := left_total d l R.2 g.len g.gave hnet fun k hk hlt => by
      apply Classical.byContradiction
      intro hkd
      have hb : ltW (l.getD i w0) (l.getD k w0) = true := by
        rw [ltW_iff]
        left
        have := gi.due
        omega
      exact h0 (g.ord k i hk hi (hnet k hk) (hnet i hi) hlt hb)
    have ht := g.tot
    rw [totalS_filter] at ht
    by_cases hm : rate ≤ totalS 1 l
    · rw [Int.min_eq_left hm] at ht
      omega
    · rw [Int.min_eq_right (by omega)] at ht
      have hnn2 : ∀ w ∈ R.2, 0 ≤ w.Left := fun w hw => by
        obtain ⟨j, _, rfl⟩ := getD_of_mem hw
        exact (g.gave j).lo
      have key : ∀ (q : List api_Waiting), (∀ w ∈ q, 0 ≤ w.Left ∧ w.Net = 1) → totalS 1 q ≤ 0 → ∀ w ∈ q, w.Left = 0 := by
        intro q
        induction q with
        | nil => simp
        | cons x q ih =>
          intro hq ht w hw
          have hx := hq x (by simp)
          have hq' := fun w hw => hq w (List.mem_cons_of_mem x hw)
          have hge : 0 ≤ totalS 1 q := by
            clear ih ht hw
            induction q with
            | nil => simp [totalS]
            | cons y q ih =>
              have := ih (fun w hw => hq w (by simp at hw ⊢; rcases hw with h | h <;> simp [h])) (fun w hw => hq' w (by simp [hw]))
              have hy := hq' y (by simp)
              rw [totalS, hy.2]
              simp
              omega
          rw [totalS, hx.2] at ht
          simp only [beq_self_eq_true, cond_true] at ht
          rcases List.mem_cons.1 hw with rfl | hw
          · omega
          · exact ih hq' (by omega) w hw
      have := key R.2 (fun w hw => ⟨hnn2 w hw, by
        obtain ⟨j, hj, rfl⟩ := getD_of_mem hw
        rw [g.len] at hj
        exact (g.gave j).net.trans (hnet j hj)⟩) (by omega) _ hw
      exact absurd this h0
theorem map_range_getD (l : List api_Waiting) : (List.range l.length).map (fun i => l.getD i w0) = l := by
  apply List.ext_getElem
  · simp
  · intro i h1 h2
    simp [List.getD_eq_getElem?_getD, List.getElem?_eq_getElem h2]
/-- what is done, and what is left, is what there was -/
theorem step_perm {p : api_Profile} {l : List api_Waiting} (hl : l.length ≤ 1000) (hc : profile_Check p = some 0) (hr : 0 ≤ p.Rate ∧ p.Rate ≤ 1099511627776) (hq : queueB l = true) (hn : ∀ w ∈ l, w.Net = 1) {a : List Int} {b : List api_Waiting}
    (h : queue_Step p 1 l true = some (a, b)) : (a ++ b.map api_Waiting.Event).Perm (l.map api_Waiting.Event) := by
  obtain ⟨r, h1, h2, h3⟩ := step_up p 1 l hl hc hr hq
  rw [h] at h3
  injection h3 with h3
  injection h3 with ha hb
  have hnet : ∀ j, j < l.length → (l.getD j w0).Net = 1 := fun j hj => hn _ (mem_getD hj)
  have hmem : ∀ x ∈ r, ∃ j : Nat, x = (j : Int) ∧ j < l.length := fun x hx => by
    obtain ⟨j, e, hj, _⟩ := mem_idxs (h1.mem_iff.1 hx)
    exact ⟨j, e, hj⟩
  have hleft0 : ∀ k : Nat, 0 ≤ (l.getD k w0).Left := by
    intro k
    by_cases hk : k < l.length
    · have := (okW_left (queue_ok hq hk)).1; omega
    · rw [List.getD_eq_getElem?_getD, List.getElem?_eq_none (by omega)]
      exact Int.le_refl _
  have F := giveS_facts r p.Rate [] l hr.1 (h1.nodup_iff.2 (idxs_nodup 1 l l.length)) hmem hleft0
  have hlen := giveS_len r p.Rate [] l
  generalize giveS p.Rate r [] l = R at F hlen ha hb
  subst hb
  rw [F.done, List.nil_append] at ha
  have hid : idxs 1 l l.length = (List.range l.length).map fun (i : Nat) => ((i : Nat) : Int) := by
    unfold idxs
    congr 1
    rw [List.filter_eq_self]
    intro i hi
    rw [hnet i (List.mem_range.1 hi)]
    rfl
  rw [hid] at h1
  have pa : a.Perm (((List.range l.length).filter fun i => (R.2.getD i w0).Left == 0).map fun i => (l.getD i w0).Event) := by
    rw [ha]
    refine ((h1.filter _).map _).trans ?_
    rw [List.filter_map, List.map_map]
    exact List.Perm.of_eq rfl
  have eb : (R.2.filter fun w => !(w.Left == 0)).map api_Waiting.Event = ((List.range l.length).filter fun i => !((R.2.getD i w0).Left == 0)).map fun i => (l.getD i w0).Event := by
    conv => lhs; rw [← map_range_getD R.2, hlen, List.filter_map, List.map_map]
    exact List.map_congr_left fun i _ => (F.gave i).event
  rw [eb]
  refine (pa.append_right _).trans ?_
  rw [← List.map_append]
  refine ((List.filter_append_perm _ _).map _).trans ?_
  refine List.Perm.of_eq ?_
  conv => rhs; rw [← map_range_getD l]
  rw [List.map_map]
  rfl
/-- what is left is a queue -/
theorem step_queue {rate net : Int} {l : List api_Waiting} {R : List Int × List api_Waiting} (g : GF rate net l R) (hq : queueB l = true) : queueB (R.2.filter nz) = true := by
  obtain ⟨h1, h2⟩ := queueB_iff.1 hq
  have hp : R.2.Pairwise Diff := by
    rw [List.pairwise_iff_getElem] at h2 ⊢
    intro i j hi hj hij
    have hi' : i < l.length := by rw [← g.len]; exact hi
    have hj' : j < l.length := by rw [← g.len]; exact hj
    have h := h2 i j hi' hj' hij
    have gi := g.gave i
    have gj := g.gave j
    simp only [List.getD_eq_getElem?_getD, List.getElem?_eq_getElem hi, List.getElem?_eq_getElem hi', List.getElem?_eq_getElem hj, List.getElem?_eq_getElem hj', Option.getD_some] at gi gj
    intro hc
    exact h ⟨by rw [← gi.event, ← gj.event]; exact hc.1, by rw [← gi.net, ← gj.net]; exact hc.2⟩
  rw [queueB_iff]
  refine ⟨fun w hw => ?_, hp.sublist List.filter_sublist⟩
  obtain ⟨hw, hz⟩ := List.mem_filter.1 hw
  obtain ⟨j, hj, rfl⟩ := getD_of_mem hw
  rw [g.len] at hj
  have ho := queue_ok hq hj
  have gj := g.gave j
  have hnz : (R.2.getD j w0).Left ≠ 0 := by simpa [nz] using hz
  unfold okW at ho ⊢
  simp only [Bool.and_eq_true, decide_eq_true_eq] at ho ⊢
  rw [gj.event, gj.net, gj.due]
  have h3 := gj.lo
  have h4 := gj.hi
  refine ⟨⟨⟨⟨⟨⟨⟨ho.1.1.1.1.1.1.1, ho.1.1.1.1.1.1.2⟩, ho.1.1.1.1.1.2⟩, ho.1.1.1.1.2⟩, by omega⟩, ?_⟩, ho.1.2⟩, ho.2⟩
  have := ho.1.1.2
  omega
theorem step_mem {rate net : Int} {l : List api_Waiting} {R : List Int × List api_Waiting} (g : GF rate net l R) {w : api_Waiting} (hw : w ∈ R.2.filter nz) : ∃ v ∈ l, w.Event = v.Event ∧ w.Net = v.Net ∧ w.Due = v.Due := by
  obtain ⟨hw, _⟩ := List.mem_filter.1 hw
  obtain ⟨j, hj, rfl⟩ := getD_of_mem hw
  rw [g.len] at hj
  exact ⟨_, mem_getD hj, (g.gave j).event, (g.gave j).net, (g.gave j).due⟩
end Go.Proofs.Ytbijnfgjcbfpmaa

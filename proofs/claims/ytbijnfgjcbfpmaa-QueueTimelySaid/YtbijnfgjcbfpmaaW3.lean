/-
  Nothing that was put is ever late: what holds between two things that happen.
-/
import Derived.Test.YtbijnfgjcbfpmaaW2
namespace Go.Proofs.Ytbijnfgjcbfpmaa
open Go.RowKit
theorem seqF_l {A B : Type} {k : A → Option B} {a : A} : seqF (some (Sum.inl a)) k = k a := rfl
theorem seqF_r {A B : Type} {k : A → Option B} {b : B} : seqF (some (Sum.inr b)) k = some b := rfl
theorem bind_s {A B : Type} {k : A → Option B} {a : A} : (some a).bind k = k a := rfl
def a0A : linguaref30_Act := ⟨0, 0, 0, 0⟩
def isStep (a : linguaref30_Act) : Bool := a.Do == 1 || a.Do == 2
/-- in which steps there is service -/
def upsA (l : List linguaref30_Act) : List Bool := (l.filter isStep).map fun a => a.Do == 1
theorem upsA_append (a b : List linguaref30_Act) : upsA (a ++ b) = upsA a ++ upsA b := by
  unfold upsA
  rw [List.filter_append, List.map_append]
theorem upsA_len (l : List linguaref30_Act) : (upsA l).length ≤ l.length := by
  unfold upsA
  rw [List.length_map]
  exact List.length_filter_le _ _
theorem upsA_take {l : List linguaref30_Act} {i : Nat} (hi : i < l.length) : upsA (l.take (i + 1)) = upsA (l.take i) ++ bif isStep (l.getD i a0A) then [(l.getD i a0A).Do == 1] else [] := by
  rw [take_succ_getD l a0A hi, upsA_append]
  congr 1
  unfold upsA
  rw [List.filter_cons]
  cases isStep (l.getD i a0A) <;> rfl
theorem upsA_mid {l : List linguaref30_Act} {i : Nat} (hi : i < l.length) (h : isStep (l.getD i a0A) = true) : ∃ r, upsA l = upsA (l.take i) ++ ((l.getD i a0A).Do == 1) :: r := by
  refine ⟨upsA (l.drop (i + 1)), ?_⟩
  have e : l = l.take (i + 1) ++ l.drop (i + 1) := (List.take_append_drop _ _).symm
  have := congrArg upsA e
  rw [upsA_append, upsA_take hi, h] at this
  rw [this]
  simp
theorem timely_L1 (l : List linguaref30_Act) (hl : l.length ≤ 1000) : loopF (law30_QueueTimely_L1 l) ((0 : Int), []) = some (.inl (upsA l)) := by
  refine loopF_inv (body := law30_QueueTimely_L1 l) l.length (fun i s => s = ((i : Int), upsA (l.take i))) (fun r => r = some (.inl (upsA l))) (fun i s hi hs => ?_) (fun s hs => ?_) rfl
  · subst hs
    left
    have hlt : decide ((i : Int) < (l.length : Int)) = true := decide_eq_true (by omega)
    have hw : IntKind.i64.wrap ((i : Int) + 1) = ((i + 1 : Nat) : Int) := by rw [wrap64 (by omega) (by omega)]; omega
    have hul := upsA_len (l.take i)
    rw [List.length_take] at hul
    have hc : ∀ b : Bool, decide ((upsA (l.take i)).length + [b].length ≤ 1000000) = true := fun b => decide_eq_true (by simp; omega)
    refine ⟨_, ?_, rfl⟩
    unfold law30_QueueTimely_L1
    rw [upsA_take hi]
    unfold isStep
    simp only [hlt, cond_true, getI_in a0A hi, bind_s, hw, hc, chkO_true]
    cases h1 : (l.getD i a0A).Do == 1
    · cases h2 : (l.getD i a0A).Do == 2
      · simp
      · simp
    · simp
  · subst hs
    refine ⟨.inl (upsA l), ?_, rfl⟩
    unfold law30_QueueTimely_L1
    simp only [Int.lt_irrefl, decide_false, cond_false, List.take_length]
theorem timely_L2 (s51 : ((List api_Waiting) × Int × Int × (List api_Waiting) × (List Int))) (x : linguaref30_Act) (hl : s51.2.2.2.1.length ≤ 1000) :
    loopF (law30_QueueTimely_L2 s51 x) (false, (0 : Int)) = some (.inl (s51.2.2.2.1.any fun w => w.Event == x.Event)) := by
  refine loopF_inv (body := law30_QueueTimely_L2 s51 x) s51.2.2.2.1.length (fun i s => s = ((s51.2.2.2.1.take i).any fun w => w.Event == x.Event, (i : Int))) (fun r => r = some (.inl (s51.2.2.2.1.any fun w => w.Event == x.Event))) (fun i s hi hs => ?_) (fun s hs => ?_) rfl
  · subst hs
    left
    have hlt : decide ((i : Int) < (s51.2.2.2.1.length : Int)) = true := decide_eq_true (by omega)
    have hw : IntKind.i64.wrap ((i : Int) + 1) = ((i + 1 : Nat) : Int) := by rw [wrap64 (by omega) (by omega)]; omega
    have h0 : decide ((0 : Int) ≤ (i : Int)) = true := decide_eq_true (by omega)
    refine ⟨_, ?_, rfl⟩
    unfold law30_QueueTimely_L2
    rw [take_succ_getD s51.2.2.2.1 w0 hi, List.any_append]
    simp only [hlt, h0, cond_true, getI_in w0 hi, bind_s, hw, Bool.and_self, chkO_true]
    cases (s51.2.2.2.1.take i).any fun w => w.Event == x.Event
    · simp
    · simp
  · subst hs
    refine ⟨_, ?_, rfl⟩
    unfold law30_QueueTimely_L2
    simp only [Int.lt_irrefl, decide_false, cond_false, List.take_length]
theorem gone_eq (q : List api_Waiting) (hl : q.length ≤ 1000) (e : Int) : law30_gone q e = some (!(q.any fun w => w.Event == e)) := by
  have := loopF_idx (body := law30_gone_L1 q e) q.length (fun i => !((q.getD i w0).Event == e)) false (fun i hi => by
    have hlt : decide ((i : Int) < (q.length : Int)) = true := decide_eq_true (by omega)
    have hw : IntKind.i64.wrap ((i : Int) + 1) = (i : Int) + 1 := wrap64 (by omega) (by omega)
    unfold law30_gone_L1
    simp only [hlt, cond_true, getI_in w0 hi, bind_s, hw]
    cases (q.getD i w0).Event == e <;> rfl) (by
    unfold law30_gone_L1
    simp only [Int.lt_irrefl, decide_false, cond_false])
  unfold law30_gone
  rw [this]
  have e1 : (List.range q.length).all (fun i => !((q.getD i w0).Event == e)) = !(q.any fun w => w.Event == e) := by
    have hm := map_range_getD q
    conv => rhs; rw [← hm]
    rw [List.any_map, List.not_any_eq_all_not]
    rfl
  rw [e1]
  cases q.any fun w => w.Event == e <;> rfl
/-- what holds between two things that happen -/
structure Inv5 (p : api_Profile) (U : List Bool) (l : List linguaref30_Act) (i n : Nat) (q put : List api_Waiting) (out : List Int) : Prop where
  now : n = (upsA (l.take i)).length
  hq : queueB q = true
  net : ∀ w ∈ q, w.Net = 1
  len : put.length ≤ i
  perm : (out ++ q.map api_Waiting.Event).Perm (put.map api_Waiting.Event)
  nd : (put.map api_Waiting.Event).Nodup
  due : ∀ w ∈ q, ∃ v ∈ put, v.Event = w.Event ∧ v.Due = w.Due
  sup : ∀ d : Nat, n ≤ d → d ≤ U.length → leftD (d : Int) q ≤ p.Rate * cntT ((U.take d).drop n)
theorem Inv5.sizes {p : api_Profile} {U : List Bool} {l : List linguaref30_Act} {i n : Nat} {q put : List api_Waiting} {out : List Int} (h : Inv5 p U l i n q put out) : out.length + q.length = put.length := by
  have := h.perm.length_eq
  simpa using this
theorem Inv5.lefts {p : api_Profile} {U : List Bool} {l : List linguaref30_Act} {i n : Nat} {q put : List api_Waiting} {out : List Int} (h : Inv5 p U l i n q put out) : ∀ w ∈ q, 1 ≤ w.Left := by
  intro w hw
  obtain ⟨j, hj, rfl⟩ := getD_of_mem hw
  exact (okW_left (queue_ok h.hq hj)).1
/-- nothing is late -/
theorem Inv5.fresh {p : api_Profile} {U : List Bool} {l : List linguaref30_Act} {i n : Nat} {q put : List api_Waiting} {out : List Int} (h : Inv5 p U l i n q put out) (hn : n ≤ U.length) : ∀ w ∈ q, (n : Int) < w.Due := by
  have hs := h.sup n (Nat.le_refl _) hn
  have e : (U.take n).drop n = [] := by
    apply List.eq_nil_of_length_eq_zero
    rw [List.length_drop, List.length_take]
    omega
  rw [e] at hs
  exact leftD_zero h.lefts (by simpa [cntT] using hs)
/-- an entry that is put -/
theorem Inv5.put {p : api_Profile} (h0 : chk p = 0) {U : List Bool} {l : List linguaref30_Act} {i n : Nat} {q put : List api_Waiting} {out : List Int} (h : Inv5 p U l i n q put out) (ha : allowB p U = true) (hU : U.length ≤ 60) {w : api_Waiting}
    (hi : i < l.length) (hs : isStep (l.getD i a0A) = false) (hnet : w.Net = 1) (hnew : (put.any fun v => v.Event == w.Event) = false) (ok : okW w = true) (hh : hasW q w.Event w.Net = false) (hp : PlanOk p (jobsS w.Net (q ++ [w])) (n : Int)) : Inv5 p U l (i + 1) n (q ++ [w]) (put ++ [w]) out := by
  have hnets : ∀ v ∈ q ++ [w], v.Net = 1 := by
    intro v hv
    rcases List.mem_append.1 hv with hv | hv
    · exact h.net v hv
    · rw [List.mem_singleton.1 hv]; exact hnet
  have hne : w.Event ∉ put.map api_Waiting.Event := by
    intro hm
    obtain ⟨v, hv, e⟩ := List.mem_map.1 hm
    have : (put.any fun v => v.Event == w.Event) = true := List.any_eq_true.2 ⟨v, hv, by simp [e]⟩
    rw [this] at hnew
    cases hnew
  refine ⟨?_, ?_, hnets, by simp; exact h.len, ?_, ?_, ?_, ?_⟩
  · rw [upsA_take hi, hs]
    simpa using h.now
  · obtain ⟨h1, h2⟩ := queueB_iff.1 h.hq
    rw [queueB_iff]
    refine ⟨fun v hv => ?_, ?_⟩
    · rcases List.mem_append.1 hv with hv | hv
      · exact h1 v hv
      · rw [List.mem_singleton.1 hv]; exact ok
    · rw [List.pairwise_append]
      refine ⟨h2, List.pairwise_singleton _ _, fun v hv x hx => ?_⟩
      rw [List.mem_singleton.1 hx]
      exact hasW_false.1 hh v hv
  · rw [List.map_append, List.map_append, ← List.append_assoc]
    exact h.perm.append_right _
  · rw [List.map_append, List.nodup_append]
    refine ⟨h.nd, by simp, fun a ha' b hb => ?_⟩
    have : b = w.Event := by simpa using hb
    subst this
    intro e
    subst e
    exact hne ha'
  · intro v hv
    rcases List.mem_append.1 hv with hv | hv
    · obtain ⟨u, hu, e⟩ := h.due v hv
      exact ⟨u, by simp [hu], e⟩
    · rw [List.mem_singleton.1 hv]
      exact ⟨w, by simp, rfl, rfl⟩
  · intro d h1 h2
    rw [hnet] at hp
    have hl := load_any hp (fun j => decide (j.Due ≤ (d : Int))) (d : Int) (by omega) (fun a b _ _ hb hab => by
      rw [leJ_iff] at hab
      have hb := of_decide_eq_true hb
      exact decide_eq_true (by omega)) (fun a _ ha => of_decide_eq_true ha)
    rw [leftD_jobs _ _ hnets] at hl
    exact Int.le_trans hl (seg_least h0 ha h1 h2 hU)
/-- nothing happens to the queue -/
theorem Inv5.skip {p : api_Profile} {U : List Bool} {l : List linguaref30_Act} {i n : Nat} {q put : List api_Waiting} {out : List Int} (h : Inv5 p U l i n q put out) (hi : i < l.length) (hs : isStep (l.getD i a0A) = false) : Inv5 p U l (i + 1) n q put out := by
  refine ⟨?_, h.hq, h.net, Nat.le_succ_of_le h.len, h.perm, h.nd, h.due, h.sup⟩
  rw [upsA_take hi, hs]
  simpa using h.now
theorem Inv5.at {p : api_Profile} {U : List Bool} {l : List linguaref30_Act} {i n : Nat} {q put : List api_Waiting} {out : List Int} (h : Inv5 p U l i n q put out) (hU : U = upsA l) (hi : i < l.length) (hs : isStep (l.getD i a0A) = true) :
    n < U.length ∧ (∀ d, n + 1 ≤ d → d ≤ U.length → (U.take d).drop n = ((l.getD i a0A).Do == 1) :: (U.take d).drop (n + 1)) ∧ n + 1 = (upsA (l.take (i + 1))).length := by
  obtain ⟨r, hr⟩ := upsA_mid hi hs
  have hn := h.now
  have hlt : n < U.length := by
    rw [hU, hr, List.length_append, List.length_cons, ← hn]
    omega
  have hget : U[n]? = some ((l.getD i a0A).Do == 1) := by
    rw [hU, hr, List.getElem?_append_right (by omega), ← hn, Nat.sub_self]
    rfl
  refine ⟨hlt, fun d h1 h2 => ?_, ?_⟩
  · have hd : n < (U.take d).length := by rw [List.length_take]; omega
    rw [List.drop_eq_getElem_cons hd]
    congr 1
    rw [List.getElem_take]
    rw [List.getElem?_eq_getElem hlt] at hget
    injection hget
  · rw [upsA_take hi, hs]
    simp [hn]
/-- a step without service -/
theorem Inv5.down {p : api_Profile} {U : List Bool} {l : List linguaref30_Act} {i n : Nat} {q put : List api_Waiting} {out : List Int} (h : Inv5 p U l i n q put out) (hU : U = upsA l) (hi : i < l.length) (hs : isStep (l.getD i a0A) = true) (hd : ((l.getD i a0A).Do == 1) = false) : Inv5 p U l (i + 1) (n + 1) q put out := by
  obtain ⟨h1, h2, h3⟩ := h.at hU hi hs
  refine ⟨h3, h.hq, h.net, Nat.le_succ_of_le h.len, h.perm, h.nd, h.due, fun d k1 k2 => ?_⟩
  have := h.sup d (by omega) k2
  rw [h2 d k1 k2, hd] at this
  simpa [cntT] using this
theorem cntT_nonneg : ∀ l : List Bool, 0 ≤ cntT l
  | [] => Int.le_refl _
  | b :: l => by
    have := cntT_nonneg l
    rw [cntT]
    cases b <;> simp <;> omega
/-- a step with service -/
theorem Inv5.up {p : api_Profile} (hp : ProfOk p) (h0 : chk p = 0) {U : List Bool} {l : List linguaref30_Act} {i n : Nat} {q put : List api_Waiting} {out : List Int} (h : Inv5 p U l i n q put out) (hU : U = upsA l) (hi : i < l.length) (hl : l.length ≤ 40) (hs : isStep (l.getD i a0A) = true) (hd : ((l.getD i a0A).Do == 1) = true) :
    ∃ a b, queue_Step p 1 q true = some (a, b) ∧ a.length ≤ 40 ∧ Inv5 p U l (i + 1) (n + 1) b put (out ++ a) := by
  obtain ⟨h1, h2, h3⟩ := h.at hU hi hs
  have hok := chk_ok h0
  have hsz := h.sizes
  have hlen := h.len
  have hc : profile_Check p = some 0 := by rw [profile_Check_eq p hp, h0]
  have hr : 0 ≤ p.Rate ∧ p.Rate ≤ 1099511627776 := ⟨by have := hok.rate; omega, by have := hok.rateM; omega⟩
  obtain ⟨R, e, g⟩ := step_facts p 1 q (by omega) hc hr h.hq
  have hperm := step_perm (by omega) hc hr h.hq h.net e
  have hpl := hperm.length_eq
  simp only [List.length_append, List.length_map] at hpl
  refine ⟨_, _, e, by omega, h3, step_queue g h.hq, fun w hw => ?_, Nat.le_succ_of_le h.len, ?_, h.nd, fun w hw => ?_, fun d k1 k2 => ?_⟩
  · obtain ⟨v, hv, _, e2, _⟩ := step_mem g hw
    rw [e2]
    exact h.net v hv
  · rw [List.append_assoc]
    exact (hperm.append_left out).trans h.perm
  · obtain ⟨v, hv, e1, _, e3⟩ := step_mem g hw
    rw [e1, e3]
    exact h.due v hv
  · refine step_less hr.1 g h.net (d : Int) _ (cntT_nonneg _) ?_
    have := h.sup d (by omega) k2
    rw [h2 d k1 k2, hd] at this
    simpa [cntT] using this
end Go.Proofs.Ytbijnfgjcbfpmaa

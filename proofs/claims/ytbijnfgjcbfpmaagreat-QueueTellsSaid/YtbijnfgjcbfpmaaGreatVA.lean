/-
  Layer 30, plain law: putting an entry, and what is late.
  Layer 30, plain law: what a step with service does, in all.
  Layer 30, plain law: queues as lists without doubles; the reference's jobs.
  What is known of the values that come in.
-/
import Derived.Test.YtbijnfgjcbfpmaaGreatUA
import Derived.Test.YtbijnfgjcbfpmaaGreatPA
namespace Go.Proofs.YtbijnfgjcbfpmaaGreat
open Go.RowKit
def jobW (w : api_Waiting) : api_Job := ⟨w.Event, w.Left, w.Due⟩
/-- the jobs of a network -/
def jobsS (net : Int) (l : List api_Waiting) : List api_Job := (l.filter fun w => w.Net == net).map jobW
theorem jobsS_append (net : Int) (a b : List api_Waiting) : jobsS net (a ++ b) = jobsS net a ++ jobsS net b := by
  unfold jobsS
  rw [List.filter_append, List.map_append]
theorem jobsS_len (net : Int) (l : List api_Waiting) : (jobsS net l).length ≤ l.length := by
  unfold jobsS
  rw [List.length_map]
  exact List.length_filter_le _ _
theorem jobsS_one (net : Int) (w : api_Waiting) : jobsS net [w] = bif w.Net == net then [jobW w] else [] := by
  unfold jobsS
  cases h : w.Net == net
  · rw [List.filter_cons, h]; rfl
  · rw [List.filter_cons, h]; rfl
theorem put_L1 (l : List api_Waiting) (w : api_Waiting) (hl : l.length ≤ 900) : loopF (queue_Put_L1 l w) ((0 : Int), []) = some (.inl (jobsS w.Net (l ++ [w]))) := by
  have hn : (l ++ [w]).length ≤ 901 := by rw [List.length_append, List.length_singleton]; omega
  generalize hm : l ++ [w] = m at hn
  refine loopF_inv (body := queue_Put_L1 l w) m.length (fun i s => s = ((i : Int), jobsS w.Net (m.take i))) (fun r => r = some (.inl (jobsS w.Net m))) ?_ ?_ (s0 := ((0 : Int), [])) rfl
  · rintro i s hi rfl
    left
    have c1 : decide ((i : Int) < ((m.length : Nat) : Int)) = true := by simp; omega
    have c2 : decide ((0 : Int) ≤ (i : Int)) = true := by simp
    have hlen := jobsS_len w.Net (m.take i)
    have hlt : (m.take i).length = i := by rw [List.length_take]; omega
    have hone := jobsS_one w.Net (m.getD i w0)
    unfold queue_Put_L1
    rw [hm]
    simp only [c1, c2, cond_true, Bool.and_self, chkO_true]
    rw [bind_some_of (getI_in w0 hi), wrap64 (by omega) (by omega)]
    have hs := jobsS_append w.Net (m.take i) [m.getD i w0]
    rw [← take_succ_getD m w0 hi, hone] at hs
    cases hn2 : (m.getD i w0).Net == w.Net
    · rw [hn2] at hs
      simp only [cond_false]
      exact ⟨_, rfl, by rw [hs]; simp⟩
    · rw [hn2] at hs
      simp only [cond_true]
      rw [chk_true (by simp; omega)]
      exact ⟨_, rfl, by rw [hs]; rfl⟩
  · rintro s rfl
    refine ⟨_, ?_, rfl⟩
    unfold queue_Put_L1
    rw [hm]
    simp only [Int.lt_irrefl, decide_false, cond_false, List.take_length]
/-- what Put computes -/
def putS (p : api_Profile) (l : List api_Waiting) (w : api_Waiting) (now : Int) : List api_Waiting × Int :=
  bif !queueB l then (l, 1) else bif !okW w then (l, 1) else bif hasW l w.Event w.Net then (l, 5) else
  bif (planS p (jobsS w.Net (l ++ [w])) now).2.2 != 0 then (l, (planS p (jobsS w.Net (l ++ [w])) now).2.2) else (l ++ [w], 0)
theorem put_eq (p : api_Profile) (hp : ProfOk p) (l : List api_Waiting) (hl : l.length ≤ 900) (w : api_Waiting) (now : Int) : queue_Put p l w now = some (putS p l w now) := by
  unfold queue_Put putS
  rw [clone_eq l (by omega), bind_some_of rfl, queue_queue_eq l (by omega), bind_some_of rfl, queue_right_eq, bind_some_of rfl, queue_has_eq l (by omega), bind_some_of rfl, bind_some_of rfl, put_L1 l w hl, seqF_inl rfl]
  have hj : (jobsS w.Net (l ++ [w])).length ≤ 1000 := by
    have := jobsS_len w.Net (l ++ [w])
    rw [List.length_append, List.length_singleton] at this
    omega
  rw [plan_eq p hp _ hj now, bind_some_of rfl, chk_true (by simp; omega)]
  cases queueB l <;> cases okW w <;> cases hasW l w.Event w.Net <;> first | rfl | (cases (planS p (jobsS w.Net (l ++ [w])) now).2.2 != 0 <;> rfl)
/-- the events of the entries that are due -/
def dueS (now : Int) (l : List api_Waiting) : List Int := (l.filter fun w => decide (w.Due ≤ now)).map api_Waiting.Event
theorem dueS_append (now : Int) (a b : List api_Waiting) : dueS now (a ++ b) = dueS now a ++ dueS now b := by
  unfold dueS
  rw [List.filter_append, List.map_append]
theorem dueS_len (now : Int) (l : List api_Waiting) : (dueS now l).length ≤ l.length := by
  unfold dueS
  rw [List.length_map]
  exact List.length_filter_le _ _
theorem late_L1 (l : List api_Waiting) (hl : l.length ≤ 1000) (now : Int) : loopF (queue_Late_L1 l now) ((0 : Int), []) = some (.inl (dueS now l)) := by
  refine loopF_inv (body := queue_Late_L1 l now) l.length (fun i s => s = ((i : Int), dueS now (l.take i))) (fun r => r = some (.inl (dueS now l))) ?_ ?_ (s0 := ((0 : Int), [])) rfl
  · rintro i s hi rfl
    left
    have c1 : decide ((i : Int) < ((l.length : Nat) : Int)) = true := by simp; omega
    have hlen := dueS_len now (l.take i)
    have hlt : (l.take i).length = i := by rw [List.length_take]; omega
    unfold queue_Late_L1
    simp only [c1, cond_true]
    rw [bind_some_of (getI_in w0 hi), wrap64 (by omega) (by omega)]
    have hs := dueS_append now (l.take i) [l.getD i w0]
    rw [← take_succ_getD l w0 hi] at hs
    cases hn2 : decide ((l.getD i w0).Due ≤ now)
    · have e : dueS now [l.getD i w0] = [] := by unfold dueS; rw [List.filter_cons, hn2]; rfl
      rw [e, List.append_nil] at hs
      simp only [cond_false]
      exact ⟨_, rfl, by rw [hs]; simp⟩
    · have e : dueS now [l.getD i w0] = [(l.getD i w0).Event] := by unfold dueS; rw [List.filter_cons, hn2]; rfl
      rw [e] at hs
      simp only [cond_true]
      rw [chk_true (by simp; omega)]
      exact ⟨_, rfl, by rw [hs]; rfl⟩
  · rintro s rfl
    refine ⟨_, ?_, rfl⟩
    unfold queue_Late_L1
    simp only [Int.lt_irrefl, decide_false, cond_false, List.take_length]
theorem compact_short (l : List Int) (h : l.length < 2) : slices_Compact_int_int l = some l := by
  unfold slices_Compact_int_int
  have : decide (((l.length : Nat) : Int) < 2) = true := by simp; omega
  rw [this]
  rfl
theorem late_eq (l : List api_Waiting) (hl : l.length ≤ 1000) (now : Int) (hq : queueB l = true) : queue_Late l now = slices_Compact_int_int ((dueS now l).mergeSort fun x y => decide (x ≤ y)) := by
  have hlen := dueS_len now l
  have e : sortL (dueS now l) = some ((dueS now l).mergeSort fun x y => decide (x ≤ y)) := by
    unfold sortL
    rw [chk_true (by simp; omega)]
  unfold queue_Late
  rw [queue_queue_eq l hl, hq, bind_some_of rfl]
  simp only [Bool.not_true, cond_false]
  rw [late_L1 l hl, seqF_inl rfl, e, bind_some_of rfl]
  cases slices_Compact_int_int ((dueS now l).mergeSort fun x y => decide (x ≤ y)) <;> rfl
/-- nothing is due: nothing is late -/
theorem late_none (l : List api_Waiting) (hl : l.length ≤ 1000) (now : Int) (hq : queueB l = true) (hd : ∀ w ∈ l, now < w.Due) : queue_Late l now = some [] := by
  have e : dueS now l = [] := by
    unfold dueS
    rw [List.map_eq_nil_iff, List.filter_eq_nil_iff]
    intro w hw
    have := hd w hw
    simp; omega
  rw [late_eq l hl now hq, e, List.mergeSort_nil]
  exact compact_short [] (by decide)
def linkP : api_Profile := api_Profile.mk (ByteArray.mk #[110]) 0 0 0 false 0 false false 40 1 0 0 [] 0 0 0 0 false 2 1 3 0
theorem link_eq : law30_link = some linkP := rfl
theorem link_ok : ProfOk linkP := ⟨by decide, by simp [linkP, maxLen], fun t ht => by simp [linkP] at ht⟩
theorem ints_eq1 (a b : Int) : ref10_Ints [a] [b] = some (a == b) := by
  have key := loopF_idx (body := ref10_Ints_L1 [a] [b]) 1 (fun _ => a == b) false (fun i hi => by
      have : i = 0 := by omega
      subst this
      have hw : IntKind.i64.wrap (((0 : Nat) : Int) + 1) = ((0 : Nat) : Int) + 1 := wrap64 (by omega) (by omega)
      unfold ref10_Ints_L1
      simp only [hw]
      rw [bind_some_of (getI_in 0 (by simp)), bind_some_of (getI_in 0 (by simp))]
      have hne : (a != b) = !(a == b) := rfl
      simp only [List.getD_cons_zero, hne]
      cases a == b <;> rfl) rfl
  unfold ref10_Ints
  rw [key]
  cases a == b <;> simp [seqF]
theorem small_true : law30_small = some true := by
  have q1 : putS linkP [] ⟨7, 0, 4, 3⟩ 0 = ([⟨7, 0, 4, 3⟩], 0) := by kernel_rfl
  have q2 : putS linkP [⟨7, 0, 4, 3⟩] ⟨8, 0, 1, 3⟩ 0 = ([⟨7, 0, 4, 3⟩], 16) := by kernel_rfl
  have q3 : putS linkP [⟨7, 0, 4, 3⟩] ⟨8, 0, 2, 4⟩ 0 = ([⟨7, 0, 4, 3⟩], 16) := by kernel_rfl
  have hq : queueB [⟨7, 0, 4, 3⟩] = true := by decide
  obtain ⟨r, h1, h2, h3⟩ := step_up linkP 0 [⟨7, 0, 4, 3⟩] (by simp) (by rw [profile_Check_eq linkP link_ok]; decide) (by decide) hq
  have hr : r = [0] := by
    have : idxs 0 [(⟨7, 0, 4, 3⟩ : api_Waiting)] 1 = [0] := by decide
    have h1' : r.Perm (idxs 0 [(⟨7, 0, 4, 3⟩ : api_Waiting)] 1) := h1
    rw [this] at h1'
    exact List.perm_singleton.1 h1'
  subst hr
  have g : giveS linkP.Rate [0] [] [⟨7, 0, 4, 3⟩] = ([], [⟨7, 0, 2, 3⟩]) := by kernel_rfl
  rw [g] at h3
  have l1 : queue_Late [⟨7, 0, 4, 3⟩] 3 = some [7] := by
    rw [late_eq _ (by simp) 3 hq]
    have : ((dueS 3 [⟨7, 0, 4, 3⟩]).mergeSort fun x y => decide (x ≤ y)) = [7] := by
      have : dueS 3 [⟨7, 0, 4, 3⟩] = [7] := by decide
      rw [this]
      exact List.mergeSort_singleton _
    rw [this]
    exact compact_short _ (by simp)
  have l2 : queue_Late [⟨7, 0, 4, 3⟩] 2 = some [] := late_none _ (by simp) 2 hq (by decide)
  unfold law30_small
  rw [link_eq]
  simp only [Option.bind_some]
  rw [put_eq linkP link_ok _ (by simp), q1]
  simp only [Option.bind_some]
  rw [put_eq linkP link_ok _ (by simp), put_eq linkP link_ok _ (by simp), q2, q3, h3]
  simp only [Option.bind_some]
  rw [ref30_Same_refl _ (by simp), l1, l2]
  simp only [Option.bind_some]
  rw [ints_eq1]
  have f : ([⟨7, 0, 2, 3⟩] : List api_Waiting).filter (fun w => !(w.Left == 0)) = [⟨7, 0, 2, 3⟩] := by kernel_rfl
  rw [f, ref30_Same_refl _ (by simp)]
  rfl
end Go.Proofs.YtbijnfgjcbfpmaaGreat
namespace Go.Proofs.YtbijnfgjcbfpmaaGreat
open Go.RowKit
/-- what a step gives, as the law asks for it -/
structure GF (rate net : Int) (l : List api_Waiting) (R : List Int × List api_Waiting) : Prop where
  len : R.2.length = l.length
  gave : ∀ j : Nat, Gave (l.getD j w0) (R.2.getD j w0)
  other : ∀ j : Nat, j < l.length → (l.getD j w0).Net ≠ net → (R.2.getD j w0).Left = (l.getD j w0).Left
  has : ∀ j : Nat, j < l.length → (R.1.any (fun e => e == (l.getD j w0).Event) && (l.getD j w0).Net == net) = ((R.2.getD j w0).Left == 0)
  ord : ∀ i k : Nat, i < l.length → k < l.length → (l.getD i w0).Net = net → (l.getD k w0).Net = net → (R.2.getD i w0).Left < (l.getD i w0).Left → ltW (l.getD k w0) (l.getD i w0) = true → (R.2.getD k w0).Left = 0
  tot : totalS net l - totalS net (R.2.filter nz) = min rate (totalS net l)
  many : (R.1.length : Int) + ((R.2.filter nz).length : Int) = (l.length : Int)
theorem idxs_nodup (net : Int) (l : List api_Waiting) (n : Nat) : (idxs net l n).Nodup := by
  unfold idxs
  refine List.Pairwise.map _ (fun a b h => ?_) ((List.nodup_range (n := n)).filter _)
  omega
theorem mem_idxs_of {net : Int} {l : List api_Waiting} {i : Nat} (hi : i < l.length) (hn : (l.getD i w0).Net = net) : (i : Int) ∈ idxs net l l.length := by
  unfold idxs
  refine List.mem_map.2 ⟨i, ?_, rfl⟩
  rw [List.mem_filter, List.mem_range]
  exact ⟨hi, by simpa using hn⟩
theorem sumQ_perm (l : List api_Waiting) {a b : List Int} (h : a.Perm b) : sumQ l a = sumQ l b := by
  induction h with
  | nil => rfl
  | cons x _ ih => simp only [sumQ, ih]
  | swap x y l => simp only [sumQ]; omega
  | trans _ _ h1 h2 => exact h1.trans h2
theorem sumQ_append (l : List api_Waiting) : ∀ (a b : List Int), sumQ l (a ++ b) = sumQ l a + sumQ l b
  | [], b => by simp [sumQ]
  | x :: a, b => by
    rw [List.cons_append, sumQ, sumQ, sumQ_append l a b]
    omega
theorem sumQ_idxs (net : Int) (l : List api_Waiting) : ∀ n, n ≤ l.length → sumQ l (idxs net l n) = totalS net (l.take n)
  | 0, _ => rfl
  | n + 1, h => by
    rw [idxs_succ, sumQ_append, sumQ_idxs net l n (by omega), take_succ_getD l w0 (by omega), totalS_append]
    congr 1
    rw [totalS, totalS]
    cases hn : (l.getD n w0).Net == net
    · rfl
    · simp only [cond_true, sumQ]
      rfl
theorem totalS_filter (net : Int) : ∀ l : List api_Waiting, totalS net (l.filter nz) = totalS net l
  | [] => rfl
  | w :: l => by
    rw [List.filter_cons]
    cases h : nz w
    · have h0 : w.Left = 0 := by simpa [nz] using h
      rw [if_neg (by simp), totalS, totalS_filter net l, h0]
      cases w.Net == net <;> simp
    · rw [if_pos rfl, totalS, totalS, totalS_filter net l]
theorem pair_or {A : Type} {R : A → A → Prop} {l : List A} (h : l.Pairwise R) {a b : A} (ha : a ∈ l) (hb : b ∈ l) (hab : a ≠ b) : R a b ∨ R b a := by
  induction h with
  | nil => cases ha
  | cons hx _ ih =>
    rcases List.mem_cons.1 ha with h1 | h1
    · rcases List.mem_cons.1 hb with h2 | h2
      · exact absurd (h1.trans h2.symm) hab
      · exact .inl (h1 ▸ hx _ h2)
    · rcases List.mem_cons.1 hb with h2 | h2
      · exact .inr (h2 ▸ hx _ h1)
      · exact ih h1 h2
theorem step_facts (p : api_Profile) (net : Int) (l : List api_Waiting) (hl : l.length ≤ 1000) (hc : profile_Check p = some 0) (hr : 0 ≤ p.Rate ∧ p.Rate ≤ 1099511627776) (hq : queueB l = true) :
    ∃ R : List Int × List api_Waiting, queue_Step p net l true = some (R.1, R.2.filter nz) ∧ GF p.Rate net l R := by
  obtain ⟨r, h1, h2, h3⟩ := step_up p net l hl hc hr hq
  refine ⟨giveS p.Rate r [] l, h3, ?_⟩
  have hmem : ∀ x ∈ r, ∃ j : Nat, x = (j : Int) ∧ j < l.length ∧ (l.getD j w0).Net = net := fun x hx => mem_idxs (h1.mem_iff.1 hx)
  have hof : ∀ j : Nat, j < l.length → (l.getD j w0).Net = net → (j : Int) ∈ r := fun j hj hn => h1.mem_iff.2 (mem_idxs_of hj hn)
  have hnd : r.Nodup := h1.nodup_iff.2 (idxs_nodup net l l.length)
  have hleft : ∀ j : Nat, j < l.length → 1 ≤ (l.getD j w0).Left := fun j hj => (okW_left (queue_ok hq hj)).1
  have hleft0 : ∀ k : Nat, 0 ≤ (l.getD k w0).Left := by
    intro k
    by_cases hk : k < l.length
    · have := hleft k hk; omega
    · rw [List.getD_eq_getElem?_getD, List.getElem?_eq_none (by omega)]
      exact Int.le_refl _
  have F := giveS_facts r p.Rate [] l hr.1 hnd (fun x hx => by
    obtain ⟨j, e, hj, _⟩ := hmem x hx
    exact ⟨j, e, hj⟩) hleft0
  have hlen := giveS_len r p.Rate [] l
  have htot := giveS_total net r p.Rate [] l hr.1 hnd hmem hleft0
  have hmany := giveS_many r p.Rate [] l hr.1 hnd (fun x hx => by
    obtain ⟨j, e, hj, _⟩ := hmem x hx
    refine ⟨j, e, hj, ?_⟩
    have := hleft j hj
    show (!((l.getD j w0).Left == 0)) = true
    rw [Bool.not_eq_true', beq_eq_false_iff_ne]
    omega)
  generalize giveS p.Rate r [] l = R at F hlen htot hmany
  have hnz : l.filter nz = l := by
    rw [List.filter_eq_self]
    intro w hw
    obtain ⟨j, hj, e⟩ := List.getElem_of_mem hw
    have h0 := hleft j hj
    rw [List.getD_eq_getElem?_getD, List.getElem?_eq_getElem hj, Option.getD_some, e] at h0
    simp [nz]; omega
  refine ⟨hlen, F.gave, fun j hj hn => ?_, fun j hj => ?_, fun i k hi hk ni nk hlt hb => ?_, ?_, ?_⟩
  · rw [F.same j fun hm => ?_]
    obtain ⟨i, e, _, h⟩ := hmem _ hm
    have : i = j := by omega
    subst this
    exact hn h
  · rw [F.done, List.nil_append]
    apply bool_ext
    rw [Bool.and_eq_true, List.any_eq_true, beq_iff_eq, beq_iff_eq]
    constructor
    · rintro ⟨⟨e, he, hee⟩, hn⟩
      obtain ⟨x, hx, rfl⟩ := List.mem_map.1 he
      rw [List.mem_filter] at hx
      obtain ⟨i, rfl, hi, hni⟩ := hmem x hx.1
      have h0 := hx.2
      rw [Int.toNat_natCast] at h0 hee
      have hee := eq_of_beq hee
      rcases Nat.lt_trichotomy i j with h | h | h
      · exact absurd ⟨hee, hni.trans hn.symm⟩ (queue_one hq h hj)
      · subst h
        simpa using h0
      · exact absurd ⟨hee.symm, hn.trans hni.symm⟩ (queue_one hq h hi)
    · intro h0
      have hn : (l.getD j w0).Net = net := by
        apply Classical.byContradiction
        intro hn
        have hs : R.2.getD j w0 = l.getD j w0 := F.same j fun hm => by
          obtain ⟨i, e, _, h⟩ := hmem _ hm
          have : i = j := by omega
          subst this
          exact hn h
        rw [hs] at h0
        have := hleft j hj
        omega
      refine ⟨⟨(l.getD j w0).Event, List.mem_map.2 ⟨(j : Int), List.mem_filter.2 ⟨hof j hj hn, ?_⟩, ?_⟩, by simp⟩, hn⟩
      · rw [Int.toNat_natCast]; simpa using h0
      · rw [Int.toNat_natCast]
  · have hik : (k : Int) ≠ (i : Int) := by
      intro e
      have : k = i := by omega
      subst this
      have : ltW (l.getD k w0) (l.getD k w0) = false := by rw [ltW_not]; omega
      rw [this] at hb
      cases hb
    have ho := F.order.and h2
    rcases pair_or ho (hof k hk nk) (hof i hi ni) hik with h | h
    · have := h.1
      rw [Int.toNat_natCast, Int.toNat_natCast] at this
      exact this hlt
    · have : ltW (l.getD k w0) (l.getD i w0) = false := h.2
      rw [this] at hb
      cases hb
  · have e := sumQ_idxs net l l.length (Nat.le_refl _)
    rw [List.take_length, ← sumQ_perm l h1] at e
    rw [totalS_filter, htot, e]
    omega
  · rw [hnz] at hmany
    simpa using hmany
end Go.Proofs.YtbijnfgjcbfpmaaGreat
namespace Go.Proofs.YtbijnfgjcbfpmaaGreat
open Go.RowKit
theorem hasW_false {l : List api_Waiting} {e n : Int} : hasW l e n = false ↔ ∀ w ∈ l, ¬ (w.Event = e ∧ w.Net = n) := by
  unfold hasW isW
  rw [List.any_eq_false]
  constructor
  · intro h w hw k
    exact h w hw (by simp [k.1, k.2])
  · intro h w hw k
    rw [Bool.and_eq_true, beq_iff_eq, beq_iff_eq] at k
    exact h w hw k
theorem mem_getD {l : List api_Waiting} {i : Nat} (h : i < l.length) : l.getD i w0 ∈ l := by
  rw [List.getD_eq_getElem?_getD, List.getElem?_eq_getElem h]
  exact List.getElem_mem h
theorem getD_of_mem {l : List api_Waiting} {w : api_Waiting} (h : w ∈ l) : ∃ i, i < l.length ∧ l.getD i w0 = w := by
  obtain ⟨i, hi, e⟩ := List.getElem_of_mem h
  refine ⟨i, hi, ?_⟩
  rw [List.getD_eq_getElem?_getD, List.getElem?_eq_getElem hi, Option.getD_some, e]
def Diff (a b : api_Waiting) : Prop := ¬ (a.Event = b.Event ∧ a.Net = b.Net)
theorem queueB_iff {l : List api_Waiting} : queueB l = true ↔ (∀ w ∈ l, okW w = true) ∧ l.Pairwise Diff := by
  constructor
  · intro h
    refine ⟨fun w hw => ?_, ?_⟩
    · obtain ⟨i, hi, rfl⟩ := getD_of_mem hw
      exact queue_ok h hi
    · rw [List.pairwise_iff_getElem]
      intro i j hi hj hij
      have := queue_one h hij hj
      rw [List.getD_eq_getElem?_getD, List.getD_eq_getElem?_getD, List.getElem?_eq_getElem hi, List.getElem?_eq_getElem hj] at this
      exact this
  · rintro ⟨h1, h2⟩
    unfold queueB
    rw [List.all_eq_true]
    intro i hi
    rw [List.mem_range] at hi
    unfold oneW
    rw [h1 _ (mem_getD hi), Bool.true_and, Bool.not_eq_true', hasW_false]
    intro w hw k
    obtain ⟨j, hj, e⟩ := List.getElem_of_mem hw
    rw [List.length_take] at hj
    rw [List.getElem_take] at e
    rw [List.pairwise_iff_getElem] at h2
    refine h2 j i (by omega) hi (by omega) ?_
    rw [e]
    rw [List.getD_eq_getElem?_getD, List.getElem?_eq_getElem hi] at k
    exact k
theorem queueB_sub {a b : List api_Waiting} (h : queueB b = true) (hs : a.Sublist b) : queueB a = true := by
  rw [queueB_iff] at h ⊢
  exact ⟨fun w hw => h.1 w (hs.subset hw), h.2.sublist hs⟩
theorem hasW_sub {a b : List api_Waiting} {e n : Int} (h : hasW b e n = false) (hs : a.Sublist b) : hasW a e n = false := by
  rw [hasW_false] at h ⊢
  exact fun w hw => h w (hs.subset hw)
theorem jobsS_sub {a b : List api_Waiting} (net : Int) (hs : a.Sublist b) : (jobsS net a).Sublist (jobsS net b) := (hs.filter _).map _
theorem jobs_eq (l : List api_Waiting) (hl : l.length ≤ 1000) (net : Int) : ref30_Jobs l net = some (jobsS net l) := by
  have key : loopF (ref30_Jobs_L1 l net) ((0 : Int), []) = some (.inl (jobsS net l)) := by
    refine loopF_inv (body := ref30_Jobs_L1 l net) l.length (fun i s => s = ((i : Int), jobsS net (l.take i))) (fun r => r = some (.inl (jobsS net l))) ?_ ?_ (s0 := ((0 : Int), [])) rfl
    · rintro i s hi rfl
      left
      have c1 : decide ((i : Int) < ((l.length : Nat) : Int)) = true := by simp; omega
      have hlen := jobsS_len net (l.take i)
      have hlt : (l.take i).length = i := by rw [List.length_take]; omega
      have hone := jobsS_one net (l.getD i w0)
      unfold ref30_Jobs_L1
      simp only [c1, cond_true]
      rw [bind_some_of (getI_in w0 hi), wrap64 (by omega) (by omega)]
      have hs := jobsS_append net (l.take i) [l.getD i w0]
      rw [← take_succ_getD l w0 hi, hone] at hs
      cases hn2 : (l.getD i w0).Net == net
      · rw [hn2] at hs
        simp only [cond_false]
        exact ⟨_, rfl, by rw [hs]; simp⟩
      · rw [hn2] at hs
        simp only [cond_true]
        rw [chk_true (by simp; omega)]
        exact ⟨_, rfl, by rw [hs]; rfl⟩
    · rintro s rfl
      refine ⟨_, ?_, rfl⟩
      unfold ref30_Jobs_L1
      simp only [Int.lt_irrefl, decide_false, cond_false, List.take_length]
  unfold ref30_Jobs
  rw [key]
  rfl
end Go.Proofs.YtbijnfgjcbfpmaaGreat
namespace Go.Proofs.YtbijnfgjcbfpmaaGreat
open Go.RowKit
def api_Profile.Q (x : api_Profile) : Prop := (x.Name.size ≤ maxLen) ∧ (IntKind.i64.min ≤ x.Edit ∧ x.Edit ≤ IntKind.i64.max) ∧ (IntKind.i64.min ≤ x.Within ∧ x.Within ≤ IntKind.i64.max) ∧ (IntKind.i64.min ≤ x.Delete ∧ x.Delete ≤ IntKind.i64.max) ∧ True ∧ (IntKind.i64.min ≤ x.Thread ∧ x.Thread ≤ IntKind.i64.max) ∧ True ∧ True ∧ (IntKind.i64.min ≤ x.Size ∧ x.Size ≤ IntKind.i64.max) ∧ (IntKind.i64.min ≤ x.Parts ∧ x.Parts ≤ IntKind.i64.max) ∧ (IntKind.i64.min ≤ x.Files ∧ x.Files ≤ IntKind.i64.max) ∧ (IntKind.i64.min ≤ x.Bytes ∧ x.Bytes ≤ IntKind.i64.max) ∧ (x.Types.length ≤ maxLen ∧ ∀ u1 ∈ x.Types, (u1.size ≤ maxLen)) ∧ (IntKind.i64.min ≤ x.Join ∧ x.Join ≤ IntKind.i64.max) ∧ (IntKind.i64.min ≤ x.History ∧ x.History ≤ IntKind.i64.max) ∧ (IntKind.i64.min ≤ x.Remove ∧ x.Remove ≤ IntKind.i64.max) ∧ (IntKind.i64.min ≤ x.Level ∧ x.Level ≤ IntKind.i64.max) ∧ True ∧ (IntKind.i64.min ≤ x.Rate ∧ x.Rate ≤ IntKind.i64.max) ∧ (IntKind.i64.min ≤ x.Down ∧ x.Down ≤ IntKind.i64.max) ∧ (IntKind.i64.min ≤ x.Window ∧ x.Window ≤ IntKind.i64.max) ∧ (IntKind.i64.min ≤ x.Keep ∧ x.Keep ≤ IntKind.i64.max)
def api_Waiting.Q (x : api_Waiting) : Prop := (IntKind.i64.min ≤ x.Event ∧ x.Event ≤ IntKind.i64.max) ∧ (IntKind.i64.min ≤ x.Net ∧ x.Net ≤ IntKind.i64.max) ∧ (IntKind.i64.min ≤ x.Left ∧ x.Left ≤ IntKind.i64.max) ∧ (IntKind.i64.min ≤ x.Due ∧ x.Due ≤ IntKind.i64.max)
theorem prof_of {p : api_Profile} (h : api_Profile.Q p) : ProfOk p := by
  obtain ⟨h1, _, _, _, _, _, _, _, _, _, _, _, h2, _⟩ := h
  exact ⟨h1, h2.1, h2.2⟩
end Go.Proofs.YtbijnfgjcbfpmaaGreat

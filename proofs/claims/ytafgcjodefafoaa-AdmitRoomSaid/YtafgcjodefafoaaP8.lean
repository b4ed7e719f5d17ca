/-
  Checks of slack, and room: what admit and its reference compute; the examples (plain law of layer 29).
-/
import Derived.Test.YtafgcjodefafoaaP7
namespace Go.Proofs.Ytafgcjodefafoaa
open Go.RowKit
def goodS (p : api_Profile) (now : Int) (l : List api_Job) (slack : List Int) (i : Nat) : Bool := decide (0 ≤ slack.getD i 0) && decide (slack.getD i 0 ≤ slackS p now l i)
def checkS (p : api_Profile) (jobs : List api_Job) (now : Int) (slack : List Int) : Int :=
  bif okA p jobs now then (bif decide (slack.length = jobs.length) then (bif (List.range jobs.length).all (goodS p now (ordR jobs) slack) then 0 else 18) else 18) else 1
theorem check_loop {p : api_Profile} {now : Int} {l : List api_Job} (h : Fine p now l) (slack : List Int) (hs : slack.length = l.length) :
    loopF (admit_Check_L1 ((List.range l.length).map (demS p now l), true) slack) 0 = some (bif (List.range l.length).all (goodS p now l slack) then (.inl () : Unit ⊕ Int) else .inr 18) := by
  have hl := h.len
  refine loopF_idx l.length (goodS p now l slack) 18 (fun i hi => ?_) ?_
  · have hw : IntKind.i64.wrap ((i : Int) + 1) = (i : Int) + 1 := wrap64 (by omega) (by omega)
    have hlt : ((i : Int) < ((((List.range l.length).map (demS p now l)).length : Nat) : Int)) := by simp; omega
    have h0 : (0 : Int) ≤ (i : Int) := by omega
    unfold admit_Check_L1
    simp only [hlt, h0, decide_true, cond_true, Bool.and_self, chkO_true, hw]
    rw [bind_some_of (getD_dem p now l hi), bind_some_of (getI_in 0 (show i < slack.length by omega))]
    have e : IntKind.i64.wrap ((demS p now l i).gives - (demS p now l i).needs) = slackS p now l i := h.slack hi
    rw [e, gt_not (slack.getD i 0) 0, gt_not (slackS p now l i)]
    unfold goodS
    cases decide (0 ≤ slack.getD i 0) <;> cases decide (slack.getD i 0 ≤ slackS p now l i) <;> rfl
  · unfold admit_Check_L1
    simp only [List.length_map, List.length_range, Int.lt_irrefl, decide_false, cond_false]
theorem len_ne (a b : Nat) : ((a : Int) != (b : Int)) = !decide (a = b) := by
  by_cases h : a = b
  · simp [h]
  · simp [h]; omega
theorem check_eq (p : api_Profile) (hp : ProfOk p) (jobs : List api_Job) (hj : jobs.length ≤ 1000) (now : Int) (slack : List Int) : admit_Check p jobs now slack = some (checkS p jobs now slack) := by
  unfold admit_Check checkS
  rw [demands_eq p hp jobs hj, bind_some_of rfl]
  cases h : okA p jobs now
  · rfl
  · have := fun hs => check_loop (okA_fine hp h) slack hs
    rw [ordR_len] at this
    simp only [cond_true, Bool.not_true, cond_false, List.length_map, List.length_range, len_ne]
    by_cases hs : slack.length = jobs.length
    · rw [this hs]
      simp only [hs, decide_true, Bool.not_true, cond_false, cond_true]
      cases (List.range jobs.length).all (goodS p now (ordR jobs) slack) <;> rfl
    · simp [hs]
theorem ref_check_loop {p : api_Profile} {now : Int} {l : List api_Job} (h : Fine p now l) (slack : List Int) (hs : slack.length = l.length) :
    loopF (ref29_Check_L1 l slack p now) (0, 0) = some (bif (List.range l.length).all (goodS p now l slack) then (.inl () : Unit ⊕ Int) else .inr 18) := by
  have hl := h.len
  refine loopF_inv (body := ref29_Check_L1 l slack p now) l.length (fun i s => s = (sumS (l.take i), (i : Int)) ∧ ∀ k, k < i → goodS p now l slack k = true) (fun r => r = some (bif (List.range l.length).all (goodS p now l slack) then (.inl () : Unit ⊕ Int) else .inr 18)) (fun i s hi hs' => ?_) (fun s hs' => ?_) ⟨rfl, fun k hk => by omega⟩
  · obtain ⟨rfl, hk⟩ := hs'
    obtain ⟨b1, b2, b3, b4, b5, b6, b7, b8, b9⟩ := h.at_ hi
    have hw : IntKind.i64.wrap ((i : Int) + 1) = (i : Int) + 1 := wrap64 (by omega) (by omega)
    have hlt : ((i : Int) < ((l.length : Nat) : Int)) := by omega
    have h0 : (0 : Int) ≤ (i : Int) := by omega
    have hs1 : IntKind.i64.wrap (sumS (l.take i) + (l.getD i j0).Size) = need l i := by
      rw [← need_succ hi]
      exact wrap64 (by omega) (by omega)
    have hbody : ref29_Check_L1 l slack p now (sumS (l.take i), (i : Int)) = bif goodS p now l slack i then some (.inl (need l i, (i : Int) + 1)) else some (.inr (.inr 18)) := by
      unfold ref29_Check_L1
      simp only [hlt, h0, decide_true, cond_true, Bool.and_self, chkO_true, hw]
      rw [bind_some_of (getI_in j0 hi), bind_some_of (getI_in 0 (show i < slack.length by omega)), b9, hs1]
      simp only [Option.bind_some]
      rw [h.slack hi, gt_not (slack.getD i 0) 0, gt_not (slackS p now l i)]
      unfold goodS
      cases decide (0 ≤ slack.getD i 0) <;> cases decide (slack.getD i 0 ≤ slackS p now l i) <;> rfl
    cases hg : goodS p now l slack i
    · right
      rw [hbody, hg]
      exact ⟨_, rfl, by rw [all_false hi hg]; rfl⟩
    · left
      rw [hbody, hg]
      refine ⟨_, rfl, ?_, fun k hk' => ?_⟩
      · simp only [Prod.mk.injEq]
        exact ⟨rfl, by omega⟩
      · by_cases hki : k < i
        · exact hk k hki
        · have : k = i := by omega
          subst this
          exact hg
  · obtain ⟨rfl, hk⟩ := hs'
    refine ⟨.inl (), ?_, ?_⟩
    · unfold ref29_Check_L1
      simp only [Int.lt_irrefl, decide_false, cond_false]
    · have : (List.range l.length).all (goodS p now l slack) = true := List.all_eq_true.2 fun k hk' => hk k (List.mem_range.1 hk')
      rw [this]
      rfl
theorem ref_check_eq (p : api_Profile) (hp : ProfOk p) (jobs : List api_Job) (hj : jobs.length ≤ 1000) (now : Int) (slack : List Int) : ref29_Check p jobs now slack = some (checkS p jobs now slack) := by
  unfold ref29_Check checkS
  rw [valid_eq p hp jobs hj, bind_some_of rfl]
  cases h : okA p jobs now
  · rfl
  · have := fun hs => ref_check_loop (okA_fine hp h) slack hs
    rw [ordR_len] at this
    simp only [cond_true, Bool.not_true, cond_false, len_ne]
    by_cases hs : slack.length = jobs.length
    · rw [ref29_Order_eq jobs hj, bind_some_of rfl, this hs]
      simp only [hs, decide_true, Bool.not_true, cond_false, cond_true]
      cases (List.range jobs.length).all (goodS p now (ordR jobs) slack) <;> rfl
    · simp [hs]
/- room -/
def mostS (p : api_Profile) (now : Int) (l : List api_Job) (due : Int) : Nat → Int
  | 0 => 1099511627776
  | i + 1 => bif decide ((l.getD i j0).Due ≤ due) then mostS p now l due i else (if slackS p now l i < mostS p now l due i then slackS p now l i else mostS p now l due i)
def befS (l : List api_Job) (due : Int) (i : Nat) : Int := sumS ((l.take i).filter fun j => decide (j.Due ≤ due))
def roomV (g b m : Int) : Int := if (0 : Int) < (if g - b < m then g - b else m) then (if g - b < m then g - b else m) else 0
def roomOk (p : api_Profile) (jobs : List api_Job) (now due : Int) : Bool := okA p jobs now && ((List.range jobs.length).find? (late p now (ordR jobs))).isNone && decide (0 ≤ due) && decide (due ≤ 1073741824) && decide (jobs.length ≤ 999)
def roomS (p : api_Profile) (jobs : List api_Job) (now due : Int) : Int :=
  bif roomOk p jobs now due then roomV (givesS p now due) (befS (ordR jobs) due jobs.length) (mostS p now (ordR jobs) due jobs.length) else 0
theorem befS_succ {l : List api_Job} {due : Int} {i : Nat} (hi : i < l.length) : befS l due (i + 1) = befS l due i + (bif decide ((l.getD i j0).Due ≤ due) then (l.getD i j0).Size else 0) := by
  unfold befS
  rw [take_succ_getD l j0 hi, List.filter_append, sumS_append]
  generalize l.getD i j0 = x
  cases h : decide (x.Due ≤ due)
  · rw [List.filter_cons, h]
    rfl
  · rw [List.filter_cons, h]
    simp [sumS]
theorem befS_range {l : List api_Job} (h : ∀ x ∈ l, okJ x = true) (hl : l.length ≤ 1000) (due : Int) (i : Nat) : 0 ≤ befS l due i ∧ befS l due i ≤ 1099511627776000 := by
  have b := sumS_bound ((l.take i).filter fun j => decide (j.Due ≤ due)) fun x hx => h x (List.mem_of_mem_take (List.mem_filter.1 hx).1)
  have h1 : ((l.take i).filter fun j => decide (j.Due ≤ due)).length ≤ l.length := Nat.le_trans (List.length_filter_le _ _) (by rw [List.length_take]; omega)
  unfold befS
  omega
theorem befS_all {l : List api_Job} (hs : l.Pairwise fun a b => leJ a b = true) {due : Int} {i : Nat} (hi : i < l.length) (hd : (l.getD i j0).Due ≤ due) : befS l due (i + 1) = need l i := by
  unfold befS need
  congr 1
  rw [List.filter_eq_self]
  intro a ha
  rw [List.mem_take_iff_getElem] at ha
  obtain ⟨k, hk, rfl⟩ := ha
  rw [List.getD_eq_getElem?_getD, List.getElem?_eq_getElem hi] at hd
  have hd : l[i].Due ≤ due := hd
  rw [decide_eq_true_eq]
  by_cases hki : k = i
  · subst hki; exact hd
  · rw [List.pairwise_iff_getElem] at hs
    have := hs k i (by omega) hi (by omega)
    rw [leJ_iff] at this
    omega
theorem mostS_range {p : api_Profile} {now : Int} {l : List api_Job} (h : Fine p now l) (due : Int) : ∀ i, i ≤ l.length → -1099511627776000 ≤ mostS p now l due i ∧ mostS p now l due i ≤ 1099511627776
  | 0, _ => by simp [mostS]
  | i + 1, hi => by
    have ih := mostS_range h due i (by omega)
    obtain ⟨b1, b2, b3, b4, b5, b6, b7, b8, b9⟩ := h.at_ (show i < l.length by omega)
    simp only [mostS]
    cases decide ((l.getD i j0).Due ≤ due)
    · simp only [cond_false]
      unfold slackS
      split <;> omega
    · exact ih
def roomL (p : api_Profile) (now : Int) (l : List api_Job) (due : Int) : (Int × Int) ⊕ Int := bif ((List.range l.length).find? (late p now l)).isNone then .inl (mostS p now l due l.length, befS l due l.length) else .inr 0
theorem room_loop {p : api_Profile} {now : Int} {l : List api_Job} (h : Fine p now l) (hsort : l.Pairwise fun a b => leJ a b = true) (due : Int) : loopF (admit_Room_L1 ((List.range l.length).map (demS p now l), true) due) (1099511627776, 0, 0) = some (roomL p now l due) := by
  refine loopF_inv (body := admit_Room_L1 ((List.range l.length).map (demS p now l), true) due) l.length (fun i s => s = (mostS p now l due i, befS l due i, (i : Int)) ∧ ∀ k, k < i → late p now l k = false) (fun r => r = some (roomL p now l due)) (fun i s hi hs => ?_) (fun s hs => ?_) ⟨rfl, fun k hk => by omega⟩
  · obtain ⟨rfl, hk⟩ := hs
    have hl := h.len
    have hw : IntKind.i64.wrap ((i : Int) + 1) = (i : Int) + 1 := wrap64 (by omega) (by omega)
    have hlt : ((i : Int) < ((((List.range l.length).map (demS p now l)).length : Nat) : Int)) := by simp; omega
    have h0 : (0 : Int) ≤ (i : Int) := by omega
    have hbody : admit_Room_L1 ((List.range l.length).map (demS p now l), true) due (mostS p now l due i, befS l due i, (i : Int)) = bif late p now l i then some (.inr (.inr 0)) else some (.inl (mostS p now l due (i + 1), befS l due (i + 1), (i : Int) + 1)) := by
      unfold admit_Room_L1
      simp only [hlt, h0, decide_true, cond_true, Bool.and_self, chkO_true, hw]
      rw [bind_some_of (getD_dem p now l hi)]
      have e : IntKind.i64.wrap ((demS p now l i).gives - (demS p now l i).needs) = slackS p now l i := h.slack hi
      rw [e]
      show (bif late p now l i then _ else _) = _
      cases late p now l i
      · simp only [cond_false, mostS]
        show (bif decide ((l.getD i j0).Due ≤ due) then _ else _) = _
        by_cases hd : (l.getD i j0).Due ≤ due
        · rw [befS_all hsort hi hd]
          simp only [hd, decide_true, cond_true]
          rfl
        · rw [befS_succ hi]
          simp only [hd, decide_false, cond_false, Int.add_zero]
      · rfl
    cases hlate : late p now l i
    · left
      rw [hbody, hlate]
      refine ⟨_, rfl, ?_, fun k hk' => ?_⟩
      · simp only [Prod.mk.injEq]
        exact ⟨trivial, trivial, by omega⟩
      · by_cases hki : k < i
        · exact hk k hki
        · have : k = i := by omega
          subst this
          exact hlate
    · right
      rw [hbody, hlate]
      refine ⟨_, rfl, ?_⟩
      unfold roomL
      rw [find_late hi hlate hk]
      rfl
  · obtain ⟨rfl, hk⟩ := hs
    refine ⟨.inl (mostS p now l due l.length, befS l due l.length), ?_, ?_⟩
    · unfold admit_Room_L1
      simp only [List.length_map, List.length_range, Int.lt_irrefl, decide_false, cond_false]
    · unfold roomL
      rw [find_none hk]
      rfl
theorem len_eq1000 (n : Nat) (h : n ≤ 1000) : ((n : Int) == 1000) = !decide (n ≤ 999) := by
  by_cases h1 : n ≤ 999
  · simp [h1]; omega
  · have : n = 1000 := by omega
    subst this
    rfl
theorem room_eq (p : api_Profile) (hp : ProfOk p) (jobs : List api_Job) (hj : jobs.length ≤ 1000) (now due : Int) : admit_Room p jobs now due = some (roomS p jobs now due) := by
  unfold admit_Room roomS roomOk
  rw [demands_eq p hp jobs hj, bind_some_of rfl]
  cases h : okA p jobs now
  · rfl
  · have hf := okA_fine hp h
    have := room_loop hf (ordR_sorted jobs) due
    rw [ordR_len] at this
    simp only [cond_true, Bool.not_true, cond_false, Bool.true_and, len_eq1000 _ hj, gt_not due 0, gt_not 1073741824 due]
    rw [this]
    unfold roomL
    rw [ordR_len]
    cases h1 : decide (0 ≤ due)
    · simp
    · cases h2 : decide (due ≤ 1073741824)
      · simp
      · cases h3 : decide (jobs.length ≤ 999)
        · simp
        · cases h4 : ((List.range jobs.length).find? (late p now (ordR jobs))).isNone
          · rfl
          · have h1' : 0 ≤ due := by simpa using h1
            have h2' : due ≤ 1073741824 := by simpa using h2
            have g := (gives_eq p hp now due hf.now0 hf.nowM h1' h2').1
            have gr := gives_range (p := p) now due hf.chk0 (by have := hf.now0; omega)
            have br := befS_range hf.ok hf.len due jobs.length
            simp only [Bool.not_true, cond_false, cond_true, seqF, Bool.and_self]
            rw [g, bind_some_of rfl, wrap64 (n := givesS p now due - befS (ordR jobs) due jobs.length) (by omega) (by omega)]
            rfl
theorem getD_slack (p : api_Profile) (now : Int) (l : List api_Job) {i : Nat} (hi : i < l.length) : getI ((List.range l.length).map (slackS p now l)) (i : Int) = some (slackS p now l i) := by
  rw [getI_nat, List.getElem?_map, List.getElem?_range hi]
  rfl
theorem ref_room_loop {p : api_Profile} {now : Int} {l : List api_Job} (h : Fine p now l) (due : Int) (y : Int × Int) : loopF (ref29_Room_L1 l due ((List.range l.length).map (slackS p now l), y)) (0, 1099511627776, 0) = some (.inl (befS l due l.length, mostS p now l due l.length)) := by
  refine loopF_inv (body := ref29_Room_L1 l due ((List.range l.length).map (slackS p now l), y)) l.length (fun i s => s = (befS l due i, mostS p now l due i, (i : Int))) (fun r => r = some (.inl (befS l due l.length, mostS p now l due l.length))) (fun i s hi hs => ?_) (fun s hs => ?_) rfl
  · left
    subst hs
    have hl := h.len
    have hw : IntKind.i64.wrap ((i : Int) + 1) = (i : Int) + 1 := wrap64 (by omega) (by omega)
    have hlt : ((i : Int) < ((l.length : Nat) : Int)) := by omega
    have hlt2 : ((i : Int) < ((((List.range l.length).map (slackS p now l)).length : Nat) : Int)) := by simp; omega
    have h0 : (0 : Int) ≤ (i : Int) := by omega
    have br := befS_range h.ok h.len due i
    have br1 := befS_range h.ok h.len due (i + 1)
    refine ⟨(befS l due (i + 1), mostS p now l due (i + 1), (i : Int) + 1), ?_, ?_⟩
    · unfold ref29_Room_L1
      simp only [hlt, hlt2, h0, decide_true, cond_true, Bool.and_self, chkO_true, hw]
      rw [bind_some_of (getI_in j0 hi), befS_succ hi, bind_some_of (getD_slack p now l hi)]
      rw [befS_succ hi] at br1
      simp only [mostS]
      cases hd : decide ((l.getD i j0).Due ≤ due)
      · simp only [cond_false, Int.add_zero]
      · rw [hd] at br1
        simp only [cond_true] at br1 ⊢
        rw [wrap64 (by omega) (by omega)]
    · simp only [Prod.mk.injEq]
      exact ⟨trivial, trivial, by omega⟩
  · subst hs
    refine ⟨_, ?_, rfl⟩
    unfold ref29_Room_L1
    simp only [Int.lt_irrefl, decide_false, cond_false]
theorem len_ge1000 (n : Nat) : decide ((1000 : Int) ≤ (n : Int)) = !decide (n ≤ 999) := by
  by_cases h1 : n ≤ 999
  · have : ¬ (1000 : Int) ≤ (n : Int) := by omega
    simp [h1, this]
  · have : (1000 : Int) ≤ (n : Int) := by omega
    simp [h1, this]
theorem ref_room_eq (p : api_Profile) (hp : ProfOk p) (jobs : List api_Job) (hj : jobs.length ≤ 1000) (now due : Int) : ref29_Room p jobs now due = some (roomS p jobs now due) := by
  unfold ref29_Room roomS roomOk
  rw [ref_plan_eq p hp jobs hj, bind_some_of rfl]
  unfold planS
  cases h : okA p jobs now
  · rfl
  · have hf := okA_fine hp h
    simp only [cond_true, Bool.true_and, len_ge1000, gt_not due 0, gt_not 1073741824 due]
    cases h4 : (List.range jobs.length).find? (late p now (ordR jobs)) with
    | some i => rfl
    | none =>
      have := fun y => ref_room_loop hf due y
      rw [ordR_len] at this
      simp only [Option.isNone_none, Bool.true_and]
      show (bif (0 : Int) != 0 then _ else _) = _
      simp only [bne_self_eq_false, cond_false]
      cases h1 : decide (0 ≤ due)
      · simp
      · cases h2 : decide (due ≤ 1073741824)
        · simp
        · cases h3 : decide (jobs.length ≤ 999)
          · simp
          · have h1' : 0 ≤ due := by simpa using h1
            have h2' : due ≤ 1073741824 := by simpa using h2
            have g := (gives_eq p hp now due hf.now0 hf.nowM h1' h2').2
            have gr := gives_range (p := p) now due hf.chk0 (by have := hf.now0; omega)
            have br := befS_range hf.ok hf.len due jobs.length
            simp only [Bool.not_true, cond_false, cond_true, Bool.and_self]
            rw [ref29_Order_eq jobs hj, bind_some_of rfl, this]
            simp only [seqF]
            rw [g, bind_some_of rfl, wrap64 (n := givesS p now due - befS (ordR jobs) due jobs.length) (by omega) (by omega)]
            rfl
/- lists of numbers -/
theorem same_eq (a b : List Int) (ha : a.length ≤ maxLen) : ref29_Same a b = some (decide (a = b)) := by
  unfold maxLen at ha
  unfold ref29_Same
  rw [len_ne]
  by_cases hl : a.length = b.length
  · simp only [hl, decide_true, Bool.not_true, cond_false]
    have := loopF_idx (body := ref29_Same_L1 a b) a.length (fun i => a.getD i 0 == b.getD i 0) false (fun i hi => by
        have hw : IntKind.i64.wrap ((i : Int) + 1) = (i : Int) + 1 := wrap64 (by omega) (by omega)
        have hlt : ((i : Int) < (a.length : Int)) := by omega
        unfold ref29_Same_L1
        simp only [hlt, decide_true, cond_true, hw]
        rw [bind_some_of (getI_in 0 hi), bind_some_of (getI_in 0 (show i < b.length by omega))]
        have hne : (a.getD i 0 != b.getD i 0) = !(a.getD i 0 == b.getD i 0) := rfl
        rw [hne]
        cases a.getD i 0 == b.getD i 0 <;> rfl)
      (by
        unfold ref29_Same_L1
        simp only [Int.lt_irrefl, decide_false, cond_false])
    rw [this]
    have e : (List.range a.length).all (fun i => a.getD i 0 == b.getD i 0) = decide (a = b) := by
      apply bool_ext
      rw [decide_eq_true_eq]
      constructor
      · intro h
        apply List.ext_getElem hl
        intro i h1 h2
        have := List.all_eq_true.1 h i (List.mem_range.2 h1)
        rw [List.getD_eq_getElem?_getD, List.getD_eq_getElem?_getD, List.getElem?_eq_getElem h1, List.getElem?_eq_getElem h2] at this
        simpa using this
      · rintro rfl
        exact List.all_eq_true.2 fun i _ => by simp
    rw [e]
    cases decide (a = b) <;> rfl
  · have hne : a ≠ b := fun e => hl (by rw [e])
    simp [hl, hne]
/- the examples -/
def linkP : api_Profile := api_Profile.mk (ByteArray.mk #[97]) 0 0 0 false 0 false false 100 1 0 0 [] 0 0 0 0 false 10 1 4 0
theorem link_eq : law29_link = some linkP := rfl
theorem link_ok : ProfOk linkP := ⟨by decide, by simp [linkP, maxLen], fun t ht => by simp [linkP] at ht⟩
theorem small_true : law29_small = some true := by
  have r1 : planS linkP [⟨1, 10, 2⟩, ⟨2, 15, 4⟩] 0 = ([0, 5], -1, 0) := by decide
  have r2 : planS linkP [⟨1, 10, 1⟩] 0 = ([], 1, 16) := by decide
  have r3 : planS linkP [⟨2, 10, 4⟩, ⟨1, 10, 2⟩] 0 = ([0, 10], -1, 0) := by decide
  have r4 : roomS linkP [⟨2, 10, 4⟩, ⟨1, 10, 2⟩] 0 4 = 10 := by decide
  have r5 : checkS linkP [⟨2, 10, 4⟩, ⟨1, 10, 2⟩] 0 [0, 11] = 18 := by decide
  unfold law29_small
  rw [link_eq]
  simp only [Option.bind_some]
  rw [plan_eq linkP link_ok _ (by simp), plan_eq linkP link_ok _ (by simp), plan_eq linkP link_ok _ (by simp), room_eq linkP link_ok _ (by simp), check_eq linkP link_ok _ (by simp), r1, r2, r3, r4, r5]
  simp only [Option.bind_some]
  rw [same_eq _ _ (by simp [maxLen]), same_eq _ _ (by simp [maxLen])]
  rfl
end Go.Proofs.Ytafgcjodefafoaa

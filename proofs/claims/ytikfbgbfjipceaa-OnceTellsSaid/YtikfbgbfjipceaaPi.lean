/-
  Plain law of OnceTells (layer 32): what the reference's Take computes is what Take computes.
-/
import Derived.Test.YtikfbgbfjipceaaPe
namespace Go.Proofs.Ytikfbgbfjipceaa
/-- a number as a range of its own in its place -/
def insR : List Rg → Int → List Rg
  | [], n => [(n, n + 1)]
  | r :: q, n => if n < r.1 then (n, n + 1) :: r :: q else r :: insR q n
/-- one range more -/
def mStep (a : Int × List Rg) (x : Rg) : Int × List Rg :=
  if a.2 = [] then (if x.1 = a.1 then (x.2, []) else (a.1, [x]))
  else if (a.2.getD (a.2.length - 1) (0, 0)).2 = x.1 then (a.1, a.2.set (a.2.length - 1) ((a.2.getD (a.2.length - 1) (0, 0)).1, x.2)) else (a.1, a.2 ++ [x])
def mrg (a : Int × List Rg) (xs : List Rg) : Int × List Rg := xs.foldl mStep a
def dropR (most : Int) : Int → List Rg → Int × List Rg
  | low, [] => (low, [])
  | low, x :: r => if most < ((r.length : Int) + 1) then dropR most x.2 r else (low, x :: r)
def rtakeP (low : Int) (rs : List Rg) (n most : Int) : Tk :=
  if badT low rs n most then ⟨low, rs, false⟩ else ⟨(dropR most (mrg (low, []) (insR rs n)).1 (mrg (low, []) (insR rs n)).2).1, (dropR most (mrg (low, []) (insR rs n)).1 (mrg (low, []) (insR rs n)).2).2, true⟩
theorem place_lt {r : Rg} {n : Int} (rs : List Rg) (h : r.2 < n) : placeR (r :: rs) n = r :: placeR rs n := by
  rw [placeR.eq_def]
  simp only
  rw [if_pos h]
theorem place_gt {r : Rg} {n : Int} (rs : List Rg) (h : n < r.2) : placeR (r :: rs) n = if r.1 = n + 1 then (n, r.2) :: rs else (n, n + 1) :: r :: rs := by
  rw [placeR.eq_def]
  simp only
  rw [if_neg (by omega), if_neg (by omega)]
theorem place_e1 {r : Rg} {n : Int} (h : r.2 = n) : placeR [r] n = [(r.1, n + 1)] := by
  rw [placeR.eq_def]
  simp only
  rw [if_neg (by omega), if_pos h]
theorem place_e2 {r : Rg} {n : Int} (s : Rg) (q : List Rg) (h : r.2 = n) : placeR (r :: s :: q) n = if s.1 = n + 1 then (r.1, s.2) :: q else (r.1, n + 1) :: s :: q := by
  rw [placeR.eq_def]
  simp only
  rw [if_neg (by omega), if_pos h]
theorem mrg_cons (a : Int × List Rg) (x : Rg) (xs : List Rg) : mrg a (x :: xs) = mrg (mStep a x) xs := rfl
theorem step_last (low : Int) (o : List Rg) (y x : Rg) : mStep (low, o ++ [y]) x = if y.2 = x.1 then (low, o ++ [(y.1, x.2)]) else (low, o ++ [y] ++ [x]) := by
  unfold mStep
  have h1 : (o ++ [y]).getD ((o ++ [y]).length - 1) (0, 0) = y := by simp [List.getD]
  have h2 : ∀ v : Rg, (o ++ [y]).set ((o ++ [y]).length - 1) v = o ++ [v] := by intro v; simp
  simp only [h1, h2]
  rw [if_neg (by simp)]
theorem mrg_chain : ∀ (xs o : List Rg) (y : Rg) (low : Int), chainB y.2 xs = true → mrg (low, o ++ [y]) xs = (low, o ++ y :: xs)
  | [], o, y, low, _ => rfl
  | x :: r, o, y, low, h => by
    rw [chain_cons] at h
    rw [mrg_cons, step_last, if_neg (by omega), mrg_chain r (o ++ [y]) x low h.2.2]
    simp
theorem mrg_right {xs : List Rg} {l : Int} (h : chainB l xs = true) : mrg (l, []) xs = (l, xs) := by
  cases xs with
  | nil => rfl
  | cons x r =>
    rw [chain_cons] at h
    rw [mrg_cons]
    have : mStep (l, []) x = (l, [] ++ [x]) := by
      unfold mStep
      simp only [if_true]
      rw [if_neg (by omega)]
      rfl
    rw [this, mrg_chain r [] x l h.2.2]
    rfl
theorem mrg_ins : ∀ (q o : List Rg) (y : Rg) (low n : Int), chainB y.2 q = true → y.2 ≤ n → hasR q n = false → mrg (low, o ++ [y]) (insR q n) = (low, o ++ placeR (y :: q) n)
  | [], o, y, low, n, _, hy, _ => by
    simp only [insR, mrg_cons, step_last]
    by_cases h : y.2 = n
    · rw [if_pos h, place_e1 h]
      rfl
    · rw [if_neg h, place_lt _ (by omega)]
      simp [mrg, placeR]
  | s :: t, o, y, low, n, hc, hy, hn => by
    rw [chain_cons] at hc
    obtain ⟨h1, h2, h3⟩ := hc
    rw [hasR_false_cons] at hn
    obtain ⟨hn1, hn2⟩ := hn
    by_cases hs : n < s.1
    · have hp := place_gt (r := s) (n := n) t (by omega)
      rw [insR, if_pos hs, mrg_cons, step_last]
      by_cases h : y.2 = n
      · rw [if_pos h, mrg_cons, step_last, place_e2 s t h]
        by_cases h4 : s.1 = n + 1
        · rw [if_pos h4.symm, if_pos h4]
          exact mrg_chain t o (y.1, s.2) low h3
        · rw [if_neg (fun e => h4 e.symm), if_neg h4, mrg_chain t _ s low h3]
          simp
      · rw [if_neg h, mrg_cons, step_last, place_lt _ (by omega), hp]
        by_cases h4 : s.1 = n + 1
        · rw [if_pos h4.symm, if_pos h4]
          rw [mrg_chain t (o ++ [y]) (n, s.2) low h3]
          simp
        · rw [if_neg (fun e => h4 e.symm), if_neg h4, mrg_chain t _ s low h3]
          simp
    · have hs2 : s.2 ≤ n := by omega
      rw [insR, if_neg hs, mrg_cons, step_last, if_neg (by omega), mrg_ins t (o ++ [y]) s low n h3 hs2 hn2, place_lt (r := y) _ (by omega)]
      simp
def headP (low : Int) : List Rg → Int × List Rg
  | [] => (low, [])
  | x :: r => if x.1 = low then (x.2, r) else (low, x :: r)
theorem mrg_place (rs : List Rg) (low n : Int) (hc : chainB low rs = true) (hl : low ≤ n) (hn : hasR rs n = false) : mrg (low, []) (insR rs n) = headP low (placeR rs n) := by
  have one : ∀ (x : Rg), mStep (low, []) x = if x.1 = low then (x.2, []) else (low, [x]) := fun x => by unfold mStep; simp
  cases rs with
  | nil =>
    simp only [insR, mrg_cons, one, placeR, headP]
    rfl
  | cons s t =>
    rw [chain_cons] at hc
    obtain ⟨h1, h2, h3⟩ := hc
    rw [hasR_false_cons] at hn
    obtain ⟨hn1, hn2⟩ := hn
    by_cases hs : n < s.1
    · have hp := place_gt (r := s) (n := n) t (by omega)
      rw [insR, if_pos hs, mrg_cons, one, hp]
      by_cases h : n = low
      · rw [if_pos (by exact h)]
        by_cases h4 : s.1 = n + 1
        · rw [if_pos h4, headP, if_pos (by exact h), mrg_cons]
          have : mStep (n + 1, []) s = (s.2, []) := by unfold mStep; simp [h4]
          rw [this, mrg_right h3]
        · rw [if_neg h4, headP, if_pos (by exact h)]
          exact mrg_right (by rw [chain_cons]; exact ⟨by simp only; omega, h2, h3⟩)
      · rw [if_neg (by exact h), show ([(n, n + 1)] : List Rg) = [] ++ [(n, n + 1)] from rfl, mrg_cons, step_last]
        by_cases h4 : s.1 = n + 1
        · rw [if_pos h4.symm, if_pos h4, headP, if_neg (by exact h)]
          exact mrg_chain t [] (n, s.2) low h3
        · rw [if_neg (fun e => h4 e.symm), mrg_chain t _ s low h3, if_neg h4, headP, if_neg (by exact h)]
          rfl
    · have hs2 : s.2 ≤ n := by omega
      rw [insR, if_neg hs, mrg_cons, one, if_neg (by omega), show ([s] : List Rg) = [] ++ [s] from rfl, mrg_ins t [] s low n h3 hs2 hn2, List.nil_append]
      have : ∃ x r, placeR (s :: t) n = x :: r ∧ x.1 = s.1 := by
        by_cases h5 : s.2 = n
        · cases t with
          | nil => exact ⟨_, _, place_e1 h5, rfl⟩
          | cons u v => rw [place_e2 u v h5]; split <;> exact ⟨_, _, rfl, rfl⟩
        · exact ⟨_, _, place_lt t (by omega), rfl⟩
      obtain ⟨x, r, e, hx⟩ := this
      rw [e, headP, if_neg (by omega)]
theorem drop_chain (most : Int) : ∀ (zs : List Rg) (low : Int), chainB low zs = true → dropP most low zs = dropR most low zs
  | [], _, _ => rfl
  | x :: r, low, h => by
    rw [chain_cons] at h
    rw [dropP, dropR]
    by_cases hm : most < ((r.length : Int) + 1)
    · rw [if_pos (Or.inr hm), if_pos hm, drop_chain most r x.2 h.2.2]
    · rw [if_neg (by omega), if_neg hm]
theorem drop_head (most low : Int) (zs : List Rg) (h : ChW low zs) : dropP most low zs = dropR most (headP low zs).1 (headP low zs).2 := by
  cases zs with
  | nil => rfl
  | cons x r =>
    obtain ⟨h1, h2, h3⟩ := h
    by_cases hx : x.1 = low
    · rw [headP, if_pos hx, dropP, if_pos (Or.inl hx), drop_chain most r x.2 h3]
    · rw [headP, if_neg hx, drop_chain most (x :: r) low (by rw [chain_cons]; exact ⟨by omega, h2, h3⟩)]
theorem rtake_eq (low : Int) (rs : List Rg) (n most : Int) : rtakeP low rs n most = takeP low rs n most := by
  unfold rtakeP takeP
  cases hb : badT low rs n most
  · simp only [badT, Bool.or_eq_false_iff, Bool.not_eq_false', decide_eq_false_iff_not] at hb
    obtain ⟨⟨⟨⟨hr, h0⟩, h1⟩, hm⟩, hh⟩ := hb
    rw [hasB, hr, Bool.true_and, inB_eq, Bool.or_eq_false_iff, decide_eq_false_iff_not] at hh
    have hc := ((right_iff _ _).1 hr).1
    rw [placeP_eq rs low n hc, mrg_place rs low n hc (by omega) hh.2, ← drop_head most low _ (place_chW rs low n hc (by omega) hh.2)]
  · rfl
end Go.Proofs.Ytikfbgbfjipceaa

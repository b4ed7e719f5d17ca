/-
  View's laws in plain words: two events that change places.
-/
import Derived.Test.YtpikahfgidgdbaaP9
namespace Go.Proofs.Ytpikahfgidgdbaa
open Go.RowKit
def sw (k : Nat) (i : Int) : Int := if i = (k : Int) then (k : Int) + 1 else if i = (k : Int) + 1 then (k : Int) else i
def swN (k i : Nat) : Nat := if i = k then k + 1 else if i = k + 1 then k else i
theorem sw_nat (k i : Nat) : sw k (i : Int) = ((swN k i : Nat) : Int) := by
  unfold sw swN
  by_cases h1 : i = k
  · rw [if_pos (by omega), if_pos h1]; rfl
  · rw [if_neg (by omega), if_neg h1]
    by_cases h2 : i = k + 1
    · rw [if_pos (by omega), if_pos h2]
    · rw [if_neg (by omega), if_neg h2]
theorem sw_sw (k : Nat) (i : Int) : sw k (sw k i) = i := by
  unfold sw
  repeat' split
  all_goals omega
theorem sw_inj {k : Nat} {i j : Int} (h : sw k i = sw k j) : i = j := by rw [← sw_sw k i, h, sw_sw]
theorem swN_swN (k i : Nat) : swN k (swN k i) = i := by
  unfold swN
  repeat' split
  all_goals omega
theorem swN_lt {k i n : Nat} (hk : k + 1 < n) : swN k i < n ↔ i < n := by
  unfold swN
  repeat' split
  all_goals omega
def renE (k : Nat) (e : api_Event) : api_Event := api_Event.mk e.Author e.Seq (e.Causes.map (sw k)) e.Kind e.Group (sw k e.Target) (sw k e.Quote) e.Who e.N e.Text e.Files e.Step
theorem vAct_ren (s : VSt) (k : Nat) (e : api_Event) : vAct s (renE k e) = vAct s e := rfl
theorem actF_ren (k : Nat) (r : List api_Event) : ∀ s : VSt, actF s (r.map (renE k)) = actF s r := by
  induction r with
  | nil => exact fun s => rfl
  | cons e r ih => exact fun s => ih (vAct s e)
def renS (a b c : Int) (s : VSt) : VSt := { s with id := a, pa := b, qu := c }
theorem vAct_renS (a b c : Int) (s : VSt) (e : api_Event) : vAct (renS a b c s) e = renS a b c (vAct s e) := by
  unfold vAct renS
  cases (e.Group != s.gr) || s.gone <;> cases (e.Kind == 1) && (e.Author == s.au) <;> cases e.Kind == 2 <;> cases e.Kind == 3 <;> cases e.Kind == 4 <;> rfl
theorem actF_renS (a b c : Int) (r : List api_Event) : ∀ s : VSt, actF (renS a b c s) r = renS a b c (actF s r) := by
  induction r with
  | nil => exact fun s => rfl
  | cons e r ih =>
    intro s
    have := ih (vAct s e)
    rw [← vAct_renS] at this
    exact this
section
variable {A B : List api_Event} {x y : api_Event}
/-- before, and after -/
def lA (A B : List api_Event) (x y : api_Event) : List api_Event := A ++ x :: y :: B
def lB (A B : List api_Event) (x y : api_Event) : List api_Event := (A ++ y :: x :: B).map (renE A.length)
theorem lB_get (i : Nat) : (lB A B x y)[i]? = ((lA A B x y)[swN A.length i]?).map (renE A.length) := by
  unfold lA lB
  rw [List.getElem?_map]
  congr 1
  unfold swN
  by_cases h1 : i = A.length
  · subst h1
    rw [if_pos rfl, List.getElem?_append_right (Nat.le_refl _), List.getElem?_append_right (by omega)]
    simp
  · rw [if_neg h1]
    by_cases h2 : i = A.length + 1
    · subst h2
      rw [if_pos rfl, List.getElem?_append_right (by omega), List.getElem?_append_right (Nat.le_refl _)]
      simp
    · rw [if_neg h2]
      by_cases h3 : i < A.length
      · rw [List.getElem?_append_left h3, List.getElem?_append_left h3]
      · rw [List.getElem?_append_right (by omega), List.getElem?_append_right (by omega)]
        obtain ⟨q, hq⟩ : ∃ q, i - A.length = q + 2 := ⟨i - A.length - 2, by omega⟩
        rw [hq]
        rfl
theorem lA_len : (lA A B x y).length = A.length + (B.length + 2) := by unfold lA; simp
theorem lB_len : (lB A B x y).length = (lA A B x y).length := by unfold lA lB; simp
theorem lB_sw (j : Nat) : (lB A B x y)[swN A.length j]? = ((lA A B x y)[j]?).map (renE A.length) := by rw [lB_get, swN_swN]
theorem postB_sw (j : Nat) : postB (lB A B x y) (swN A.length j) = postB (lA A B x y) j := by
  unfold postB
  rw [lB_sw]
  cases (lA A B x y)[j]? with
  | none => rfl
  | some e => rfl
theorem msgB_sw (t : Int) : msgB (lB A B x y) (sw A.length t) = msgB (lA A B x y) t := by
  by_cases h0 : 0 ≤ t
  · obtain ⟨n, rfl⟩ : ∃ n : Nat, t = (n : Int) := ⟨t.toNat, by omega⟩
    rw [sw_nat, msgB_nat, msgB_nat, postB_sw]
  · have : sw A.length t = t := by unfold sw; rw [if_neg (by omega), if_neg (by omega)]
    rw [this]
    unfold msgB
    rw [decide_eq_false h0]
    rfl
variable (hx : x.Target ≠ ((A.length : Nat) : Int) + 1) (hy : y.Target ≠ ((A.length : Nat) : Int))
include hx hy
theorem lt_sw {j : Nat} {e : api_Event} (he : (lA A B x y)[j]? = some e) : (sw A.length e.Target < sw A.length (j : Int)) ↔ e.Target < (j : Int) := by
  have h1 : j = A.length → e.Target ≠ ((A.length : Nat) : Int) + 1 := fun h => by
    subst h
    unfold lA at he
    rw [List.getElem?_append_right (Nat.le_refl _)] at he
    simp at he
    rw [← he]; exact hx
  have h2 : j = A.length + 1 → e.Target ≠ ((A.length : Nat) : Int) := fun h => by
    subst h
    unfold lA at he
    rw [List.getElem?_append_right (by omega)] at he
    simp at he
    rw [← he]; exact hy
  unfold sw
  repeat' split
  all_goals (try have := h1 (by omega)); (try have := h2 (by omega)); omega
theorem parOf_sw (j : Nat) : parOf (lB A B x y) (swN A.length j) = sw A.length (parOf (lA A B x y) j) := by
  have hm1 : sw A.length (-1) = -1 := by unfold sw; rw [if_neg (by omega), if_neg (by omega)]
  unfold parOf
  rw [lB_sw]
  cases he : (lA A B x y)[j]? with
  | none => simp only [Option.map_none]; exact hm1.symm
  | some e =>
    simp only [Option.map_some]
    unfold parB
    have e1 : (renE A.length e).Target = sw A.length e.Target := rfl
    rw [e1, msgB_sw, ← sw_nat]
    have hd : decide (sw A.length e.Target < sw A.length (j : Int)) = decide (e.Target < (j : Int)) := decide_eq_decide.2 (lt_sw hx hy he)
    rw [hd]
    cases decide (e.Target < (j : Int)) && msgB (lA A B x y) e.Target
    · exact hm1.symm
    · rfl
theorem root_sw : ∀ n j : Nat, j ≤ n → postB (lA A B x y) j = true → rootS (lB A B x y) (sw A.length (j : Int)) = sw A.length (rootS (lA A B x y) (j : Int)) := by
  intro n
  induction n with
  | zero =>
    intro j hj hp
    have : j = 0 := by omega
    subst this
    have hp' : postB (lB A B x y) (swN A.length 0) = true := by rw [postB_sw]; exact hp
    have h1 := parOf_lt (lA A B x y) 0
    have h2 := parOf_sw (A := A) (B := B) hx hy 0
    have h3 : parOf (lA A B x y) 0 = -1 := by
      unfold parOf at h1 ⊢
      cases hq : (lA A B x y)[0]? with
      | none => rfl
      | some e =>
        rw [hq] at h1
        rcases parB_cases (lA A B x y) (0 : Nat) e with h | ⟨h, h2, _⟩
        · exact h
        · dsimp only at h1; omega
    have hm1 : sw A.length (-1) = -1 := by unfold sw; rw [if_neg (by omega), if_neg (by omega)]
    rw [h3, hm1] at h2
    rw [rootS_nat _ hp, sw_nat, rootS_nat _ hp']
    have e1 : rootN (lA A B x y) 0 0 = 0 := rfl
    rw [e1]
    have e2 : ∀ m q : Nat, parOf (lB A B x y) q = -1 → rootN (lB A B x y) m q = (q : Int) := fun m q h => by
      cases m with
      | zero => rfl
      | succ m => unfold rootN; rw [h]; rfl
    rw [e2 _ _ h2]
    exact (sw_nat A.length 0).symm
  | succ n ih =>
    intro j hj hp
    have hp' : postB (lB A B x y) (swN A.length j) = true := by rw [postB_sw]; exact hp
    have h2 := parOf_sw (A := A) (B := B) hx hy j
    by_cases h0 : 0 ≤ parOf (lA A B x y) j
    · have h1 := parOf_lt (lA A B x y) j
      obtain ⟨p, hpp⟩ : ∃ p : Nat, parOf (lA A B x y) j = (p : Int) := ⟨(parOf (lA A B x y) j).toNat, by omega⟩
      have h3 := parOf_msg (lA A B x y) j h0
      rw [hpp, msgB_nat] at h3
      rw [hpp, sw_nat] at h2
      have h4 := ih p (by omega) h3
      rw [sw_nat] at h4
      rw [← rootS_par (lA A B x y) hp hpp, sw_nat, ← rootS_par (lB A B x y) hp' h2]
      exact h4
    · have h3 : parOf (lA A B x y) j = -1 := by
        unfold parOf at h0 ⊢
        cases hq : (lA A B x y)[j]? with
        | none => rfl
        | some e =>
          rw [hq] at h0
          rcases parB_cases (lA A B x y) j e with h | ⟨h, h2, _⟩
          · exact h
          · dsimp only at h0; omega
      have hm1 : sw A.length (-1) = -1 := by unfold sw; rw [if_neg (by omega), if_neg (by omega)]
      rw [h3, hm1] at h2
      have e2 : ∀ (l : List api_Event) (m q : Nat), parOf l q = -1 → rootN l m q = (q : Int) := fun l m q h => by
        cases m with
        | zero => rfl
        | succ m => unfold rootN; rw [h]; rfl
      rw [rootS_nat _ hp, sw_nat, rootS_nat _ hp', e2 _ _ _ h2, e2 _ _ _ h3, sw_nat]
theorem ans_sw (j k : Nat) : ansB (lB A B x y) (sw A.length (j : Int)) (swN A.length k) = ansB (lA A B x y) (j : Int) k := by
  refine bool_ext ?_
  rw [sw_nat, ansB_iff, ansB_iff, postB_sw, lB_sw]
  constructor
  · rintro ⟨h1, h2, e', he', ht⟩
    cases he : (lA A B x y)[k]? with
    | none => rw [he] at he'; cases he'
    | some e =>
      rw [he] at he'
      injection he' with he'
      subst he'
      have ht' : sw A.length e.Target = sw A.length (j : Int) := ht.trans (sw_nat _ _).symm
      have ht2 := sw_inj ht'
      have := (lt_sw (A := A) (B := B) hx hy he).1 (by rw [ht', sw_nat, sw_nat]; omega)
      exact ⟨by omega, h2, e, rfl, ht2⟩
  · rintro ⟨h1, h2, e, he, ht⟩
    rw [he]
    have := (lt_sw (A := A) (B := B) hx hy he).2 (by omega)
    rw [ht, sw_nat, sw_nat] at this
    exact ⟨by omega, h2, _, rfl, by show sw A.length e.Target = _; rw [ht, sw_nat]⟩
theorem answers_sw {j : Nat} (hp : postB (lA A B x y) j = true) : (ansS (lB A B x y) (sw A.length (j : Int))).length = (ansS (lA A B x y) (j : Int)).length := by
  unfold ansS
  rw [msgB_sw, msgB_nat, hp]
  simp only [cond_true]
  unfold ansT
  rw [List.length_map, List.length_map, lB_len]
  have hn : A.length + 1 < (lA A B x y).length := by rw [lA_len]; omega
  generalize (lA A B x y).length = n at hn
  have hperm : ((List.range n).map (swN A.length)).Perm (List.range n) := by
    refine (List.perm_ext_iff_of_nodup ?_ List.nodup_range).2 fun q => ?_
    · refine List.pairwise_map.2 (List.nodup_range.imp fun {a b} h e => h ?_)
      rw [← swN_swN A.length a, e, swN_swN]
    · rw [List.mem_map]
      constructor
      · rintro ⟨r, hr, rfl⟩
        exact List.mem_range.2 ((swN_lt hn).2 (List.mem_range.1 hr))
      · intro hq
        exact ⟨swN A.length q, List.mem_range.2 ((swN_lt hn).2 (List.mem_range.1 hq)), swN_swN _ _⟩
  rw [← (hperm.filter _).length_eq, List.filter_map, List.length_map]
  congr 1
  refine List.filter_congr fun k _ => ?_
  simp only [Function.comp]
  exact ans_sw hx hy j k
end
end Go.Proofs.Ytpikahfgidgdbaa

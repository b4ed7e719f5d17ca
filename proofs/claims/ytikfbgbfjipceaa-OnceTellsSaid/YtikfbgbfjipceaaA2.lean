/-
  Contracts of layer 32: sort.Search over a closure with two captured variables; the closure; at; Has.
-/
import Derived.Test.YtikfbgbfjipceaaA1
namespace Go.Proofs.Ytikfbgbfjipceaa
open Go.RowKit

def SearchPost (n : Nat) (p : Nat → Bool) (w w' : World) (e : Ending) : Prop :=
  ∃ k : Nat, e = .returned (.int .i64 k) ∧ k ≤ n ∧ (∀ i, i < k → p i = false) ∧ (∀ i, k ≤ i → i < n → p i = true) ∧ Below w.heap.size w w'
def SearchRel (n : Nat) (p : Nat → Bool) (a b : Nat) : Prop := (∀ i, i < a → p i = false) ∧ (∀ i, b ≤ i → i < n → p i = true)

set_option maxHeartbeats 1000000 in
theorem search_any (n g : Nat) (x y : Value) (p : Nat → Bool) (w : World) (hn : n ≤ 1000000)
    (hcf : ∀ (args : Array Value) (w : World), Sem.run Try.prog (callFunc g args) w = .ok (.enter g args) w)
    (hf : ∀ (i : Nat) (w' : World), i < n → Below w.heap.size w w' → Calls Try.prog g #[.int .i64 i, x, y] w' fun e w'' => e = .returned (.bool (p i)) ∧ Below w'.heap.size w' w'')
    (hm : ∀ a b, a ≤ b → b < n → p a = true → p b = true) :
    Calls Try.prog 23 #[.int .i64 n, .func (.func g) #[] #[x, y]] w fun e w' => SearchPost n p w w' e := by
  have HF := Lib.hid hf
  have HM := Lib.hid hm
  clear hf hm
  go_enter Try.func23, Try.ntmps23
  go_wp2_with fail
  go_loopw [5, 6] (fun i j wr => ∃ a b : Nat, a ≤ b ∧ b ≤ n ∧ i = .int .i64 a ∧ j = .int .i64 b ∧ Hid (SearchRel n p a b) ∧ Below w.heap.size w wr) (fun i j _ => (intOf j).toNat - (intOf i).toNat)
  case atStart => exact ⟨0, n, by omega, by omega, rfl, rfl, ⟨fun i h => absurd h (by omega), fun i h1 h2 => absurd h1 (by omega)⟩, Below.refl _ _⟩
  case round =>
    obtain ⟨a, b, hab, hbn, rfl, rfl, HR, hbel⟩ := hrel
    by_cases hlt : a < b
    · go_wp2_with fail
      obtain ⟨h, hh, h1, h2⟩ : ∃ h : Nat, ((a : Int) + (b : Int)) / 2 = (h : Int) ∧ a ≤ h ∧ h < b := ⟨(a + b) / 2, by omega, by omega, by omega⟩
      rw [hh]
      clear hh
      refine (HF.out h _ (by omega) hbel).mono ?_
      rintro e w1 ⟨rfl, hb1⟩
      have hbel1 := bt hbel hb1
      cases hp : p h
      · have HP := Lib.hid hp
        clear hp
        go_wp2_with fail
        refine ⟨⟨h + 1, b, by omega, by omega, by go_num, rfl, ⟨fun i hi => ?_, HR.out.2⟩, hbel1⟩, by simp [intOf]; omega⟩
        cases hpi : p i
        · rfl
        · have := HM.out i h (by omega) (by omega) hpi
          rw [HP.out] at this
          exact this.symm
      · have HP := Lib.hid hp
        clear hp
        go_wp2_with fail
        exact ⟨⟨a, h, by omega, by omega, rfl, rfl, ⟨HR.out.1, fun i hi hin => HM.out h i hi hin HP.out⟩, hbel1⟩, by simp [intOf]; omega⟩
    · go_wp2_with fail
      go_ret
      have e : a = b := by omega
      exact ⟨a, rfl, by omega, HR.out.1, fun i h1 h2 => HR.out.2 i (by omega) h2, hbel⟩

theorem cf24 (args : Array Value) (w : World) : Sem.run Try.prog (callFunc 24 args) w = .ok (.enter 24 args) w := by simp [go_sem]
/-- the closure of at: does range i end after x? -/
theorem at1_any (i : Nat) (B1 B2 : Nat) (x : Int) (A : Option Addr) (n c : Nat) (rs : List Rg) (r : Rg) (w : World) (hi : i < n) (hS : Sl w A n 2 (rs.flatMap pairC)) (hr : rs[i]? = some r)
    (h1 : w.cell? ⟨B1, 1, none⟩ = some (.slice A n c)) (h2 : w.cell? ⟨B2, 0, none⟩ = some (.int .i64 x)) :
    Calls Try.prog 24 #[.int .i64 i, .pointer (some ⟨B1, 0, none⟩), .pointer (some ⟨B2, 0, none⟩)] w fun e w' => e = .returned (.bool (decide (x < r.2))) ∧ Below w.heap.size w w' := by
  obtain ⟨b, o, r', rfl, hb0, hX, hc0, hc1⟩ := hS.pair i hi
  obtain rfl : r = r' := by rw [hr] at hX; exact Option.some.inj hX
  clear hX hr hc0
  go_enter Try.func24, Try.ntmps24
  go_wp2_with fail
  go_quiet (fail)
  go_wp2_with fail
  go_ret
  exact ⟨rfl, bd (Below.refl _ _)⟩

def endsAfter (rs : List Rg) (x : Int) (i : Nat) : Bool := match rs[i]? with
  | some r => decide (x < r.2)
  | none => true
/-- the index of the first range that ends after a number -/
def atN (rs : List Rg) (x : Int) : Nat := (rs.takeWhile (fun r => decide (r.2 ≤ x))).length
theorem atN_eq : ∀ (rs : List Rg) (x : Int) (k : Nat), k ≤ rs.length → (∀ i, i < k → endsAfter rs x i = false) → (∀ i, k ≤ i → i < rs.length → endsAfter rs x i = true) → atN rs x = k
  | [], x, k, hk, _, _ => by simp at hk; subst hk; rfl
  | r :: rs, x, 0, _, _, h2 => by
    have := h2 0 (by omega) (by simp)
    simp only [endsAfter, List.getElem?_cons_zero, decide_eq_true_eq] at this
    simp [atN, this]
  | r :: rs, x, k + 1, hk, h1, h2 => by
    have h0 := h1 0 (by omega)
    simp only [endsAfter, List.getElem?_cons_zero, decide_eq_false_iff_not] at h0
    have ih := atN_eq rs x k (by simpa using hk) (fun i hi => by have := h1 (i + 1) (by omega); simpa [endsAfter] using this) (fun i hi hl => by have := h2 (i + 1) (by omega) (by simp; omega); simpa [endsAfter] using this)
    have h0' : r.2 ≤ x := by omega
    simp only [atN, List.takeWhile_cons] at ih ⊢
    simp [h0', ih]
theorem chain_mono (rs : List Rg) (low x : Int) (h : chainB low rs = true) : ∀ a b, a ≤ b → b < rs.length → endsAfter rs x a = true → endsAfter rs x b = true := by
  induction rs generalizing low with
  | nil => intro a b _ hb; simp at hb
  | cons r rs ih =>
    simp only [chainB, Bool.and_eq_true, decide_eq_true_eq] at h
    intro a b hab hb ha
    cases a with
    | succ a =>
      cases b with
      | zero => omega
      | succ b => exact ih r.2 h.2 a b (by omega) (by simpa using hb) (by simpa [endsAfter] using ha)
    | zero =>
      cases b with
      | zero => exact ha
      | succ b =>
        simp only [endsAfter, List.getElem?_cons_zero, decide_eq_true_eq] at ha
        have key : ∀ (rs : List Rg) (last : Int), chainB last rs = true → ∀ (i : Nat) (q : Rg), rs[i]? = some q → last < q.2 := by
          intro rs
          induction rs with
          | nil => intro last _ i q hq; simp at hq
          | cons r rs ih =>
            intro last h i q hq
            simp only [chainB, Bool.and_eq_true, decide_eq_true_eq] at h
            cases i with
            | zero => simp at hq; subst hq; omega
            | succ i => have := ih r.2 h.2 i q (by simpa using hq); omega
        have hbl : b < rs.length := by simpa using hb
        have := key rs r.2 h.2 b rs[b] (List.getElem?_eq_getElem hbl)
        simp only [endsAfter, List.getElem?_cons_succ, List.getElem?_eq_getElem hbl, decide_eq_true_eq]
        omega

set_option maxHeartbeats 1000000 in
theorem at_any (low x : Int) (A : Option Addr) (n c : Nat) (rs : List Rg) (w : World) (hS : Sl w A n 2 (rs.flatMap pairC)) (hn : n ≤ 1000000) (hch : chainB low rs = true) :
    Calls Try.prog 20 #[listV low A n c, .int .i64 x] w fun e w' => e = .returned (.int .i64 (atN rs x)) ∧ Below w.heap.size w w' := by
  have HL := Lib.hid hS.len2
  have HC := Lib.hid (chain_mono rs low x hch)
  clear hch
  unfold listV
  go_enter Try.func20, Try.ntmps20
  go_wp2_with fail
  have hW : Below w.heap.size w ((w.alloc (.cells #[.int .i64 low, .slice A n c] 25)).alloc (.cells #[.int .i64 x] 3)) := ba (below_alloc _ _) _
  refine (search_any n 24 _ _ (endsAfter rs x) _ hn cf24 ?_ ?_).mono ?_
  · intro i w' hi hb
    have hS' := (hS.below hW).below hb
    have hi' : i < rs.length := by rw [HL.out]; exact hi
    have hb' := bcell hb
    have h1 : w'.cell? ⟨w.heap.size, 1, none⟩ = some (.slice A n c) := by
      rw [hb'.1 _ _ (by simp; omega)]
      simp [go_sem]
    have h2 : w'.cell? ⟨w.heap.size + 1, 0, none⟩ = some (.int .i64 x) := by
      rw [hb'.1 _ _ (by simp)]
      simp [go_sem]
    refine (at1_any i w.heap.size (w.heap.size + 1) x A n c rs rs[i] w' hi hS' (List.getElem?_eq_getElem hi') h1 h2).mono ?_
    rintro e w'' ⟨he, hbb⟩
    exact ⟨by rw [he]; simp [endsAfter, List.getElem?_eq_getElem hi'], hbb⟩
  · intro a b hab hb ha
    exact HC.out a b hab (by rw [HL.out]; exact hb) ha
  · rintro e w1 ⟨k, rfl, hk, hk1, hk2, hb1⟩
    have hat : atN rs x = k := atN_eq rs x k (by rw [HL.out]; exact hk) hk1 (fun i h1 h2 => hk2 i h1 (by rw [← HL.out]; exact h2))
    have HAT := Lib.hid hat
    clear hat hk1 hk2
    go_wp2_with fail
    go_ret
    exact ⟨ret_int (by rw [HAT.out]), bt hW hb1⟩
end Go.Proofs.Ytikfbgbfjipceaa

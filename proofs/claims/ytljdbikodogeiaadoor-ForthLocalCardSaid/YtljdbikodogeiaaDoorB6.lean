/-
  Forth, the limits, comparing (plain law of layer 21).
-/
import Derived.Test.YtljdbikodogeiaaDoorB5
namespace Go.Proofs.YtljdbikodogeiaaDoor
open Go.RowKit
theorem all_true (n : Nat) : ((List.range n).all fun _ => true) = true := by
  rw [List.all_eq_true]
  exact fun _ _ => rfl
theorem equal_refl (l : List api_Way) (hl : l.length ≤ 1000000) : slices_Equal_api_Way_api_Way l l = some true := by
  have h := loopF_idx (body := slices_Equal_api_Way_api_Way_L1 l l) l.length (fun _ => true) false (fun i hi => by
    have hlt : decide ((i : Int) < (l.length : Int)) = true := decide_eq_true (by omega)
    have hw : IntKind.i64.wrap ((i : Int) + 1) = (i : Int) + 1 := wrap64 (by omega) (by omega)
    unfold slices_Equal_api_Way_api_Way_L1
    simp only [hlt, cond_true, getI_in w0 hi, bind_s, hw, beq_self_eq_true, Bool.and_self, Bool.not_true, cond_false]) (by
    unfold slices_Equal_api_Way_api_Way_L1
    simp only [Int.lt_irrefl, decide_false, cond_false])
  have hn : ((l.length : Int) != (l.length : Int)) = false := by simp
  unfold slices_Equal_api_Way_api_Way
  rw [hn, cond_false, h, all_true]
  rfl
def netOf (p : api_Profile) (ev : List api_Event) (bad : List Int) : forth_network := ⟨p, compS p, ev, bad⟩
def forthS (p : api_Profile) (ev : List api_Event) (bad : List Int) (id : Int) : List api_Item × Int :=
  bif decide (id < 0) then ([], 4) else bif decide ((ev.length : Int) ≤ id) then ([], 4) else (allS (netOf p ev bad) id, 0)
theorem forth_eq {p : api_Profile} (hp : ProfOk p) (hc : chk p = 0) {ev : List api_Event} {bad : List Int} (h : NetOk (netOf p ev bad)) (id : Int) : forth_Forth p (compS p) ev bad id = some (forthS p ev bad id) := by
  unfold forth_Forth forthS
  rw [compile_eq p hp, bind_s, hc]
  simp only [bne_self_eq_false, cond_false]
  rw [equal_refl _ (by simp [compS]), bind_s]
  simp only [Bool.not_true, cond_false]
  by_cases h1 : id < 0
  · rw [decide_eq_true h1]
    rfl
  · by_cases h2 : (ev.length : Int) ≤ id
    · rw [decide_eq_false h1, decide_eq_true h2]
      rfl
    · rw [decide_eq_false h1, decide_eq_false h2]
      have := all_eq h (id := id) (by omega) (by show id < (ev.length : Int); omega)
      unfold netOf at this ⊢
      simp only [cond_false]
      rw [this]
      rfl
/- comparing -/
theorem ints_refl (a : List Int) (h : a.length ≤ 1000000) : ref10_Ints a a = some true := by
  have h := loopF_idx (body := ref10_Ints_L1 a a) a.length (fun _ => true) false (fun i hi => by
    have hlt : decide ((i : Int) < (a.length : Int)) = true := decide_eq_true (by omega)
    have hw : IntKind.i64.wrap ((i : Int) + 1) = (i : Int) + 1 := wrap64 (by omega) (by omega)
    have hn : (a.getD i 0 != a.getD i 0) = false := by simp
    unfold ref10_Ints_L1
    simp only [hlt, cond_true, getI_in (0 : Int) hi, bind_s, hw, hn, cond_false]) (by
    unfold ref10_Ints_L1
    simp only [Int.lt_irrefl, decide_false, cond_false])
  have hn : ((a.length : Int) != (a.length : Int)) = false := by simp
  unfold ref10_Ints
  rw [hn, cond_false, h, all_true]
  rfl
theorem item_refl (a : api_Item) (h : a.Files.length ≤ 1000000) : ref21_SameItem a a = some true := by
  unfold ref21_SameItem
  rw [ints_refl _ h]
  simp only [beq_self_eq_true, cond_true, seqF_l, bind_s]
theorem items_refl (l : List api_Item) (hl : l.length ≤ 1000000) (hf : ∀ x ∈ l, x.Files.length ≤ 1000000) : ref21_SameItems l l = some true := by
  have h := loopF_idx (body := ref21_SameItems_L1 l l) l.length (fun _ => true) false (fun i hi => by
    have hlt : decide ((i : Int) < (l.length : Int)) = true := decide_eq_true (by omega)
    have hw : IntKind.i64.wrap ((i : Int) + 1) = (i : Int) + 1 := wrap64 (by omega) (by omega)
    have hm : l.getD i i0 ∈ l := by
      rw [List.getD_eq_getElem?_getD, List.getElem?_eq_getElem hi]
      exact List.getElem_mem hi
    unfold ref21_SameItems_L1
    simp only [hlt, cond_true, getI_in i0 hi, bind_s, hw, item_refl _ (hf _ hm), Bool.not_true, cond_false]) (by
    unfold ref21_SameItems_L1
    simp only [Int.lt_irrefl, decide_false, cond_false])
  have hn : ((l.length : Int) != (l.length : Int)) = false := by simp
  unfold ref21_SameItems
  rw [hn, cond_false, h, all_true]
  rfl
/- the limits -/
def fewE (e : api_Event) : Bool := decide ((e.Causes.length : Int) ≤ 10) && (decide ((e.Files.length : Int) ≤ 10) && decide ((e.Text.size : Int) ≤ 300))
theorem fewE_eq (e : api_Event) : ref14_Few e = some (fewE e) := by
  unfold ref14_Few fewE
  cases decide ((e.Causes.length : Int) ≤ 10)
  · rfl
  · cases decide ((e.Files.length : Int) ≤ 10) <;> rfl
def fewB (ev : List api_Event) (bad : List Int) : Bool := (ev.all fewE && decide ((ev.length : Int) ≤ 14)) && decide ((bad.length : Int) ≤ 12)
theorem few_eq (ev : List api_Event) (bad : List Int) : ref21_Few ev bad 14 = some (fewB ev bad) := by
  have fewall : ref14_FewAll ev 14 = some (ev.all fewE && decide ((ev.length : Int) ≤ 14)) := by
    unfold ref14_FewAll
    by_cases hl : ev.length ≤ 14
    · have h := loopF_idx (body := ref14_FewAll_L1 ev 14) ev.length (fun i => fewE (ev.getD i e0)) false (fun i hi => by
        have hlt : decide ((i : Int) < (ev.length : Int)) = true := decide_eq_true (by omega)
        have hle : decide ((i : Int) ≤ 14) = true := decide_eq_true (by omega)
        have hw : IntKind.i64.wrap ((i : Int) + 1) = (i : Int) + 1 := wrap64 (by omega) (by omega)
        unfold ref14_FewAll_L1
        simp only [hlt, hle, cond_true, getI_in e0 hi, bind_s, hw, fewE_eq]
        cases fewE (ev.getD i e0) <;> rfl) (by
        unfold ref14_FewAll_L1
        simp only [Int.lt_irrefl, decide_false, cond_false])
      have e : ev.all fewE = (List.range ev.length).all fun i => fewE (ev.getD i e0) := by
        apply bool_ext
        rw [List.all_eq_true, List.all_eq_true]
        constructor
        · intro h i hi
          have hi := List.mem_range.1 hi
          rw [List.getD_eq_getElem?_getD, List.getElem?_eq_getElem hi]
          exact h _ (List.getElem_mem hi)
        · intro h x hx
          obtain ⟨i, hi, rfl⟩ := List.getElem_of_mem hx
          have := h i (List.mem_range.2 hi)
          rw [List.getD_eq_getElem?_getD, List.getElem?_eq_getElem hi] at this
          exact this
      rw [h, e]
      cases (List.range ev.length).all fun i => fewE (ev.getD i e0) <;> rfl
    · have hd : decide ((ev.length : Int) ≤ 14) = false := decide_eq_false (by omega)
      have key := loopF_inv (body := ref14_FewAll_L1 ev 14) 15 (fun i s => s = (i : Int)) (fun r => r = some (.inl ()) ∨ r = some (.inr false)) (fun i s hi hs => ?_) (fun s hs => ?_) (s0 := (0 : Int)) rfl
      · rw [hd, Bool.and_false]
        rcases key with h | h
        · rw [h]
          rfl
        · rw [h]
          rfl
      · subst hs
        have hlt : decide ((i : Int) < (ev.length : Int)) = true := decide_eq_true (by omega)
        have hle : decide ((i : Int) ≤ 14) = true := decide_eq_true (by omega)
        have hw : IntKind.i64.wrap ((i : Int) + 1) = ((i + 1 : Nat) : Int) := by rw [wrap64 (by omega) (by omega)]; omega
        unfold ref14_FewAll_L1
        have hil : i < ev.length := by omega
        simp only [hlt, hle, cond_true, getI_in e0 hil, bind_s, hw, fewE_eq]
        cases fewE (ev.getD i e0)
        · right
          exact ⟨_, rfl, Or.inr rfl⟩
        · left
          exact ⟨_, rfl, rfl⟩
      · subst hs
        refine ⟨.inl (), ?_, Or.inl rfl⟩
        have hle : decide (((15 : Nat) : Int) ≤ 14) = false := rfl
        unfold ref14_FewAll_L1
        rw [hle]
        cases decide (((15 : Nat) : Int) < (ev.length : Int)) <;> rfl
  unfold ref21_Few fewB
  rw [fewall, bind_s]
  cases ev.all fewE && decide ((ev.length : Int) ≤ 14) <;> rfl
theorem prof_ranges {p : api_Profile} (h : chk p = 0) : (40 ≤ p.Size ∧ p.Size ≤ 4000) ∧ (1 ≤ p.Parts ∧ p.Parts ≤ 20) ∧ 0 ≤ p.Files := by
  unfold chk at h
  cases h1 : profB p
  · rw [h1] at h; cases h
  cases h2 : rngP p
  · rw [h1, h2] at h; cases h
  have h3 : (numsOf p).all (rangeB 0 1073741824) = true := by
    unfold profB at h1
    simp only [Bool.and_eq_true] at h1
    exact h1.1.1.1.1.1
  have g : ∀ x ∈ numsOf p, 0 ≤ x ∧ x ≤ 1073741824 := fun x hx => by
    have := List.all_eq_true.1 h3 x hx
    simpa [rangeB] using this
  have a1 := g p.Files (by simp [numsOf])
  unfold rngP rangeB at h2
  simp only [Bool.and_eq_true, decide_eq_true_eq] at h2
  exact ⟨h2.1.1.1.1.1.1.1, h2.1.1.1.1.1.1.2, a1.1⟩
theorem net_ok {p : api_Profile} (hc : chk p = 0) {ev : List api_Event} {bad : List Int} (hf : fewB ev bad = true) (hi : ∀ x ∈ ev, i64 x.Who ∧ i64 x.N ∧ ∀ f ∈ x.Files, i64 f) : NetOk (netOf p ev bad) := by
  unfold fewB at hf
  simp only [Bool.and_eq_true, decide_eq_true_eq, List.all_eq_true] at hf
  obtain ⟨⟨h1, h2⟩, h3⟩ := hf
  have h1 : ∀ x ∈ ev, x.Files.length ≤ 10 ∧ x.Text.size ≤ 300 := fun x hx => by
    have := h1 x hx
    unfold fewE at this
    simp only [Bool.and_eq_true, decide_eq_true_eq] at this
    omega
  obtain ⟨a1, a2, a3⟩ := prof_ranges hc
  exact ⟨rfl, by show bad.length ≤ 12; omega, by show ev.length ≤ 14; omega, fun x hx => (h1 x hx).2, fun x hx => (h1 x hx).1, hi, a1, a2, a3⟩
end Go.Proofs.YtljdbikodogeiaaDoor

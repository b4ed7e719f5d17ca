/-
  Ways of a profile (plain law of layer 19).
-/
import Derived.Test.YtljdbikodogeiaaDoorA4
namespace Go.Proofs.YtljdbikodogeiaaDoor
open Go.RowKit
theorem seqF_l {A B : Type} {k : A → Option B} {a : A} : seqF (some (Sum.inl a)) k = k a := rfl
theorem seqF_r {A B : Type} {k : A → Option B} {b : B} : seqF (some (Sum.inr b)) k = some b := rfl
theorem bind_s {A B : Type} {k : A → Option B} {a : A} : (some a).bind k = k a := rfl
def w0 : api_Way := ⟨0, 0⟩
def c0 : ways_choice := ⟨false, w0⟩
/-- the way of the first choice that is -/
def firstS : List ways_choice → api_Way
  | [] => ⟨5, 2⟩
  | c :: r => bif c.is then c.way else firstS r
theorem firstS_drop : ∀ (l : List ways_choice) (i : Nat), i < l.length → (l.getD i c0).is = false → firstS (l.drop i) = firstS (l.drop (i + 1))
  | c :: r, 0, _, h => by
    have h : c.is = false := h
    show (bif c.is then c.way else firstS r) = firstS r
    rw [h]
    rfl
  | c :: r, i + 1, hi, h => firstS_drop r i (by simpa using hi) (by simpa using h)
theorem firstS_at : ∀ (l : List ways_choice) (i : Nat), i < l.length → (l.getD i c0).is = true → firstS (l.drop i) = (l.getD i c0).way
  | c :: r, 0, _, h => by
    have h : c.is = true := h
    show (bif c.is then c.way else firstS r) = c.way
    rw [h]
    rfl
  | c :: r, i + 1, hi, h => firstS_at r i (by simpa using hi) (by simpa using h)
theorem first_eq (l : List ways_choice) (hl : l.length ≤ 1000) : ways_first l = some (firstS l) := by
  have key := loopF_inv (body := ways_first_L1 l) l.length (fun i s => s = (i : Int) ∧ firstS (l.drop i) = firstS l) (fun r => (r = some (.inl ()) ∧ firstS l = ⟨5, 2⟩) ∨ r = some (.inr (firstS l))) (fun i s hi hs => ?_) (fun s hs => ?_) (s0 := (0 : Int)) ⟨rfl, rfl⟩
  · unfold ways_first
    rcases key with ⟨h, e⟩ | h
    · rw [h, seqF_l, e]
    · rw [h, seqF_r]
  · obtain ⟨rfl, hf⟩ := hs
    have hlt : decide ((i : Int) < (l.length : Int)) = true := decide_eq_true (by omega)
    have hw : IntKind.i64.wrap ((i : Int) + 1) = ((i + 1 : Nat) : Int) := by rw [wrap64 (by omega) (by omega)]; omega
    unfold ways_first_L1
    simp only [hlt, cond_true, getI_in c0 hi, bind_s, hw]
    cases hc : (l.getD i c0).is
    · left
      exact ⟨_, rfl, rfl, by rw [← firstS_drop l i hi hc]; exact hf⟩
    · right
      exact ⟨_, rfl, Or.inr (by rw [← hf, firstS_at l i hi hc])⟩
  · obtain ⟨rfl, hf⟩ := hs
    refine ⟨.inl (), ?_, Or.inl ⟨rfl, ?_⟩⟩
    · unfold ways_first_L1
      simp only [Int.lt_irrefl, decide_false, cond_false]
    · rw [← hf, List.drop_length]
      rfl
/-- what is compiled -/
def editsB (p : api_Profile) : Bool := bif p.Edit == 2 then p.Within == 0 else false
def longS (p : api_Profile) : api_Way := bif decide (1 < p.Parts) then firstS [⟨decide (4400 ≤ IntKind.i64.wrap (p.Size * p.Parts)), ⟨1, 1⟩⟩, ⟨decide (1 < p.Parts), ⟨4, 1⟩⟩, ⟨true, ⟨4, 0⟩⟩] else firstS [⟨false, ⟨1, 1⟩⟩, ⟨decide (1 < p.Parts), ⟨4, 1⟩⟩, ⟨true, ⟨4, 0⟩⟩]
def reactS' (p : api_Profile) : api_Way := bif p.React then firstS [⟨!decide (1 < p.Parts), ⟨0, 0⟩⟩, ⟨p.React, ⟨0, 1⟩⟩, ⟨true, ⟨3, 2⟩⟩] else firstS [⟨false, ⟨0, 0⟩⟩, ⟨p.React, ⟨0, 1⟩⟩, ⟨true, ⟨3, 2⟩⟩]
def compS (p : api_Profile) : List api_Way := [⟨0, 0⟩, longS p, firstS [⟨editsB p, ⟨0, 0⟩⟩, ⟨true, ⟨3, 2⟩⟩], firstS [⟨p.Delete != 0, ⟨0, 0⟩⟩, ⟨editsB p, ⟨2, 0⟩⟩, ⟨true, ⟨3, 2⟩⟩], reactS' p,
  firstS [⟨p.Thread == 2, ⟨0, 0⟩⟩, ⟨p.Thread == 1, ⟨2, 1⟩⟩, ⟨true, ⟨2, 2⟩⟩], firstS [⟨p.Quote, ⟨0, 0⟩⟩, ⟨true, ⟨2, 2⟩⟩], firstS [⟨p.Mention, ⟨0, 0⟩⟩, ⟨true, ⟨2, 2⟩⟩], firstS [⟨p.Files == 4, ⟨0, 0⟩⟩, ⟨decide (0 < p.Files), ⟨4, 1⟩⟩, ⟨true, ⟨2, 2⟩⟩]]
theorem compile_eq (p : api_Profile) (h : ProfOk p) : ways_Compile p = some (bif chk p != 0 then ([], chk p) else (compS p, 0)) := by
  unfold ways_Compile
  rw [profile_Check_eq p h, bind_s]
  cases chk p != 0
  · simp only [cond_false]
    have f2 : ∀ a b, ways_first [a, b] = some (firstS [a, b]) := fun a b => first_eq _ (by simp)
    have f3 : ∀ a b c, ways_first [a, b, c] = some (firstS [a, b, c]) := fun a b c => first_eq _ (by simp)
    have e1 : (bif (p.Edit == (2 : Int)) then (some (.inl (p.Within == (0 : Int))) : Option (Bool ⊕ (List api_Way × Int))) else some (.inl false)) = some (.inl (editsB p)) := by
      unfold editsB
      cases p.Edit == 2 <;> rfl
    rw [e1, seqF_l]
    simp only [f2, f3, bind_s]
    unfold compS longS reactS'
    cases decide (1 < p.Parts)
    · cases p.React
      · rfl
      · rfl
    · cases p.React
      · rfl
      · rfl
  · rfl
end Go.Proofs.YtljdbikodogeiaaDoor

/-
  Profiles: what profile.Check and its reference compute (plain law).
-/
import Derived.Test.YtljdbikodogeiaaDoorA3
namespace Go.Proofs.YtljdbikodogeiaaDoor
open Go.RowKit
def noB : ByteArray := ByteArray.mk #[]
/-- an item that stands before, too -/
def oneS (l : List ByteArray) (i : Nat) : Bool := !((l.take i).any fun y => (l.getD i noB).toList == y.toList)
def dupS (l : List ByteArray) : Bool := !((List.range l.length).all (oneS l))
theorem profile_L (p : api_Profile) (ht : p.Types.length ≤ maxLen) (body : Int → Option (Int ⊕ (Unit ⊕ Int))) (hbody : body = profile_Check_L1 p ∨ body = profile_Check_L2 p) : loopF body 0 = some (bif (List.range p.Types.length).all (oneS p.Types) then (.inl () : Unit ⊕ Int) else .inr 5) := by
  unfold maxLen at ht
  refine loopF_idx p.Types.length (oneS p.Types) 5 (fun i hi => ?_) ?_
  · have hw : IntKind.i64.wrap ((i : Int) + 1) = (i : Int) + 1 := wrap64 (by omega) (by omega)
    have hlt : ((i : Int) < (p.Types.length : Int)) := by omega
    have hc : cutO (0 : Int) (i : Int) (p.Types.length : Int) = true := by
      simp only [cutO, Bool.and_eq_true, decide_eq_true_eq]
      omega
    have hcon := contS (List.take i p.Types) (by simp only [List.length_take, maxLen]; omega) (p.Types.getD i noB)
    rcases hbody with rfl | rfl
    all_goals
      first | unfold profile_Check_L1 | unfold profile_Check_L2
      simp only [hlt, decide_true, cond_true, hw, hc, chkO_true, Int.toNat_natCast, Int.toNat_zero, List.drop_zero]
      rw [bind_some_of (getI_in noB hi), bind_some_of hcon]
      unfold oneS
      cases (List.take i p.Types).any fun y => (p.Types.getD i noB).toList == y.toList <;> rfl
  · rcases hbody with rfl | rfl
    · unfold profile_Check_L1
      simp only [Int.lt_irrefl, decide_false, cond_false]
    · unfold profile_Check_L2
      simp only [Int.lt_irrefl, decide_false, cond_false]
def rngP (p : api_Profile) : Bool :=
  rangeB 40 4000 p.Size && rangeB 1 20 p.Parts && decide (p.Files ≤ 4) && decide (p.Bytes ≤ 65536) && decide (1 ≤ p.Rate) && (p.Down == 0 || decide (p.Down < p.Window)) && ((p.Files == 0) == (p.Bytes == 0)) && ((p.Files == 0) == ((p.Types.length : Int) == 0))
/-- what the check of a profile says -/
def chk (p : api_Profile) : Int := bif profB p then (bif rngP p then (bif dupS p.Types then 5 else 0) else 3) else 1
structure ProfOk (p : api_Profile) : Prop where
  name : p.Name.size ≤ maxLen
  types : p.Types.length ≤ maxLen
  each : ∀ t ∈ p.Types, t.size ≤ maxLen
theorem not_lt_le (a b : Int) : decide (a < b) = !decide (b ≤ a) := by
  by_cases h : b ≤ a
  · have : ¬ a < b := by omega
    simp [h, this]
  · have : a < b := by omega
    simp [h, this]
theorem profile_Check_eq (p : api_Profile) (h : ProfOk p) : profile_Check p = some (chk p) := by
  unfold profile_Check chk
  rw [syntax_Right_eq p h.name h.types h.each, bind_some_of rfl]
  cases profB p
  · rfl
  · simp only [Bool.not_true, cond_false, cond_true]
    unfold profile_within profile_together rngP rangeB
    rw [profile_L p h.types _ (Or.inl rfl), profile_L p h.types _ (Or.inr rfl)]
    have e : dupS p.Types = !((List.range p.Types.length).all (oneS p.Types)) := rfl
    rw [e]
    generalize (List.range p.Types.length).all (oneS p.Types) = b0
    rw [not_lt_le 4 p.Files, not_lt_le 65536 p.Bytes, not_lt_le p.Rate 1, show decide (p.Window ≤ p.Down) = !decide (p.Down < p.Window) by rw [not_lt_le, Bool.not_not]]
    have hne : ∀ a b : Int, (a != b) = !(a == b) := fun a b => rfl
    simp only [hne]
    generalize decide (40 ≤ p.Size) = b1
    generalize decide (p.Size ≤ 4000) = b2
    generalize decide (1 ≤ p.Parts) = b3
    generalize decide (p.Parts ≤ 20) = b4
    generalize decide (p.Files ≤ 4) = b5
    generalize decide (p.Bytes ≤ 65536) = b6
    generalize decide (1 ≤ p.Rate) = b7
    generalize (p.Down == 0) = b8
    generalize decide (p.Down < p.Window) = b9
    generalize (p.Files == 0) = b10
    generalize (p.Bytes == 0) = b11
    generalize ((p.Types.length : Int) == 0) = b12
    cases b1 <;> cases b2 <;> simp <;> cases b3 <;> cases b4 <;> simp <;> cases b5 <;> cases b6 <;> simp <;> cases b7 <;> simp <;> cases b8 <;> cases b9 <;> simp <;> cases b10 <;> cases b11 <;> cases b12 <;> simp <;> cases b0 <;> rfl
end Go.Proofs.YtljdbikodogeiaaDoor

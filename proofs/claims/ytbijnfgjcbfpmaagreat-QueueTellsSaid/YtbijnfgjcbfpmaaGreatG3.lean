/-
  Plain programs of functions, and that the functions do what they say. Printed by wip/tools/gen.py.
-/
import Derived.Test.YtbijnfgjcbfpmaaGreatG2
namespace Go.Proofs.YtbijnfgjcbfpmaaGreat
open Go.RowKit
attribute [local irreducible] IntKind.wrap AW runL Step.wp
set_option linter.unusedVariables false
set_option maxHeartbeats 4000000
set_option maxRecDepth 100000
noncomputable def ref11_digit (c_ : Int) : Option (Bool) :=
  (bif (decide ((48 : Int) ≤ c_)) then
    some (decide (c_ ≤ (57 : Int)))
  else
    some false)
theorem ref11_digit_fn {c_ : Int} {r : Bool} (h : ref11_digit c_ = some r) : Fn Tryz.prog 99 [.d (.v (.int .u8 c_))] (VB r) := by
  refine Fn.of_AW (F := FnX Tryz.prog) (base := 0) (js := []) mixed tok noeqs (fun _ _ _ h => h) Tryz.call99 Tryz.func99 rfl Tryz.ntmps99 (by rw [Tryz.results99]) (by simp) ?_; have hG : (fun x => x = r) r := rfl; unfold ref11_digit at h; refine Zap 10 rfl ?_; refine YT rfl rfl rfl h (fun _ h => ?_) (fun _ h => ?_)
  · refine Zwb 7 rfl ?_; cases h; cases hG; exact ⟨rfl, trivial⟩
  · refine Zpb 6 rfl ?_; cases h; cases hG; exact ⟨rfl, trivial⟩
noncomputable def ref11_Word_L1 (s_ : ByteArray) (s3 : Int) : Option ((Int) ⊕ ((Unit) ⊕ (Bool))) :=
  (bif (decide (s3 < (s_.size : Int))) then
    (chkO (decide (0 ≤ s3) && decide (s3 < (s_.size : Int)))).bind fun _ =>
    (ref11_letter ((s_.data.toList.getD s3.toNat 0).toNat : Int)).bind fun y102 =>
    (bif (!y102) then
      (ref11_digit ((s_.data.toList.getD s3.toNat 0).toNat : Int)).bind fun y104 =>
      (bif (!y104) then
        some (.inr (.inr false))
      else
        some (.inl (IntKind.i64.wrap (s3 + (1 : Int)))))
    else
      some (.inl (IntKind.i64.wrap (s3 + (1 : Int)))))
  else
    some (.inr (.inl ())))
noncomputable def ref11_Word (s_ : ByteArray) : Option (Bool) :=
  (bif (decide ((s_.size : Int) < (1 : Int))) then
    some false
  else
    (bif (decide ((20 : Int) < (s_.size : Int))) then
      some false
    else
      (chkO (decide (0 ≤ (0 : Int)) && decide ((0 : Int) < (s_.size : Int)))).bind fun _ =>
      (ref11_letter ((s_.data.toList.getD (0 : Int).toNat 0).toNat : Int)).bind fun y8 =>
      (bif (!y8) then
        some false
      else
        (seqF (A := Unit) (
          loopF (ref11_Word_L1 s_) (1 : Int))
        fun s2 =>
          some true))))
theorem ref11_Word_fn {s_ : ByteArray} {r : Bool} (h : ref11_Word s_ = some r) : Fn Tryz.prog 75 [VS s_] (VB r) := by
  refine Fn.of_AW (F := FnX Tryz.prog) (base := 0) (js := [8]) mixed tok noeqs (fun _ _ _ h => h) Tryz.call75 Tryz.func75 rfl Tryz.ntmps75 (by rw [Tryz.results75]) (by simp) ?_; have hG : (fun x => x = r) r := rfl; unfold ref11_Word at h; refine Zap 12 rfl ?_; refine YF rfl rfl rfl h (fun _ h => ?_) (fun _ h => ?_)
  · refine Zpb 19 rfl ?_; cases h; cases hG; exact ⟨rfl, trivial⟩
  · refine Zwp 5 rfl ?_; refine YF rfl rfl rfl h (fun _ h => ?_) (fun _ h => ?_)
    · refine Zpb 14 rfl ?_; cases h; cases hG; exact ⟨rfl, trivial⟩
    · refine Zwp 1 rfl ?_; refine Y2 rfl rfl rfl ?_; refine chkK h fun g7 h => ?_; refine W.chk rfl (by simpa using g7) ?_; refine W.det (.d (.v (.int .u8 ((s_.data.toList.getD (0 : Int).toNat 0).toNat : Int)))) _ rfl ?_; refine Y2 rfl rfl rfl ?_; refine bindK h fun y8 hy8 h => ?_; refine W.call rfl (ref11_letter_fn hy8) ?_; refine Zwc 5 rfl ?_; refine A.condB rfl h (fun _ h => ?_) (fun _ h => ?_)
      · refine Zcb 7 rfl ?_; cases h; cases hG; exact ⟨rfl, trivial⟩
      · refine Zcc 2 rfl ?_; refine A.join (fun (s2 : Unit) => []) (fun s2 => []) _ h hG rfl ?_ ?_
        · intro J f h hG; refine Zac 6 rfl ?_; refine A.loop (fun (s3 : Int) => [(0, VS s_), (3, VI s3)]) (fun s3 => []) _ h hG (Zf [] [] rfl rfl (Ze rfl rfl (Ze rfl rfl trivial)) trivial) ?_; intro J s3 f h hG; unfold ref11_Word_L1 at h; refine Zac 9 rfl ?_; refine A.condB rfl h (fun _ h => ?_) (fun _ h => ?_)
          · refine Zcp 8 rfl ?_; refine Y1 rfl ?_; refine chkK h fun g101 h => ?_; refine W.chk rfl (by simpa using g101) ?_; refine W.det (.d (.v (.int .u8 ((s_.data.toList.getD s3.toNat 0).toNat : Int)))) _ rfl ?_; refine Y1 rfl ?_; refine bindK h fun y102 hy102 h => ?_; refine W.call rfl (ref11_letter_fn hy102) ?_; refine Zwp 3 rfl ?_; refine YT rfl rfl rfl h (fun _ h => ?_) (fun _ h => ?_)
            · refine Zwp 2 rfl ?_; refine Y2 rfl rfl rfl ?_; refine W.chk rfl (by simpa using g101) ?_; refine W.det (.d (.v (.int .u8 ((s_.data.toList.getD s3.toNat 0).toNat : Int)))) _ rfl ?_; refine Y2 rfl rfl rfl ?_; refine bindK h fun y104 hy104 h => ?_; refine W.call rfl (ref11_digit_fn hy104) ?_; refine Zwc 5 rfl ?_; refine A.condB rfl h (fun _ h => ?_) (fun _ h => ?_)
              · refine Zcb 8 rfl ?_; refine headK.r ?_; refine Zob 1 rfl ?_; refine headK.r ?_; cases h; cases hG; exact ⟨rfl, trivial⟩
              · refine Zcb 8 rfl ?_; cases h; exact Zh hG [] [] rfl rfl (Ze rfl rfl (Ze rfl rfl trivial)) trivial
            · refine Zpb 16 rfl ?_; cases h; exact Zh hG [] [] rfl rfl (Ze rfl rfl (Ze rfl rfl trivial)) trivial
          · refine Zcb 2 rfl ?_; refine headK.e ?_; refine Zob 1 rfl ?_; cases h; exact Zh hG [] [] rfl rfl trivial trivial
        · intro s2 r2 h hG; refine Zcb 6 rfl ?_; cases h; cases hG; exact ⟨rfl, trivial⟩
noncomputable def ref12_Right_L1 (p_ : api_Profile) (s6 : Int) : Option ((Int) ⊕ ((Unit) ⊕ (Bool))) :=
  (bif (decide (s6 < (p_.Types.length : Int))) then
    (getI p_.Types s6).bind fun x69 =>
    (ref11_Word x69).bind fun y70 =>
    (bif (!y70) then
      some (.inr (.inr false))
    else
      some (.inl (IntKind.i64.wrap (s6 + (1 : Int)))))
  else
    some (.inr (.inl ())))
noncomputable def ref12_Right (p_ : api_Profile) : Option (Bool) :=
  (seqF (A := Bool) (
    (bif (p_.Edit == (0 : Int)) then
      (ref12_within p_.Delete (0 : Int) (2 : Int)).bind fun y13 =>
      (bif y13 then
        (ref12_within p_.Thread (0 : Int) (2 : Int)).bind fun y14 =>
        (bif y14 then
          (ref12_within p_.Join (0 : Int) (2 : Int)).bind fun y15 =>
          (bif y15 then
            (ref12_within p_.History (0 : Int) (1 : Int)).bind fun y16 =>
            (bif y16 then
              (ref12_within p_.Remove (0 : Int) (1 : Int)).bind fun y17 =>
              (bif y17 then
                (ref12_within p_.Level (0 : Int) (4 : Int)).bind fun y18 =>
                some (.inl y18)
              else
                some (.inl false))
            else
              some (.inl false))
          else
            some (.inl false))
        else
          some (.inl false))
      else
        some (.inl false))
    else
      (bif (p_.Edit == (2 : Int)) then
        (ref12_within p_.Delete (0 : Int) (2 : Int)).bind fun y19 =>
        (bif y19 then
          (ref12_within p_.Thread (0 : Int) (2 : Int)).bind fun y20 =>
          (bif y20 then
            (ref12_within p_.Join (0 : Int) (2 : Int)).bind fun y21 =>
            (bif y21 then
              (ref12_within p_.History (0 : Int) (1 : Int)).bind fun y22 =>
              (bif y22 then
                (ref12_within p_.Remove (0 : Int) (1 : Int)).bind fun y23 =>
                (bif y23 then
                  (ref12_within p_.Level (0 : Int) (4 : Int)).bind fun y24 =>
                  some (.inl y24)
                else
                  some (.inl false))
              else
                some (.inl false))
            else
              some (.inl false))
          else
            some (.inl false))
        else
          some (.inl false))
      else
        some (.inl false))))
  fun s1 =>
    (seqF (A := Bool) (
      (ref12_within p_.Within (0 : Int) (1073741824 : Int)).bind fun y34 =>
      (bif y34 then
        (ref12_within p_.Size (0 : Int) (1073741824 : Int)).bind fun y35 =>
        (bif y35 then
          (ref12_within p_.Parts (0 : Int) (1073741824 : Int)).bind fun y36 =>
          (bif y36 then
            (ref12_within p_.Files (0 : Int) (1073741824 : Int)).bind fun y37 =>
            (bif y37 then
              (ref12_within p_.Bytes (0 : Int) (1073741824 : Int)).bind fun y38 =>
              (bif y38 then
                (ref12_within p_.Rate (0 : Int) (1073741824 : Int)).bind fun y39 =>
                (bif y39 then
                  (ref12_within p_.Down (0 : Int) (1073741824 : Int)).bind fun y40 =>
                  (bif y40 then
                    (ref12_within p_.Window (0 : Int) (1073741824 : Int)).bind fun y41 =>
                    (bif y41 then
                      (ref12_within p_.Keep (0 : Int) (1073741824 : Int)).bind fun y42 =>
                      some (.inl y42)
                    else
                      some (.inl false))
                  else
                    some (.inl false))
                else
                  some (.inl false))
              else
                some (.inl false))
            else
              some (.inl false))
          else
            some (.inl false))
        else
          some (.inl false))
      else
        some (.inl false)))
    fun s2 =>
      (seqF (A := Unit) (
        (bif (!s1) then
          some (.inr false)
        else
          (bif (!s2) then
            some (.inr false)
          else
            (ref11_Word p_.Name).bind fun y46 =>
            (bif (!y46) then
              some (.inr false)
            else
              (bif (p_.Edit == (0 : Int)) then
                (bif (p_.Within != (0 : Int)) then
                  some (.inr false)
                else
                  some (.inl ()))
              else
                some (.inl ()))))))
      fun s3 =>
        (bif (p_.Files == (0 : Int)) then
          (bif (p_.Bytes == (0 : Int)) then
            some ((p_.Types.length : Int) == (0 : Int))
          else
            some false)
        else
          (bif (decide ((p_.Types.length : Int) < (1 : Int))) then
            some false
          else
            (bif (decide ((20 : Int) < (p_.Types.length : Int))) then
              some false
            else
              (seqF (A := Unit) (
                loopF (ref12_Right_L1 p_) (0 : Int))
              fun s5 =>
                some true)))))))
theorem ref12_Right_fn {p_ : api_Profile} {r : Bool} (h : ref12_Right p_ = some r) : Fn Tryz.prog 51 [.agg (api_Profile.av p_)] (VB r) := by
  refine Fn.of_AW (F := FnX Tryz.prog) (base := 0) (js := [2, 3, 5, 14]) mixed tok noeqs (fun _ _ _ h => h) Tryz.call51 Tryz.func51 rfl Tryz.ntmps51 (by rw [Tryz.results51]) (by simp) ?_; have hG : (fun x => x = r) r := rfl; unfold ref12_Right at h; refine Zap 2 rfl ?_; refine Zm (.lp 1 1 0) (Mem.add _ 1 (.box (api_Profile.av p_))) rfl rfl ?_; refine Zpc 3 rfl ?_; refine A.join (fun (s1 : Bool) => [(1, .lp 900000 1 0), (3, VB s1)]) (fun s1 => [(900000, .box (api_Profile.av p_))]) _ h hG rfl ?_ ?_
  · intro J f h hG; refine Zap 5 rfl ?_; refine YF rfl rfl rfl h (fun _ h => ?_) (fun _ h => ?_)
    · refine Zpp 6 rfl ?_; refine Y2 rfl rfl rfl ?_; refine bindK h fun y13 hy13 h => ?_; refine W.call rfl (ref12_within_fn hy13) ?_; refine Zwp 3 rfl ?_; refine YT rfl rfl rfl h (fun _ h => ?_) (fun _ h => ?_)
      · refine Zwp 2 rfl ?_; refine Y2 rfl rfl rfl ?_; refine bindK h fun y14 hy14 h => ?_; refine W.call rfl (ref12_within_fn hy14) ?_; refine Zwp 3 rfl ?_; refine YT rfl rfl rfl h (fun _ h => ?_) (fun _ h => ?_)
        · refine Zwp 2 rfl ?_; refine Y2 rfl rfl rfl ?_; refine bindK h fun y15 hy15 h => ?_; refine W.call rfl (ref12_within_fn hy15) ?_; refine Zwp 3 rfl ?_; refine YT rfl rfl rfl h (fun _ h => ?_) (fun _ h => ?_)
          · refine Zwp 2 rfl ?_; refine Y2 rfl rfl rfl ?_; refine bindK h fun y16 hy16 h => ?_; refine W.call rfl (ref12_within_fn hy16) ?_; refine Zwp 3 rfl ?_; refine YT rfl rfl rfl h (fun _ h => ?_) (fun _ h => ?_)
            · refine Zwp 2 rfl ?_; refine Y2 rfl rfl rfl ?_; refine bindK h fun y17 hy17 h => ?_; refine W.call rfl (ref12_within_fn hy17) ?_; refine Zwp 3 rfl ?_; refine YT rfl rfl rfl h (fun _ h => ?_) (fun _ h => ?_)
              · refine Zwp 2 rfl ?_; refine Y2 rfl rfl rfl ?_; refine bindK h fun y18 hy18 h => ?_; refine W.call rfl (ref12_within_fn hy18) ?_; refine Zwb 4 rfl ?_; cases h; exact Zh hG [] [(900000, (1, 1))] rfl rfl (Ze rfl rfl (Ze rfl rfl trivial)) (Zc rfl rfl trivial)
              · refine Zpb 5 rfl ?_; cases h; exact Zh hG [] [(900000, (1, 1))] rfl rfl (Ze rfl rfl (Ze rfl rfl trivial)) (Zc rfl rfl trivial)
            · refine Zpb 10 rfl ?_; cases h; exact Zh hG [] [(900000, (1, 1))] rfl rfl (Ze rfl rfl (Ze rfl rfl trivial)) (Zc rfl rfl trivial)
          · refine Zpb 15 rfl ?_; cases h; exact Zh hG [] [(900000, (1, 1))] rfl rfl (Ze rfl rfl (Ze rfl rfl trivial)) (Zc rfl rfl trivial)
        · refine Zpb 20 rfl ?_; cases h; exact Zh hG [] [(900000, (1, 1))] rfl rfl (Ze rfl rfl (Ze rfl rfl trivial)) (Zc rfl rfl trivial)
      · refine Zpb 25 rfl ?_; cases h; exact Zh hG [] [(900000, (1, 1))] rfl rfl (Ze rfl rfl (Ze rfl rfl trivial)) (Zc rfl rfl trivial)
    · refine Zwp 5 rfl ?_; refine YT rfl rfl rfl h (fun _ h => ?_) (fun _ h => ?_)
      · refine Zwp 2 rfl ?_; refine Y2 rfl rfl rfl ?_; refine bindK h fun y19 hy19 h => ?_; refine W.call rfl (ref12_within_fn hy19) ?_; refine Zwp 3 rfl ?_; refine YT rfl rfl rfl h (fun _ h => ?_) (fun _ h => ?_)
        · refine Zwp 2 rfl ?_; refine Y2 rfl rfl rfl ?_; refine bindK h fun y20 hy20 h => ?_; refine W.call rfl (ref12_within_fn hy20) ?_; refine Zwp 3 rfl ?_; refine YT rfl rfl rfl h (fun _ h => ?_) (fun _ h => ?_)
          · refine Zwp 2 rfl ?_; refine Y2 rfl rfl rfl ?_; refine bindK h fun y21 hy21 h => ?_; refine W.call rfl (ref12_within_fn hy21) ?_; refine Zwp 3 rfl ?_; refine YT rfl rfl rfl h (fun _ h => ?_) (fun _ h => ?_)
            · refine Zwp 2 rfl ?_; refine Y2 rfl rfl rfl ?_; refine bindK h fun y22 hy22 h => ?_; refine W.call rfl (ref12_within_fn hy22) ?_; refine Zwp 3 rfl ?_; refine YT rfl rfl rfl h (fun _ h => ?_) (fun _ h => ?_)
              · refine Zwp 2 rfl ?_; refine Y2 rfl rfl rfl ?_; refine bindK h fun y23 hy23 h => ?_; refine W.call rfl (ref12_within_fn hy23) ?_; refine Zwp 3 rfl ?_; refine YT rfl rfl rfl h (fun _ h => ?_) (fun _ h => ?_)
                · refine Zwp 2 rfl ?_; refine Y2 rfl rfl rfl ?_; refine bindK h fun y24 hy24 h => ?_; refine W.call rfl (ref12_within_fn hy24) ?_; refine Zwb 4 rfl ?_; cases h; exact Zh hG [] [(900000, (1, 1))] rfl rfl (Ze rfl rfl (Ze rfl rfl trivial)) (Zc rfl rfl trivial)
                · refine Zpb 5 rfl ?_; cases h; exact Zh hG [] [(900000, (1, 1))] rfl rfl (Ze rfl rfl (Ze rfl rfl trivial)) (Zc rfl rfl trivial)
              · refine Zpb 10 rfl ?_; cases h; exact Zh hG [] [(900000, (1, 1))] rfl rfl (Ze rfl rfl (Ze rfl rfl trivial)) (Zc rfl rfl trivial)
            · refine Zpb 15 rfl ?_; cases h; exact Zh hG [] [(900000, (1, 1))] rfl rfl (Ze rfl rfl (Ze rfl rfl trivial)) (Zc rfl rfl trivial)
          · refine Zpb 20 rfl ?_; cases h; exact Zh hG [] [(900000, (1, 1))] rfl rfl (Ze rfl rfl (Ze rfl rfl trivial)) (Zc rfl rfl trivial)
        · refine Zpb 25 rfl ?_; cases h; exact Zh hG [] [(900000, (1, 1))] rfl rfl (Ze rfl rfl (Ze rfl rfl trivial)) (Zc rfl rfl trivial)
      · refine Zpb 30 rfl ?_; cases h; exact Zh hG [] [(900000, (1, 1))] rfl rfl (Ze rfl rfl (Ze rfl rfl trivial)) (Zc rfl rfl trivial)
  · intro s1 r2 h hG; refine A.join (fun (s2 : Bool) => [(1, .lp 900000 1 0), (3, VB s1), (4, VB s2)]) (fun s2 => [(900000, .box (api_Profile.av p_))]) _ h hG rfl ?_ ?_
    · intro J f h hG; refine Zap 3 rfl ?_; refine Y1 rfl ?_; refine bindK h fun y34 hy34 h => ?_; refine W.call rfl (ref12_within_fn hy34) ?_; refine Zwp 2 rfl ?_; refine YT rfl rfl rfl h (fun _ h => ?_) (fun _ h => ?_)
      · refine Zwp 2 rfl ?_; refine Y2 rfl rfl rfl ?_; refine bindK h fun y35 hy35 h => ?_; refine W.call rfl (ref12_within_fn hy35) ?_; refine Zwp 3 rfl ?_; refine YT rfl rfl rfl h (fun _ h => ?_) (fun _ h => ?_)
        · refine Zwp 2 rfl ?_; refine Y2 rfl rfl rfl ?_; refine bindK h fun y36 hy36 h => ?_; refine W.call rfl (ref12_within_fn hy36) ?_; refine Zwp 3 rfl ?_; refine YT rfl rfl rfl h (fun _ h => ?_) (fun _ h => ?_)
          · refine Zwp 2 rfl ?_; refine Y2 rfl rfl rfl ?_; refine bindK h fun y37 hy37 h => ?_; refine W.call rfl (ref12_within_fn hy37) ?_; refine Zwp 3 rfl ?_; refine YT rfl rfl rfl h (fun _ h => ?_) (fun _ h => ?_)
            · refine Zwp 2 rfl ?_; refine Y2 rfl rfl rfl ?_; refine bindK h fun y38 hy38 h => ?_; refine W.call rfl (ref12_within_fn hy38) ?_; refine Zwp 3 rfl ?_; refine YT rfl rfl rfl h (fun _ h => ?_) (fun _ h => ?_)
              · refine Zwp 2 rfl ?_; refine Y2 rfl rfl rfl ?_; refine bindK h fun y39 hy39 h => ?_; refine W.call rfl (ref12_within_fn hy39) ?_; refine Zwp 3 rfl ?_; refine YT rfl rfl rfl h (fun _ h => ?_) (fun _ h => ?_)
                · refine Zwp 2 rfl ?_; refine Y2 rfl rfl rfl ?_; refine bindK h fun y40 hy40 h => ?_; refine W.call rfl (ref12_within_fn hy40) ?_; refine Zwp 3 rfl ?_; refine YT rfl rfl rfl h (fun _ h => ?_) (fun _ h => ?_)
                  · refine Zwp 2 rfl ?_; refine Y2 rfl rfl rfl ?_; refine bindK h fun y41 hy41 h => ?_; refine W.call rfl (ref12_within_fn hy41) ?_; refine Zwp 3 rfl ?_; refine YT rfl rfl rfl h (fun _ h => ?_) (fun _ h => ?_)
                    · refine Zwp 2 rfl ?_; refine Y2 rfl rfl rfl ?_; refine bindK h fun y42 hy42 h => ?_; refine W.call rfl (ref12_within_fn hy42) ?_; refine Zwb 4 rfl ?_; cases h; exact Zh hG [] [(900000, (900000, 1))] rfl rfl (Ze rfl rfl (Ze rfl rfl (Ze rfl rfl trivial))) (Zc rfl rfl trivial)
                    · refine Zpb 5 rfl ?_; cases h; exact Zh hG [] [(900000, (900000, 1))] rfl rfl (Ze rfl rfl (Ze rfl rfl (Ze rfl rfl trivial))) (Zc rfl rfl trivial)
                  · refine Zpb 10 rfl ?_; cases h; exact Zh hG [] [(900000, (900000, 1))] rfl rfl (Ze rfl rfl (Ze rfl rfl (Ze rfl rfl trivial))) (Zc rfl rfl trivial)
                · refine Zpb 15 rfl ?_; cases h; exact Zh hG [] [(900000, (900000, 1))] rfl rfl (Ze rfl rfl (Ze rfl rfl (Ze rfl rfl trivial))) (Zc rfl rfl trivial)
              · refine Zpb 20 rfl ?_; cases h; exact Zh hG [] [(900000, (900000, 1))] rfl rfl (Ze rfl rfl (Ze rfl rfl (Ze rfl rfl trivial))) (Zc rfl rfl trivial)
            · refine Zpb 25 rfl ?_; cases h; exact Zh hG [] [(900000, (900000, 1))] rfl rfl (Ze rfl rfl (Ze rfl rfl (Ze rfl rfl trivial))) (Zc rfl rfl trivial)
          · refine Zpb 30 rfl ?_; cases h; exact Zh hG [] [(900000, (900000, 1))] rfl rfl (Ze rfl rfl (Ze rfl rfl (Ze rfl rfl trivial))) (Zc rfl rfl trivial)
        · refine Zpb 35 rfl ?_; cases h; exact Zh hG [] [(900000, (900000, 1))] rfl rfl (Ze rfl rfl (Ze rfl rfl (Ze rfl rfl trivial))) (Zc rfl rfl trivial)
      · refine Zpb 40 rfl ?_; cases h; exact Zh hG [] [(900000, (900000, 1))] rfl rfl (Ze rfl rfl (Ze rfl rfl (Ze rfl rfl trivial))) (Zc rfl rfl trivial)
    · intro s2 r2 h hG; refine A.join (fun (s3 : Unit) => [(1, .lp 900000 1 0)]) (fun s3 => [(900000, .box (api_Profile.av p_))]) _ h hG rfl ?_ ?_
      · intro J f h hG; refine Zap 5 rfl ?_; refine YF rfl rfl rfl h (fun _ h => ?_) (fun _ h => ?_)
        · refine Zpb 27 rfl ?_; refine headK.r ?_; cases h; cases hG; exact ⟨rfl, trivial⟩
        · refine Zwp 4 rfl ?_; refine YF rfl rfl rfl h (fun _ h => ?_) (fun _ h => ?_)
          · refine Zpb 23 rfl ?_; refine headK.r ?_; cases h; cases hG; exact ⟨rfl, trivial⟩
          · refine Zwp 2 rfl ?_; refine Y2 rfl rfl rfl ?_; refine bindK h fun y46 hy46 h => ?_; refine W.call rfl (ref11_Word_fn hy46) ?_; refine Zwp 4 rfl ?_; refine YF rfl rfl rfl h (fun _ h => ?_) (fun _ h => ?_)
            · refine Zpb 17 rfl ?_; refine headK.r ?_; cases h; cases hG; exact ⟨rfl, trivial⟩
            · refine Zwp 4 rfl ?_; refine YT rfl rfl rfl h (fun _ h => ?_) (fun _ h => ?_)
              · refine Zwc 7 rfl ?_; refine A.condB rfl h (fun _ h => ?_) (fun _ h => ?_)
                · refine Zcb 6 rfl ?_; refine headK.r ?_; cases h; cases hG; exact ⟨rfl, trivial⟩
                · refine Zcb 1 rfl ?_; cases h; exact Zh hG [] [(900000, (900000, 1))] rfl rfl (Ze rfl rfl trivial) (Zc rfl rfl trivial)
              · refine Zpb 8 rfl ?_; cases h; exact Zh hG [] [(900000, (900000, 1))] rfl rfl (Ze rfl rfl trivial) (Zc rfl rfl trivial)
      · intro s3 r2 h hG; refine Zcc 8 rfl ?_; refine A.condB rfl h (fun _ h => ?_) (fun _ h => ?_)
        · refine Zcp 6 rfl ?_; refine YT rfl rfl rfl h (fun _ h => ?_) (fun _ h => ?_)
          · refine Zwp 2 rfl ?_; refine Y2 rfl rfl rfl ?_; refine W.len rfl ?_; refine Zpb 7 rfl ?_; cases h; cases hG; exact ⟨rfl, trivial⟩
          · refine Zpb 9 rfl ?_; cases h; cases hG; exact ⟨rfl, trivial⟩
        · refine Zcp 7 rfl ?_; refine Y1 rfl ?_; refine W.len rfl ?_; refine Zpp 2 rfl ?_; refine YF rfl rfl rfl h (fun _ h => ?_) (fun _ h => ?_)
          · refine Zpb 14 rfl ?_; cases h; cases hG; exact ⟨rfl, trivial⟩
          · refine Zwp 2 rfl ?_; refine Y2 rfl rfl rfl ?_; refine W.len rfl ?_; refine Zpc 4 rfl ?_; refine A.condB rfl h (fun _ h => ?_) (fun _ h => ?_)
            · refine Zcb 7 rfl ?_; cases h; cases hG; exact ⟨rfl, trivial⟩
            · refine Zcc 2 rfl ?_; refine A.join (fun (s5 : Unit) => []) (fun s5 => []) _ h hG rfl ?_ ?_
              · intro J f h hG; refine Zac 6 rfl ?_; refine A.loop (fun (s6 : Int) => [(1, .lp 900000 1 0), (5, VI s6)]) (fun s6 => [(900000, .box (api_Profile.av p_))]) _ h hG (Zf [] [(900000, (900000, 1))] rfl rfl (Ze rfl rfl (Ze rfl rfl trivial)) (Zc rfl rfl trivial)) ?_; intro J s6 f h hG; unfold ref12_Right_L1 at h; refine Zap 6 rfl ?_; refine Y1 rfl ?_; refine W.len rfl ?_; refine Zpc 3 rfl ?_; refine A.condB rfl h (fun _ h => ?_) (fun _ h => ?_)
                · refine Zcp 9 rfl ?_; refine Y1 rfl ?_; refine bindK h fun x69 hx69 h => ?_; refine W.chk rfl (elemB hx69) ?_; refine W.elem rfl (elemG hx69) ?_; refine W.chk rfl rfl ?_; refine W.det (.fp [.v (.string x69)]) _ rfl ?_; refine Zpp 1 rfl ?_; refine Y1 rfl ?_; refine bindK h fun y70 hy70 h => ?_; refine W.call rfl (ref11_Word_fn hy70) ?_; refine Zwc 4 rfl ?_; refine A.condB rfl h (fun _ h => ?_) (fun _ h => ?_)
                  · refine Zcb 8 rfl ?_; refine headK.r ?_; refine Zob 1 rfl ?_; refine headK.r ?_; cases h; cases hG; exact ⟨rfl, trivial⟩
                  · refine Zcb 8 rfl ?_; cases h; exact Zh hG [] [(900000, (900000, 1))] rfl rfl (Ze rfl rfl (Ze rfl rfl trivial)) (Zc rfl rfl trivial)
                · refine Zcb 2 rfl ?_; refine headK.e ?_; refine Zob 1 rfl ?_; cases h; exact Zh hG [] [] rfl rfl trivial trivial
              · intro s5 r2 h hG; refine Zcb 6 rfl ?_; cases h; cases hG; exact ⟨rfl, trivial⟩
noncomputable def ref13_Check_L1 (s15 : (Int)) (p_ : api_Profile) (s24 : Int) : Option ((Int) ⊕ ((Unit) ⊕ ((Int) ⊕ ((Unit) ⊕ (Int))))) :=
  (bif (decide (s24 < s15)) then
    (getI p_.Types s15).bind fun x137 =>
    (getI p_.Types s24).bind fun x138 =>
    (bif (x137.toList == x138.toList) then
      some (.inr (.inr (.inr (.inr (5 : Int)))))
    else
      some (.inl (IntKind.i64.wrap (s24 + (1 : Int)))))
  else
    some (.inr (.inl ())))
noncomputable def ref13_Check_L2 (p_ : api_Profile) (s15 : Int) : Option ((Int) ⊕ ((Unit) ⊕ (Int))) :=
  (bif (decide (s15 < (p_.Types.length : Int))) then
    (seqF (A := Unit) (
      loopF (ref13_Check_L1 s15 p_) (0 : Int))
    fun s23 =>
      some (.inl (IntKind.i64.wrap (s15 + (1 : Int)))))
  else
    some (.inr (.inl ())))
noncomputable def ref13_Check (p_ : api_Profile) : Option (Int) :=
  (ref12_Right p_).bind fun y2 =>
  (bif (!y2) then
    some (1 : Int)
  else
    (bif (decide (p_.Size < (40 : Int))) then
      some (3 : Int)
    else
      (bif (decide ((4000 : Int) < p_.Size)) then
        some (3 : Int)
      else
        (bif (decide (p_.Parts < (1 : Int))) then
          some (3 : Int)
        else
          (bif (decide ((20 : Int) < p_.Parts)) then
            some (3 : Int)
          else
            (bif (decide ((4 : Int) < p_.Files)) then
              some (3 : Int)
            else
              (bif (decide ((65536 : Int) < p_.Bytes)) then
                some (3 : Int)
              else
                (seqF (A := Unit) (
                  (bif (decide (p_.Rate < (1 : Int))) then
                    some (.inr (3 : Int))
                  else
                    (bif (p_.Down != (0 : Int)) then
                      (bif (decide (p_.Window ≤ p_.Down)) then
                        some (.inr (3 : Int))
                      else
                        some (.inl ()))
                    else
                      some (.inl ()))))
                fun s1 =>
                  (seqF (A := Bool) (
                    (bif (p_.Files == (0 : Int)) then
                      (bif (p_.Bytes == (0 : Int)) then
                        some (.inl ((p_.Types.length : Int) == (0 : Int)))
                      else
                        some (.inl false))
                    else
                      some (.inl false)))
                  fun s2 =>
                    (seqF (A := Unit) (
                      (bif (!s2) then
                        (bif (p_.Files == (0 : Int)) then
                          some (.inr (3 : Int))
                        else
                          (bif (p_.Bytes == (0 : Int)) then
                            some (.inr (3 : Int))
                          else
                            (bif ((p_.Types.length : Int) == (0 : Int)) then
                              some (.inr (3 : Int))
                            else
                              some (.inl ()))))
                      else
                        some (.inl ())))
                    fun s3 =>
                      (seqF (A := Unit) (
                        loopF (ref13_Check_L2 p_) (0 : Int))
                      fun s14 =>
                        some (0 : Int))))))))))))
theorem ref13_Check_fn {p_ : api_Profile} {r : Int} (h : ref13_Check p_ = some r) : Fn Tryz.prog 32 [.agg (api_Profile.av p_)] (VI r) := by
  refine Fn.of_AW (F := FnX Tryz.prog) (base := 0) (js := [7, 8, 10, 12, 18]) mixed tok noeqs (fun _ _ _ h => h) Tryz.call32 Tryz.func32 rfl Tryz.ntmps32 (by rw [Tryz.results32]) (by simp) ?_; have hG : (fun x => x = r) r := rfl; unfold ref13_Check at h; refine Zap 2 rfl ?_; refine Zm (.lp 1 1 0) (Mem.add _ 1 (.box (api_Profile.av p_))) rfl rfl ?_; refine Zpp 6 rfl ?_; refine Zo (.agg (api_Profile.av p_)) rfl rfl ?_; refine Y1 rfl ?_; refine bindK h fun y2 hy2 h => ?_; refine W.call rfl (ref12_Right_fn hy2) ?_; refine Zwc 4 rfl ?_; refine A.condB rfl h (fun _ h => ?_) (fun _ h => ?_)
  · refine Zcb 7 rfl ?_; cases h; cases hG; exact ⟨rfl, trivial⟩
  · refine Zcp 9 rfl ?_; refine YF rfl rfl rfl h (fun _ h => ?_) (fun _ h => ?_)
    · refine Zpb 33 rfl ?_; cases h; cases hG; exact ⟨rfl, trivial⟩
    · refine Zwp 5 rfl ?_; refine YF rfl rfl rfl h (fun _ h => ?_) (fun _ h => ?_)
      · refine Zpb 28 rfl ?_; cases h; cases hG; exact ⟨rfl, trivial⟩
      · refine Zwp 5 rfl ?_; refine YF rfl rfl rfl h (fun _ h => ?_) (fun _ h => ?_)
        · refine Zpb 23 rfl ?_; cases h; cases hG; exact ⟨rfl, trivial⟩
        · refine Zwp 5 rfl ?_; refine YF rfl rfl rfl h (fun _ h => ?_) (fun _ h => ?_)
          · refine Zpb 18 rfl ?_; cases h; cases hG; exact ⟨rfl, trivial⟩
          · refine Zwp 5 rfl ?_; refine YF rfl rfl rfl h (fun _ h => ?_) (fun _ h => ?_)
            · refine Zpb 13 rfl ?_; cases h; cases hG; exact ⟨rfl, trivial⟩
            · refine Zwc 6 rfl ?_; refine A.condB rfl h (fun _ h => ?_) (fun _ h => ?_)
              · refine Zcb 7 rfl ?_; cases h; cases hG; exact ⟨rfl, trivial⟩
              · refine Zcc 2 rfl ?_; refine A.join (fun (s1 : Unit) => [(1, .lp 900000 1 0)]) (fun s1 => [(900000, .box (api_Profile.av p_))]) _ h hG rfl ?_ ?_
                · intro J f h hG; refine Zap 6 rfl ?_; refine YF rfl rfl rfl h (fun _ h => ?_) (fun _ h => ?_)
                  · refine Zpb 19 rfl ?_; refine headK.r ?_; cases h; cases hG; exact ⟨rfl, trivial⟩
                  · refine Zwp 4 rfl ?_; refine YT rfl rfl rfl h (fun _ h => ?_) (fun _ h => ?_)
                    · refine Zwc 9 rfl ?_; refine A.condB rfl h (fun _ h => ?_) (fun _ h => ?_)
                      · refine Zcb 6 rfl ?_; refine headK.r ?_; cases h; cases hG; exact ⟨rfl, trivial⟩
                      · refine Zcb 1 rfl ?_; cases h; exact Zh hG [] [(900000, (1, 1))] rfl rfl (Ze rfl rfl trivial) (Zc rfl rfl trivial)
                    · refine Zpb 10 rfl ?_; cases h; exact Zh hG [] [(900000, (1, 1))] rfl rfl (Ze rfl rfl trivial) (Zc rfl rfl trivial)
                · intro s1 r2 h hG; refine A.join (fun (s2 : Bool) => [(1, .lp 900000 1 0), (3, VB s2)]) (fun s2 => [(900000, .box (api_Profile.av p_))]) _ h hG rfl ?_ ?_
                  · intro J f h hG; refine Zap 5 rfl ?_; refine YT rfl rfl rfl h (fun _ h => ?_) (fun _ h => ?_)
                    · refine Zwp 5 rfl ?_; refine YT rfl rfl rfl h (fun _ h => ?_) (fun _ h => ?_)
                      · refine Zwp 2 rfl ?_; refine Y2 rfl rfl rfl ?_; refine W.len rfl ?_; refine Zpb 4 rfl ?_; cases h; exact Zh hG [] [(900000, (900000, 1))] rfl rfl (Ze rfl rfl (Ze rfl rfl trivial)) (Zc rfl rfl trivial)
                      · refine Zpb 6 rfl ?_; cases h; exact Zh hG [] [(900000, (900000, 1))] rfl rfl (Ze rfl rfl (Ze rfl rfl trivial)) (Zc rfl rfl trivial)
                    · refine Zpb 11 rfl ?_; cases h; exact Zh hG [] [(900000, (900000, 1))] rfl rfl (Ze rfl rfl (Ze rfl rfl trivial)) (Zc rfl rfl trivial)
                  · intro s2 r2 h hG; refine A.join (fun (s3 : Unit) => [(1, .lp 900000 1 0)]) (fun s3 => [(900000, .box (api_Profile.av p_))]) _ h hG rfl ?_ ?_
                    · intro J f h hG; refine Zap 5 rfl ?_; refine YT rfl rfl rfl h (fun _ h => ?_) (fun _ h => ?_)
                      · refine Zwp 4 rfl ?_; refine YF rfl rfl rfl h (fun _ h => ?_) (fun _ h => ?_)
                        · refine Zpb 19 rfl ?_; refine headK.r ?_; cases h; cases hG; exact ⟨rfl, trivial⟩
                        · refine Zwp 5 rfl ?_; refine YF rfl rfl rfl h (fun _ h => ?_) (fun _ h => ?_)
                          · refine Zpb 14 rfl ?_; refine headK.r ?_; cases h; cases hG; exact ⟨rfl, trivial⟩
                          · refine Zwp 2 rfl ?_; refine Y2 rfl rfl rfl ?_; refine W.len rfl ?_; refine Zpc 5 rfl ?_; refine A.condB rfl h (fun _ h => ?_) (fun _ h => ?_)
                            · refine Zcb 6 rfl ?_; refine headK.r ?_; cases h; cases hG; exact ⟨rfl, trivial⟩
                            · refine Zcb 1 rfl ?_; cases h; exact Zh hG [] [(900000, (900000, 1))] rfl rfl (Ze rfl rfl trivial) (Zc rfl rfl trivial)
                      · refine Zpb 18 rfl ?_; cases h; exact Zh hG [] [(900000, (900000, 1))] rfl rfl (Ze rfl rfl trivial) (Zc rfl rfl trivial)
                    · intro s3 r2 h hG; refine A.join (fun (s14 : Unit) => []) (fun s14 => []) _ h hG rfl ?_ ?_
                      · intro J f h hG; refine Zac 6 rfl ?_; refine A.loop (fun (s15 : Int) => [(1, .lp 900000 1 0), (4, VI s15)]) (fun s15 => [(900000, .box (api_Profile.av p_))]) _ h hG (Zf [] [(900000, (900000, 1))] rfl rfl (Ze rfl rfl (Ze rfl rfl trivial)) (Zc rfl rfl trivial)) ?_; intro J s15 f h hG; unfold ref13_Check_L2 at h; refine Zap 6 rfl ?_; refine Y1 rfl ?_; refine W.len rfl ?_; refine Zpc 3 rfl ?_; refine A.condB rfl h (fun _ h => ?_) (fun _ h => ?_)
                        · refine Zcc 2 rfl ?_; refine A.join (fun (s23 : Unit) => [(1, .lp 900000 1 0), (4, VI s15)]) (fun s23 => [(900000, .box (api_Profile.av p_))]) _ h hG rfl ?_ ?_
                          · intro J f h hG; refine Zac 7 rfl ?_; refine A.loop (fun (s24 : Int) => [(1, .lp 900000 1 0), (4, VI s15), (5, VI s24)]) (fun s24 => [(900000, .box (api_Profile.av p_))]) _ h hG (Zf [] [(900000, (900000, 1))] rfl rfl (Ze rfl rfl (Ze rfl rfl (Ze rfl rfl trivial))) (Zc rfl rfl trivial)) ?_; intro J s24 f h hG; unfold ref13_Check_L1 at h; refine Zac 8 rfl ?_; refine A.condB rfl h (fun _ h => ?_) (fun _ h => ?_)
                            · refine Zcc 5 rfl ?_; refine A.regionD (by kernel_rfl) ?_; refine Zpp 3 rfl ?_; refine Y1 rfl ?_; refine bindK h fun x137 hx137 h => ?_; refine W.chk rfl (elemB hx137) ?_; refine W.elem rfl (elemG hx137) ?_; refine W.chk rfl rfl ?_; refine W.det (.fp [.v (.string x137)]) _ rfl ?_; refine Zpp 4 rfl ?_; refine Y1 rfl ?_; refine bindK h fun x138 hx138 h => ?_; refine W.chk rfl (elemB hx138) ?_; refine W.elem rfl (elemG hx138) ?_; refine W.chk rfl rfl ?_; refine W.det (.fp [.v (.string x138)]) _ rfl ?_; refine Zpc 4 rfl ?_; refine A.condB rfl h (fun _ h => ?_) (fun _ h => ?_)
                              · refine Zcb 8 rfl ?_; refine headK.r ?_; refine Zob 2 rfl ?_; refine headK.r ?_; refine headK.r ?_; refine Zob 1 rfl ?_; refine headK.r ?_; cases h; cases hG; exact ⟨rfl, trivial⟩
                              · refine Zcb 8 rfl ?_; cases h; exact Zh hG [] [(900000, (900000, 1))] rfl rfl (Ze rfl rfl (Ze rfl rfl (Ze rfl rfl trivial))) (Zc rfl rfl trivial)
                            · refine Zcb 2 rfl ?_; refine headK.e ?_; refine Zob 2 rfl ?_; cases h; exact Zh hG [] [(900000, (900000, 1))] rfl rfl (Ze rfl rfl (Ze rfl rfl trivial)) (Zc rfl rfl trivial)
                          · intro s23 r2 h hG; refine Zcb 5 rfl ?_; cases h; exact Zh hG [] [(900000, (900000, 1))] rfl rfl (Ze rfl rfl (Ze rfl rfl trivial)) (Zc rfl rfl trivial)
                        · refine Zcb 2 rfl ?_; refine headK.e ?_; refine Zob 1 rfl ?_; cases h; exact Zh hG [] [] rfl rfl trivial trivial
                      · intro s14 r2 h hG; refine Zcb 6 rfl ?_; cases h; cases hG; exact ⟨rfl, trivial⟩
noncomputable def ref29_Right_L1 (s12 : (Int)) (jobs_ : (List api_Job)) (x78 : api_Job) (s21 : Int) : Option ((Int) ⊕ ((Unit) ⊕ ((Int) ⊕ ((Unit) ⊕ (Bool))))) :=
  (bif (decide (s21 < s12)) then
    (getI jobs_ s21).bind fun x84 =>
    (bif (x84.Id == x78.Id) then
      some (.inr (.inr (.inr (.inr false))))
    else
      some (.inl (IntKind.i64.wrap (s21 + (1 : Int)))))
  else
    some (.inr (.inl ())))
noncomputable def ref29_Right_L2 (jobs_ : (List api_Job)) (s12 : Int) : Option ((Int) ⊕ ((Unit) ⊕ (Bool))) :=
  (bif (decide (s12 < (jobs_.length : Int))) then
    (seqF (A := Unit) (
      (getI jobs_ s12).bind fun x78 =>
      (bif (decide (x78.Id < (0 : Int))) then
        some (.inr (.inr (.inr false)))
      else
        (bif (decide (x78.Size < (1 : Int))) then
          some (.inr (.inr (.inr false)))
        else
          (bif (decide ((1099511627776 : Int) < x78.Size)) then
            some (.inr (.inr (.inr false)))
          else
            (bif (decide (x78.Due < (0 : Int))) then
              some (.inr (.inr (.inr false)))
            else
              (bif (decide ((1073741824 : Int) < x78.Due)) then
                some (.inr (.inr (.inr false)))
              else
                loopF (ref29_Right_L1 s12 jobs_ x78) (0 : Int)))))))
    fun s20 =>
      some (.inl (IntKind.i64.wrap (s12 + (1 : Int)))))
  else
    some (.inr (.inl ())))
noncomputable def ref29_Right (jobs_ : (List api_Job)) : Option (Bool) :=
  (seqF (A := Unit) (
    loopF (ref29_Right_L2 jobs_) (0 : Int))
  fun s11 =>
    some (decide ((jobs_.length : Int) ≤ (1000 : Int))))
theorem ref29_Right_fn {jobs_ : (List api_Job)} {r : Bool} (h : ref29_Right jobs_ = some r) : Fn Tryz.prog 58 [VF (List.map api_Job.enc jobs_)] (VB r) := by
  refine Fn.of_AW (F := FnX Tryz.prog) (base := 0) (js := [3, 12]) mixed tok noeqs (fun _ _ _ h => h) Tryz.call58 Tryz.func58 rfl Tryz.ntmps58 (by rw [Tryz.results58]) (by simp) ?_; have hG : (fun x => x = r) r := rfl; unfold ref29_Right at h; refine Zac 5 rfl ?_; refine A.join (fun (s11 : Unit) => [(0, VF (List.map api_Job.enc jobs_))]) (fun s11 => []) _ h hG rfl ?_ ?_
  · intro J f h hG; refine Zac 6 rfl ?_; refine A.loop (fun (s12 : Int) => [(0, VF (List.map api_Job.enc jobs_)), (3, VI s12)]) (fun s12 => []) _ h hG (Zf [] [] rfl rfl (Ze rfl rfl (Ze rfl rfl trivial)) trivial) ?_; intro J s12 f h hG; unfold ref29_Right_L2 at h; refine Zap 5 rfl ?_; refine Y1 rfl ?_; refine W.len rfl ?_; refine Zpc 3 rfl ?_; refine A.condB rfl h (fun _ h => ?_) (fun _ h => ?_)
    · refine Zcc 2 rfl ?_; refine A.join (fun (s20 : Unit) => [(0, VF (List.map api_Job.enc jobs_)), (3, VI s12)]) (fun s20 => []) _ h hG rfl ?_ ?_
      · intro J f h hG; refine Zap 5 rfl ?_; refine Y1 rfl ?_; refine bindK h fun x78 hx78 h => ?_; refine W.chk rfl (elemB hx78) ?_; refine W.elem rfl (elemG hx78) ?_; refine W.chk rfl rfl ?_; refine W.det (.fp [.v (.int .i64 x78.Id), .v (.int .i64 x78.Size), .v (.int .i64 x78.Due)]) _ rfl ?_; refine Zo (.agg (api_Job.av x78)) rfl rfl ?_; refine Zm (.lp 4 2 0) (Mem.add _ 4 (.box [VI 0, VI 0, VI 0])) rfl rfl ?_; refine Zm (.tup []) (Mem.set _ 4 2 (some (.box (api_Job.av x78)))) rfl rfl ?_; refine Zpp 9 rfl ?_; refine YF rfl rfl rfl h (fun _ h => ?_) (fun _ h => ?_)
        · refine Zpb 29 rfl ?_; refine headK.r ?_; refine headK.r ?_; refine Zob 1 rfl ?_; refine headK.r ?_; cases h; cases hG; exact ⟨rfl, trivial⟩
        · refine Zwp 5 rfl ?_; refine YF rfl rfl rfl h (fun _ h => ?_) (fun _ h => ?_)
          · refine Zpb 24 rfl ?_; refine headK.r ?_; refine headK.r ?_; refine Zob 1 rfl ?_; refine headK.r ?_; cases h; cases hG; exact ⟨rfl, trivial⟩
          · refine Zwp 5 rfl ?_; refine YF rfl rfl rfl h (fun _ h => ?_) (fun _ h => ?_)
            · refine Zpb 19 rfl ?_; refine headK.r ?_; refine headK.r ?_; refine Zob 1 rfl ?_; refine headK.r ?_; cases h; cases hG; exact ⟨rfl, trivial⟩
            · refine Zwp 5 rfl ?_; refine YF rfl rfl rfl h (fun _ h => ?_) (fun _ h => ?_)
              · refine Zpb 14 rfl ?_; refine headK.r ?_; refine headK.r ?_; refine Zob 1 rfl ?_; refine headK.r ?_; cases h; cases hG; exact ⟨rfl, trivial⟩
              · refine Zwc 6 rfl ?_; refine A.condB rfl h (fun _ h => ?_) (fun _ h => ?_)
                · refine Zcb 8 rfl ?_; refine headK.r ?_; refine headK.r ?_; refine Zob 1 rfl ?_; refine headK.r ?_; cases h; cases hG; exact ⟨rfl, trivial⟩
                · refine Zcc 8 rfl ?_; refine A.loop (fun (s21 : Int) => [(0, VF (List.map api_Job.enc jobs_)), (3, VI s12), (4, .lp 900000 1 0), (5, VI s21)]) (fun s21 => [(900000, .box (api_Job.av x78))]) _ h hG (Zf [] [(900000, (4, 2))] rfl rfl (Ze rfl rfl (Ze rfl rfl (Ze rfl rfl (Ze rfl rfl trivial)))) (Zc rfl rfl trivial)) ?_; intro J s21 f h hG; unfold ref29_Right_L1 at h; refine Zac 8 rfl ?_; refine A.condB rfl h (fun _ h => ?_) (fun _ h => ?_)
                  · refine Zcc 5 rfl ?_; refine A.regionD (by kernel_rfl) ?_; refine Zpp 2 rfl ?_; refine Y1 rfl ?_; refine bindK h fun x84 hx84 h => ?_; refine W.chk rfl (elemB hx84) ?_; refine W.elem rfl (elemG hx84) ?_; refine W.chk rfl rfl ?_; refine W.det (.fp [.v (.int .i64 x84.Id), .v (.int .i64 x84.Size), .v (.int .i64 x84.Due)]) _ rfl ?_; refine Zo (.fp [.v (.int .i64 x84.Id), .v (.int .i64 x84.Size), .v (.int .i64 x84.Due)]) rfl rfl ?_; refine Zpc 6 rfl ?_; refine A.condB rfl h (fun _ h => ?_) (fun _ h => ?_)
                    · refine Zcb 8 rfl ?_; refine headK.r ?_; refine Zob 2 rfl ?_; refine headK.r ?_; refine headK.r ?_; refine Zob 1 rfl ?_; refine headK.r ?_; cases h; cases hG; exact ⟨rfl, trivial⟩
                    · refine Zcb 8 rfl ?_; cases h; exact Zh hG [] [(900000, (900000, 1))] rfl rfl (Ze rfl rfl (Ze rfl rfl (Ze rfl rfl (Ze rfl rfl trivial)))) (Zc rfl rfl trivial)
                  · refine Zcb 2 rfl ?_; refine headK.e ?_; refine Zob 2 rfl ?_; cases h; exact Zh hG [] [] rfl rfl (Ze rfl rfl (Ze rfl rfl trivial)) trivial
      · intro s20 r2 h hG; refine Zcb 5 rfl ?_; cases h; exact Zh hG [] [] rfl rfl (Ze rfl rfl (Ze rfl rfl trivial)) trivial
    · refine Zcb 2 rfl ?_; refine headK.e ?_; refine Zob 1 rfl ?_; cases h; exact Zh hG [] [] rfl rfl (Ze rfl rfl trivial) trivial
  · intro s11 r2 h hG; refine Zcp 3 rfl ?_; refine Y1 rfl ?_; refine W.len rfl ?_; refine Zpb 5 rfl ?_; cases h; cases hG; exact ⟨rfl, trivial⟩
noncomputable def ref29_valid (p_ : api_Profile) (jobs_ : (List api_Job)) (now_ : Int) : Option (Bool) :=
  (ref13_Check p_).bind fun y1 =>
  (bif (y1 == (0 : Int)) then
    (ref29_Right jobs_).bind fun y2 =>
    (bif y2 then
      (bif (decide ((0 : Int) ≤ now_)) then
        some (decide (now_ ≤ (1073741824 : Int)))
      else
        some false)
    else
      some false)
  else
    some false)
theorem ref29_valid_fn {p_ : api_Profile} {jobs_ : (List api_Job)} {now_ : Int} {r : Bool} (h : ref29_valid p_ jobs_ now_ = some r) : Fn Tryz.prog 40 [.agg (api_Profile.av p_), VF (List.map api_Job.enc jobs_), VI now_] (VB r) := by
  refine Fn.of_AW (F := FnX Tryz.prog) (base := 0) (js := []) mixed tok noeqs (fun _ _ _ h => h) Tryz.call40 Tryz.func40 rfl Tryz.ntmps40 (by rw [Tryz.results40]) (by simp) ?_; have hG : (fun x => x = r) r := rfl; unfold ref29_valid at h; refine Zap 2 rfl ?_; refine Zm (.lp 3 1 0) (Mem.add _ 3 (.box (api_Profile.av p_))) rfl rfl ?_; refine Zpp 5 rfl ?_; refine Zo (.agg (api_Profile.av p_)) rfl rfl ?_; refine Y1 rfl ?_; refine bindK h fun y1 hy1 h => ?_; refine W.call rfl (ref13_Check_fn hy1) ?_; refine Zwp 9 rfl ?_; refine YT rfl rfl rfl h (fun _ h => ?_) (fun _ h => ?_)
  · refine Zwp 1 rfl ?_; refine Y2 rfl rfl rfl ?_; refine bindK h fun y2 hy2 h => ?_; refine W.call rfl (ref29_Right_fn hy2) ?_; refine Zwp 3 rfl ?_; refine YT rfl rfl rfl h (fun _ h => ?_) (fun _ h => ?_)
    · refine Zwp 4 rfl ?_; refine YT rfl rfl rfl h (fun _ h => ?_) (fun _ h => ?_)
      · refine Zwb 7 rfl ?_; cases h; cases hG; exact ⟨rfl, trivial⟩
      · refine Zpb 6 rfl ?_; cases h; cases hG; exact ⟨rfl, trivial⟩
    · refine Zpb 10 rfl ?_; cases h; cases hG; exact ⟨rfl, trivial⟩
  · refine Zpb 14 rfl ?_; cases h; cases hG; exact ⟨rfl, trivial⟩
noncomputable def ref29_Order_L1 (s24 : (Int × (List api_Job))) (p_ : (List api_Job)) (s45 : Int) : Option ((Int) ⊕ ((Int) ⊕ (((List api_Job)) ⊕ ((Int × (List api_Job)) ⊕ (((List api_Job)) ⊕ ((List api_Job))))))) :=
  (bif (decide (s45 < ((s24.2.length : Nat) : Int))) then
    (chkO (decide (0 ≤ s45) && decide (s45 < ((s24.2.length : Nat) : Int)))).bind fun _ =>
    (getI s24.2 s45).bind fun x783 =>
    (getI p_ s24.1).bind fun x784 =>
    (bif (decide (x783.Due < x784.Due)) then
      some (.inl (IntKind.i64.wrap (s45 + (1 : Int))))
    else
      (bif (x783.Due == x784.Due) then
        (bif (decide (x783.Id < x784.Id)) then
          some (.inl (IntKind.i64.wrap (s45 + (1 : Int))))
        else
          some (.inr (.inl s45)))
      else
        some (.inr (.inl s45))))
  else
    some (.inr (.inl s45)))
noncomputable def ref29_Order_L2 (p_ : (List api_Job)) (s24 : Int × (List api_Job)) : Option ((Int × (List api_Job)) ⊕ (((List api_Job)) ⊕ ((List api_Job)))) :=
  (bif (decide (s24.1 < (p_.length : Int))) then
    (seqF (A := (List api_Job)) (
      (seqF (A := Int) (
        loopF (ref29_Order_L1 s24 p_) (0 : Int))
      fun s44 =>
        (chkO (cutO (0 : Int) s44 ((s24.2.length : Nat) : Int))).bind fun _ =>
        (chkO (decide (0 + (List.take (s44 - (0 : Int)).toNat (List.drop (0 : Int).toNat s24.2)).length ≤ 1000000))).bind fun _ =>
        (getI p_ s24.1).bind fun x789 =>
        (chkO (decide ((([] : List api_Job) ++ (List.take (s44 - (0 : Int)).toNat (List.drop (0 : Int).toNat s24.2))).length + [x789].length ≤ 1000000))).bind fun _ =>
        (chkO (cutO s44 ((s24.2.length : Nat) : Int) ((s24.2.length : Nat) : Int))).bind fun _ =>
        (chkO (decide (((([] : List api_Job) ++ (List.take (s44 - (0 : Int)).toNat (List.drop (0 : Int).toNat s24.2))) ++ [x789]).length + (List.take (((s24.2.length : Nat) : Int) - s44).toNat (List.drop s44.toNat s24.2)).length ≤ 1000000))).bind fun _ =>
        some (.inl (((([] : List api_Job) ++ (List.take (s44 - (0 : Int)).toNat (List.drop (0 : Int).toNat s24.2))) ++ [x789]) ++ (List.take (((s24.2.length : Nat) : Int) - s44).toNat (List.drop s44.toNat s24.2))))))
    fun s42 =>
      some (.inl ((IntKind.i64.wrap (s24.1 + (1 : Int))), s42)))
  else
    some (.inr (.inl s24.2)))
noncomputable def ref29_Order (p_ : (List api_Job)) : Option ((List api_Job)) :=
  (seqF (A := (List api_Job)) (
    loopF (ref29_Order_L2 p_) ((0 : Int), ([] : List api_Job)))
  fun s23 =>
    some s23)
theorem ref29_Order_fn {p_ : (List api_Job)} {r : (List api_Job)} (h : ref29_Order p_ = some r) : Fn Tryz.prog 41 [VF (List.map api_Job.enc p_)] (.ow 3 (List.map api_Job.enc r)) := by
  refine Fn.of_AW (F := FnX Tryz.prog) (base := 0) (js := [4, 8, 12]) mixed tok noeqs (fun _ _ _ h => h) Tryz.call41 Tryz.func41 rfl Tryz.ntmps41 (by rw [Tryz.results41]) (by simp) ?_; have hG : (fun x => x = r) r := rfl; unfold ref29_Order at h; refine Zap 2 rfl ?_; refine Zm (.row 2 1 0) (Mem.add _ 2 (.rows 3 (List.map api_Job.enc ([] : List api_Job)) false)) rfl rfl ?_; refine Zpp 4 rfl ?_; refine Zm (.row 3 1 0) (Mem.add _ 3 (.rows 3 (List.map api_Job.enc ([] : List api_Job)) false)) rfl rfl ?_; refine Zpc 2 rfl ?_; refine A.join (fun (s23 : (List api_Job)) => [(3, .row 900000 1 s23.length)]) (fun s23 => [(900000, .rows 3 (List.map api_Job.enc s23) false)]) _ h hG rfl ?_ ?_
  · intro J f h hG; refine Zac 6 rfl ?_; refine A.loop (fun (s24 : Int × (List api_Job)) => [(0, VF (List.map api_Job.enc p_)), (3, .row 900000 1 s24.2.length), (4, VI s24.1)]) (fun s24 => [(900000, .rows 3 (List.map api_Job.enc s24.2) false)]) _ h hG (Zf [] [(900000, (3, 1))] rfl rfl (Ze rfl rfl (Ze rfl rfl (Ze rfl rfl trivial))) (Zc rfl rfl trivial)) ?_; intro J s24 f h hG; unfold ref29_Order_L2 at h; refine Zap 5 rfl ?_; refine Y1 rfl ?_; refine W.len rfl ?_; refine Zpc 3 rfl ?_; refine A.condB rfl h (fun _ h => ?_) (fun _ h => ?_)
    · refine Zcc 2 rfl ?_; refine A.join (fun (s42 : (List api_Job)) => [(0, VF (List.map api_Job.enc p_)), (3, .row 900000 1 s42.length), (4, VI s24.1)]) (fun s42 => [(900000, .rows 3 (List.map api_Job.enc s42) false)]) _ h hG rfl ?_ ?_
      · intro J f h hG; refine Zac 6 rfl ?_; refine A.join (fun (s44 : Int) => [(0, VF (List.map api_Job.enc p_)), (3, .row 900000 1 s24.2.length), (4, VI s24.1), (5, VI s44)]) (fun s44 => [(900000, .rows 3 (List.map api_Job.enc s24.2) false)]) _ h hG rfl ?_ ?_
        · intro J f h hG; refine Zac 1 rfl ?_; refine A.loop (fun (s45 : Int) => [(0, VF (List.map api_Job.enc p_)), (3, .row 900000 1 s24.2.length), (4, VI s24.1), (5, VI s45)]) (fun s45 => [(900000, .rows 3 (List.map api_Job.enc s24.2) false)]) _ h hG (Zf [] [(900000, (900000, 1))] rfl rfl (Ze rfl rfl (Ze rfl rfl (Ze rfl rfl (Ze rfl rfl trivial)))) (Zc rfl rfl trivial)) ?_; intro J s45 f h hG; unfold ref29_Order_L1 at h; refine Zac 2 rfl ?_; refine A.regionD (by kernel_rfl) ?_; refine Zpp 1 rfl ?_; refine Zo (.row 900000 1 s24.2.length) rfl rfl ?_; refine Zpp 3 rfl ?_; refine YT rfl rfl rfl h (fun _ h => ?_) (fun _ h => ?_)
          · refine W.det (.row 900000 1 s24.2.length) _ rfl ?_; refine Zpp 1 rfl ?_; refine Y2 rfl rfl rfl ?_; refine chkK h fun g782 h => ?_; refine W.chk rfl (by simpa using g782) ?_; refine W.det (.rp 900000 1 s45.toNat 0) _ rfl ?_; refine Zu (.rp 900000 1 s45.toNat 2) rfl rfl rfl rfl ?_; refine Y2 rfl rfl rfl ?_; refine bindK h fun x783 hx783 h => ?_; refine W.elem rfl (elemG hx783) ?_; refine Zwp 3 rfl ?_; refine Y2 rfl rfl rfl ?_; refine bindK h fun x784 hx784 h => ?_; refine W.chk rfl (elemB hx784) ?_; refine W.elem rfl (elemG hx784) ?_; refine W.chk rfl rfl ?_; refine W.det (.fp [.v (.int .i64 x784.Id), .v (.int .i64 x784.Size), .v (.int .i64 x784.Due)]) _ rfl ?_; refine Zu (.fp [.v (.int .i64 x784.Due)]) rfl rfl rfl rfl ?_; refine Zpp 3 rfl ?_; refine YF rfl rfl rfl h (fun _ h => ?_) (fun _ h => ?_)
            · refine Zpb 37 rfl ?_; cases h; exact Zh hG [] [(900000, (900000, 1))] rfl rfl (Ze rfl rfl (Ze rfl rfl (Ze rfl rfl (Ze rfl rfl trivial)))) (Zc rfl rfl trivial)
            · refine W.det (.row 900000 1 s24.2.length) _ rfl ?_; refine Zpp 1 rfl ?_; refine Y2 rfl rfl rfl ?_; refine W.chk rfl (by simpa using g782) ?_; refine W.det (.rp 900000 1 s45.toNat 0) _ rfl ?_; refine Zu (.rp 900000 1 s45.toNat 2) rfl rfl rfl rfl ?_; refine Y2 rfl rfl rfl ?_; refine W.elem rfl (elemG hx783) ?_; refine Zwp 3 rfl ?_; refine Y2 rfl rfl rfl ?_; refine W.chk rfl (elemB hx784) ?_; refine W.elem rfl (elemG hx784) ?_; refine W.chk rfl rfl ?_; refine W.det (.fp [.v (.int .i64 x784.Id), .v (.int .i64 x784.Size), .v (.int .i64 x784.Due)]) _ rfl ?_; refine Zu (.fp [.v (.int .i64 x784.Due)]) rfl rfl rfl rfl ?_; refine Zpp 3 rfl ?_; refine YT rfl rfl rfl h (fun _ h => ?_) (fun _ h => ?_)
              · refine W.det (.row 900000 1 s24.2.length) _ rfl ?_; refine Zpp 1 rfl ?_; refine Y2 rfl rfl rfl ?_; refine W.chk rfl (by simpa using g782) ?_; refine W.det (.rp 900000 1 s45.toNat 0) _ rfl ?_; refine Zu (.rp 900000 1 s45.toNat 0) rfl rfl rfl rfl ?_; refine Y2 rfl rfl rfl ?_; refine W.elem rfl (elemG hx783) ?_; refine Zwp 3 rfl ?_; refine Y2 rfl rfl rfl ?_; refine W.chk rfl (elemB hx784) ?_; refine W.elem rfl (elemG hx784) ?_; refine W.chk rfl rfl ?_; refine W.det (.fp [.v (.int .i64 x784.Id), .v (.int .i64 x784.Size), .v (.int .i64 x784.Due)]) _ rfl ?_; refine Zu (.fp [.v (.int .i64 x784.Id), .v (.int .i64 x784.Size), .v (.int .i64 x784.Due)]) rfl rfl rfl rfl ?_; refine Zpc 7 rfl ?_; refine A.condB rfl h (fun _ h => ?_) (fun _ h => ?_)
                · refine Zcb 9 rfl ?_; cases h; exact Zh hG [] [(900000, (900000, 1))] rfl rfl (Ze rfl rfl (Ze rfl rfl (Ze rfl rfl (Ze rfl rfl trivial)))) (Zc rfl rfl trivial)
                · refine Zcb 2 rfl ?_; refine headK.e ?_; refine Zob 1 rfl ?_; cases h; exact Zh hG [] [(900000, (900000, 1))] rfl rfl (Ze rfl rfl (Ze rfl rfl (Ze rfl rfl (Ze rfl rfl trivial)))) (Zc rfl rfl trivial)
              · refine Zpb 18 rfl ?_; refine headK.e ?_; refine Zob 1 rfl ?_; cases h; exact Zh hG [] [(900000, (900000, 1))] rfl rfl (Ze rfl rfl (Ze rfl rfl (Ze rfl rfl (Ze rfl rfl trivial)))) (Zc rfl rfl trivial)
          · refine Zpb 42 rfl ?_; refine headK.e ?_; refine Zob 1 rfl ?_; cases h; exact Zh hG [] [(900000, (900000, 1))] rfl rfl (Ze rfl rfl (Ze rfl rfl (Ze rfl rfl (Ze rfl rfl trivial)))) (Zc rfl rfl trivial)
        · intro s44 r2 h hG; refine Zcp 2 rfl ?_; refine Zm (.row 6 2 0) (Mem.add _ 6 (.rows 3 (List.map api_Job.enc ([] : List api_Job)) false)) rfl rfl ?_; refine Zpp 4 rfl ?_; refine Zo (.row 6 2 0) rfl rfl ?_; refine Zo (.row 900000 1 s24.2.length) rfl rfl ?_; refine Zpp 1 rfl ?_; refine Y1 rfl ?_; refine chkK h fun g787 h => ?_; refine W.chk rfl (cutO_all g787) ?_; refine W.det (.sub 900000 1 (0 : Int).toNat (s44 - (0 : Int)).toNat) _ rfl ?_; refine Y1 rfl ?_; refine chkK h fun g788 h => ?_; refine W.chk rfl (by rw [partMap]; exact appChk (fun _ => rfl) g788) ?_; refine W.rows (0 + (List.take (s44 - (0 : Int)).toNat (List.drop (0 : Int).toNat (List.map api_Job.enc s24.2))).length) (([] : List api_Job) ++ (List.take (s44 - (0 : Int)).toNat (List.drop (0 : Int).toNat s24.2))).length ([] ++ (List.take (s44 - (0 : Int)).toNat (List.drop (0 : Int).toNat (List.map api_Job.enc s24.2)))) (List.map api_Job.enc (([] : List api_Job) ++ (List.take (s44 - (0 : Int)).toNat (List.drop (0 : Int).toNat s24.2)))) rfl (by first | rfl | (simp; done) | simp only [partMap, List.length_map, List.length_append, List.nil_append, Nat.zero_add, List.length_nil]) (by first | rfl | (simp; done) | simp only [partMap, List.map_append, List.nil_append, List.map_nil]) ?_; refine Zo (.row 6 3 (([] : List api_Job) ++ (List.take (s44 - (0 : Int)).toNat (List.drop (0 : Int).toNat s24.2))).length) rfl rfl ?_; refine Zpp 4 rfl ?_; refine Zo (.row 6 3 (([] : List api_Job) ++ (List.take (s44 - (0 : Int)).toNat (List.drop (0 : Int).toNat s24.2))).length) rfl rfl ?_; refine Zpp 2 rfl ?_; refine Y1 rfl ?_; refine bindK h fun x789 hx789 h => ?_; refine W.chk rfl (elemB hx789) ?_; refine W.elem rfl (elemG hx789) ?_; refine W.chk rfl rfl ?_; refine W.det (.fp [.v (.int .i64 x789.Id), .v (.int .i64 x789.Size), .v (.int .i64 x789.Due)]) _ rfl ?_; refine Zo (.agg (api_Job.av x789)) rfl rfl ?_; refine Zm (.row 68 2 1) (Mem.add _ 68 (.rows 3 (List.map api_Job.enc [x789]) false)) rfl rfl ?_; refine Y1 rfl ?_; refine chkK h fun g790 h => ?_; refine W.chk rfl (appChk (fun _ => rfl) g790) ?_; refine W.app rfl rfl ?_; refine Zo (.row 6 4 ((([] : List api_Job) ++ (List.take (s44 - (0 : Int)).toNat (List.drop (0 : Int).toNat s24.2))) ++ [x789]).length) rfl rfl ?_; refine Zpp 3 rfl ?_; refine Zo (.row 6 4 ((([] : List api_Job) ++ (List.take (s44 - (0 : Int)).toNat (List.drop (0 : Int).toNat s24.2))) ++ [x789]).length) rfl rfl ?_; refine Zo (.row 900000 1 s24.2.length) rfl rfl ?_; refine Zpp 1 rfl ?_; refine Y1 rfl ?_; refine chkK h fun g791 h => ?_; refine W.chk rfl (cutO_all g791) ?_; refine W.det (.sub 900000 1 s44.toNat (((s24.2.length : Nat) : Int) - s44).toNat) _ rfl ?_; refine Y1 rfl ?_; refine chkK h fun g792 h => ?_; refine W.chk rfl (by rw [partMap]; exact appChk (fun _ => rfl) g792) ?_; refine W.rows (((([] : List api_Job) ++ (List.take (s44 - (0 : Int)).toNat (List.drop (0 : Int).toNat s24.2))) ++ [x789]).length + (List.take (((s24.2.length : Nat) : Int) - s44).toNat (List.drop s44.toNat (List.map api_Job.enc s24.2))).length) (((([] : List api_Job) ++ (List.take (s44 - (0 : Int)).toNat (List.drop (0 : Int).toNat s24.2))) ++ [x789]) ++ (List.take (((s24.2.length : Nat) : Int) - s44).toNat (List.drop s44.toNat s24.2))).length ((List.map api_Job.enc ((([] : List api_Job) ++ (List.take (s44 - (0 : Int)).toNat (List.drop (0 : Int).toNat s24.2))) ++ [x789])) ++ (List.take (((s24.2.length : Nat) : Int) - s44).toNat (List.drop s44.toNat (List.map api_Job.enc s24.2)))) (List.map api_Job.enc (((([] : List api_Job) ++ (List.take (s44 - (0 : Int)).toNat (List.drop (0 : Int).toNat s24.2))) ++ [x789]) ++ (List.take (((s24.2.length : Nat) : Int) - s44).toNat (List.drop s44.toNat s24.2)))) rfl (by first | rfl | (simp; done) | simp only [partMap, List.length_map, List.length_append, List.nil_append]) (by first | rfl | (simp; done) | simp only [partMap, List.map_append, List.nil_append, List.map_nil]) ?_
          refine Zo (.row 6 5 (((([] : List api_Job) ++ (List.take (s44 - (0 : Int)).toNat (List.drop (0 : Int).toNat s24.2))) ++ [x789]) ++ (List.take (((s24.2.length : Nat) : Int) - s44).toNat (List.drop s44.toNat s24.2))).length) rfl rfl ?_; refine Zpb 2 rfl ?_; cases h; exact Zh hG [] [(900000, (6, 5))] rfl rfl (Ze rfl rfl (Ze rfl rfl (Ze rfl rfl trivial))) (Zc rfl rfl trivial)
      · intro s42 r2 h hG; refine Zcb 5 rfl ?_; cases h; exact Zh hG [] [(900000, (900000, 1))] rfl rfl (Ze rfl rfl (Ze rfl rfl (Ze rfl rfl trivial))) (Zc rfl rfl trivial)
    · refine Zcb 2 rfl ?_; refine headK.e ?_; refine Zob 1 rfl ?_; cases h; exact Zh hG [] [(900000, (900000, 1))] rfl rfl (Ze rfl rfl trivial) (Zc rfl rfl trivial)
  · intro s23 r2 h hG; refine Zcp 2 rfl ?_; refine Zo (.row 900000 1 s23.length) rfl rfl ?_; refine Zo (.row 900000 1 s23.length) rfl rfl ?_; refine Zpb 3 rfl ?_; cases h; cases hG; exact ⟨rfl, rfl, trivial⟩
noncomputable def ref28_times (p_ : api_Profile) (steps_ : Int) : Option (Int × Int) :=
  (bif (decide ((0 : Int) < steps_)) then
    (chkO (steps_ != 0)).bind fun _ =>
    (bif (decide ((IntKind.i64.wrap (Int.tdiv (4503599627370496 : Int) steps_)) < p_.Rate)) then
      some ((0 : Int), (3 : Int))
    else
      some ((IntKind.i64.wrap (p_.Rate * steps_)), (0 : Int)))
  else
    some ((IntKind.i64.wrap (p_.Rate * steps_)), (0 : Int)))
theorem ref28_times_fn {p_ : api_Profile} {steps_ : Int} {r : Int × Int} (h : ref28_times p_ steps_ = some r) : Fn Tryz.prog 87 [.agg (api_Profile.av p_), VI steps_] (.tup [VI r.1, VI r.2]) := by
  refine Fn.of_AW (F := FnX Tryz.prog) (base := 0) (js := []) mixed tok noeqs (fun _ _ _ h => h) Tryz.call87 Tryz.func87 rfl Tryz.ntmps87 (by rw [Tryz.results87]) (by simp) ?_; have hG : (fun x => x = r) r := rfl; unfold ref28_times at h; refine Zap 2 rfl ?_; refine Zm (.lp 2 1 0) (Mem.add _ 2 (.box (api_Profile.av p_))) rfl rfl ?_; refine Zpc 6 rfl ?_; refine A.regionD (by kernel_rfl) ?_; refine Zpp 3 rfl ?_; refine YT rfl rfl rfl h (fun _ h => ?_) (fun _ h => ?_)
  · refine Zwp 3 rfl ?_; refine Y2 rfl rfl rfl ?_; refine chkK h fun g4 h => ?_; refine W.chk rfl (by simpa using g4) ?_; refine Zwc 5 rfl ?_; refine A.condB rfl h (fun _ h => ?_) (fun _ h => ?_)
    · refine Zcb 8 rfl ?_; cases h; cases hG; exact ⟨rfl, rfl, trivial⟩
    · refine Zcb 13 rfl ?_; cases h; cases hG; exact ⟨rfl, rfl, trivial⟩
  · refine Zpb 21 rfl ?_; cases h; cases hG; exact ⟨rfl, rfl, trivial⟩
noncomputable def ref28_Least (p_ : api_Profile) (t_ : Int) : Option (Int × Int) :=
  (ref13_Check p_).bind fun y4 =>
  (bif (y4 != (0 : Int)) then
    some ((0 : Int), (1 : Int))
  else
    (bif (decide (t_ < (0 : Int))) then
      some ((0 : Int), (1 : Int))
    else
      (bif (decide ((1073741824 : Int) < t_)) then
        some ((0 : Int), (1 : Int))
      else
        (bif (p_.Down == (0 : Int)) then
          (ref28_times p_ t_).bind fun y6 =>
          some (y6.1, y6.2)
        else
          (chkO (p_.Window != 0)).bind fun _ =>
          (ref28_times p_ (IntKind.i64.wrap ((IntKind.i64.wrap ((IntKind.i64.wrap (Int.tdiv t_ p_.Window)) * (IntKind.i64.wrap (p_.Window - p_.Down)))) + (if (IntKind.i64.wrap ((Int.tmod t_ p_.Window) - p_.Down)) < (0 : Int) then (0 : Int) else (IntKind.i64.wrap ((Int.tmod t_ p_.Window) - p_.Down)))))).bind fun y9 =>
          some (y9.1, y9.2)))))
theorem ref28_Least_fn {p_ : api_Profile} {t_ : Int} {r : Int × Int} (h : ref28_Least p_ t_ = some r) : Fn Tryz.prog 59 [.agg (api_Profile.av p_), VI t_] (.tup [VI r.1, VI r.2]) := by
  refine Fn.of_AW (F := FnX Tryz.prog) (base := 0) (js := []) mixed tok noeqs (fun _ _ _ h => h) Tryz.call59 Tryz.func59 rfl Tryz.ntmps59 (by rw [Tryz.results59]) (by simp) ?_; have hG : (fun x => x = r) r := rfl; unfold ref28_Least at h; refine Zap 2 rfl ?_; refine Zm (.lp 2 1 0) (Mem.add _ 2 (.box (api_Profile.av p_))) rfl rfl ?_; refine Zpp 7 rfl ?_; refine Zo (.agg (api_Profile.av p_)) rfl rfl ?_; refine Y1 rfl ?_; refine bindK h fun y4 hy4 h => ?_; refine W.call rfl (ref13_Check_fn hy4) ?_; refine Zwp 3 rfl ?_; refine YF rfl rfl rfl h (fun _ h => ?_) (fun _ h => ?_)
  · refine Zpb 17 rfl ?_; cases h; cases hG; exact ⟨rfl, rfl, trivial⟩
  · refine Zwp 4 rfl ?_; refine YF rfl rfl rfl h (fun _ h => ?_) (fun _ h => ?_)
    · refine Zpb 13 rfl ?_; cases h; cases hG; exact ⟨rfl, rfl, trivial⟩
    · refine Zwc 5 rfl ?_; refine A.condB rfl h (fun _ h => ?_) (fun _ h => ?_)
      · refine Zcb 8 rfl ?_; cases h; cases hG; exact ⟨rfl, rfl, trivial⟩
      · refine Zcc 10 rfl ?_; refine A.condB rfl h (fun _ h => ?_) (fun _ h => ?_)
        · refine Zcp 2 rfl ?_; refine Zo (.agg (api_Profile.av p_)) rfl rfl ?_; refine Zpp 1 rfl ?_; refine Y1 rfl ?_; refine bindK h fun y6 hy6 h => ?_; refine W.call rfl (ref28_times_fn hy6) ?_; refine W.det (.tup [VI y6.1, VI y6.2]) _ rfl ?_; refine Zo (.tup [VI y6.1, VI y6.2]) rfl rfl ?_; refine Zpb 16 rfl ?_; cases h; cases hG; exact ⟨rfl, rfl, trivial⟩
        · refine Zcp 7 rfl ?_; refine Y1 rfl ?_; refine chkK h fun g7 h => ?_; refine W.chk rfl (by simpa using g7) ?_; refine Zwc 5 rfl ?_; refine A.regionD (by kernel_rfl) ?_; refine Zo (.agg (api_Profile.av p_)) rfl rfl ?_; refine Zpp 3 rfl ?_; refine Y1 rfl ?_; refine W.chk rfl (by simpa using g7) ?_; refine Zwp 13 rfl ?_; refine Y1 rfl ?_; refine bindK h fun y9 hy9 h => ?_; refine W.call rfl (ref28_times_fn hy9) ?_; refine W.det (.tup [VI y9.1, VI y9.2]) _ rfl ?_; refine Zo (.tup [VI y9.1, VI y9.2]) rfl rfl ?_; refine Zpb 15 rfl ?_; cases h; cases hG; exact ⟨rfl, rfl, trivial⟩
noncomputable def ref29_gives (p_ : api_Profile) (now_ : Int) (due_ : Int) : Option (Int) :=
  (bif (decide (due_ < now_)) then
    some (0 : Int)
  else
    (ref28_Least p_ (IntKind.i64.wrap (due_ - now_))).bind fun y1 =>
    (bif (y1.2 == (3 : Int)) then
      some (4503599627370496 : Int)
    else
      some y1.1))
theorem ref29_gives_fn {p_ : api_Profile} {now_ : Int} {due_ : Int} {r : Int} (h : ref29_gives p_ now_ due_ = some r) : Fn Tryz.prog 42 [.agg (api_Profile.av p_), VI now_, VI due_] (VI r) := by
  refine Fn.of_AW (F := FnX Tryz.prog) (base := 0) (js := []) mixed tok noeqs (fun _ _ _ h => h) Tryz.call42 Tryz.func42 rfl Tryz.ntmps42 (by rw [Tryz.results42]) (by simp) ?_; have hG : (fun x => x = r) r := rfl; unfold ref29_gives at h; refine Zap 2 rfl ?_; refine Zm (.lp 3 1 0) (Mem.add _ 3 (.box (api_Profile.av p_))) rfl rfl ?_; refine Zpc 11 rfl ?_; refine A.condB rfl h (fun _ h => ?_) (fun _ h => ?_)
  · refine Zcb 7 rfl ?_; cases h; cases hG; exact ⟨rfl, trivial⟩
  · refine Zcp 4 rfl ?_; refine Zo (.agg (api_Profile.av p_)) rfl rfl ?_; refine Zpp 3 rfl ?_; refine Y1 rfl ?_; refine bindK h fun y1 hy1 h => ?_; refine W.call rfl (ref28_Least_fn hy1) ?_; refine W.det (.tup [VI y1.1, VI y1.2]) _ rfl ?_; refine Zo (.tup [VI y1.1, VI y1.2]) rfl rfl ?_; refine Zpc 13 rfl ?_; refine A.condB rfl h (fun _ h => ?_) (fun _ h => ?_)
    · refine Zcb 7 rfl ?_; cases h; cases hG; exact ⟨rfl, trivial⟩
    · refine Zcb 9 rfl ?_; cases h; cases hG; exact ⟨rfl, trivial⟩
noncomputable def ref29_Plan_L1 (y3 : (List api_Job)) (p_ : api_Profile) (now_ : Int) (s3 : Int × Int × (List Int)) : Option ((Int × Int × (List Int)) ⊕ (((List Int)) ⊕ ((List Int) × Int × Int))) :=
  (bif (decide (s3.2.1 < ((y3.length : Nat) : Int))) then
    (chkO (decide (0 ≤ s3.2.1) && decide (s3.2.1 < ((y3.length : Nat) : Int)))).bind fun _ =>
    (getI y3 s3.2.1).bind fun x82 =>
    (ref29_gives p_ now_ x82.Due).bind fun y84 =>
    (bif (decide ((IntKind.i64.wrap (y84 - (IntKind.i64.wrap (s3.1 + x82.Size)))) < (0 : Int))) then
      some (.inr (.inr (([] : List Int), x82.Id, (16 : Int))))
    else
      (chkO (decide (s3.2.2.length + [(IntKind.i64.wrap (y84 - (IntKind.i64.wrap (s3.1 + x82.Size))))].length ≤ 1000000))).bind fun _ =>
      some (.inl ((IntKind.i64.wrap (s3.1 + x82.Size)), (IntKind.i64.wrap (s3.2.1 + (1 : Int))), (s3.2.2 ++ [(IntKind.i64.wrap (y84 - (IntKind.i64.wrap (s3.1 + x82.Size))))]))))
  else
    some (.inr (.inl s3.2.2)))
noncomputable def ref29_Plan (p_ : api_Profile) (jobs_ : (List api_Job)) (now_ : Int) : Option ((List Int) × Int × Int) :=
  (ref29_valid p_ jobs_ now_).bind fun y2 =>
  (bif (!y2) then
    some (([] : List Int), (-1 : Int), (1 : Int))
  else
    (ref29_Order jobs_).bind fun y3 =>
    (seqF (A := (List Int)) (
      loopF (ref29_Plan_L1 y3 p_ now_) ((0 : Int), (0 : Int), ([] : List Int)))
    fun s2 =>
      some (s2, (-1 : Int), (0 : Int))))
theorem ref29_Plan_fn {p_ : api_Profile} {jobs_ : (List api_Job)} {now_ : Int} {r : (List Int) × Int × Int} (h : ref29_Plan p_ jobs_ now_ = some r) : Fn Tryz.prog 23 [.agg (api_Profile.av p_), VF (List.map api_Job.enc jobs_), VI now_] (.tup [.ow 1 (List.map (encI .i64) r.1), VI r.2.1, VI r.2.2]) := by
  refine Fn.of_AW (F := FnX Tryz.prog) (base := 0) (js := [14]) mixed tok noeqs (fun _ _ _ h => h) Tryz.call23 Tryz.func23 rfl Tryz.ntmps23 (by rw [Tryz.results23]) (by simp) ?_; have hG : (fun x => x = r) r := rfl; unfold ref29_Plan at h; refine Zap 2 rfl ?_; refine Zm (.lp 3 1 0) (Mem.add _ 3 (.box (api_Profile.av p_))) rfl rfl ?_; refine Zm (.row 6 1 0) (Mem.add _ 6 (.rows 1 (List.map (encI .i64) ([] : List Int)) false)) rfl rfl ?_; refine Zpp 7 rfl ?_; refine Zo (.agg (api_Profile.av p_)) rfl rfl ?_; refine Zpp 2 rfl ?_; refine Y1 rfl ?_; refine bindK h fun y2 hy2 h => ?_; refine W.call rfl (ref29_valid_fn hy2) ?_; refine Zwc 4 rfl ?_; refine A.condB rfl h (fun _ h => ?_) (fun _ h => ?_)
  · refine Zcp 2 rfl ?_; refine Zm (.row 6 2 0) (Mem.add _ 6 (.rows 1 (List.map (encI .i64) ([] : List Int)) false)) rfl rfl ?_; refine Zpb 6 rfl ?_; cases h; cases hG; exact ⟨rfl, rfl, rfl, rfl, trivial⟩
  · refine Zcp 5 rfl ?_; refine Y1 rfl ?_; refine bindK h fun y3 hy3 h => ?_; refine W.call rfl (ref29_Order_fn hy3) ?_; refine W.v (.row 20 1 (List.map api_Job.enc y3).length) (.row 20 1 y3.length) (Mem.add _ 20 (.rows 3 (List.map api_Job.enc y3) false)) rfl (by simp only [List.length_map]) ?_; refine Zo (.row 20 1 y3.length) rfl rfl ?_; refine Zpp 4 rfl ?_; refine Zm (.row 10 1 0) (Mem.add _ 10 (.rows 1 (List.map (encI .i64) ([] : List Int)) false)) rfl rfl ?_; refine Zpc 7 rfl ?_; refine A.join (fun (s2 : (List Int)) => [(10, .row 900000 1 s2.length)]) (fun s2 => [(900000, .rows 1 (List.map (encI .i64) s2) false)]) _ h hG rfl ?_ ?_
    · intro J f h hG; refine Zac 6 rfl ?_; refine A.loop (fun (s3 : Int × Int × (List Int)) => [(2, VI now_), (3, .lp 900000 1 0), (9, .row 900001 1 y3.length), (10, .row 900002 1 s3.2.2.length), (11, VI s3.1), (12, VI s3.2.1)]) (fun s3 => [(900000, .box (api_Profile.av p_)), (900001, .rows 3 (List.map api_Job.enc y3) false), (900002, .rows 1 (List.map (encI .i64) s3.2.2) false)]) _ h hG (Zf [] [(900000, (3, 1)), (900001, (20, 1)), (900002, (10, 1))] rfl rfl (Ze rfl rfl (Ze rfl rfl (Ze rfl rfl (Ze rfl rfl (Ze rfl rfl (Ze rfl rfl trivial)))))) (Zc rfl rfl (Zc rfl rfl (Zc rfl rfl trivial)))) ?_; intro J s3 f h hG; unfold ref29_Plan_L1 at h; refine Zap 4 rfl ?_; refine Zo (.row 900001 1 y3.length) rfl rfl ?_; refine Zpc 4 rfl ?_; refine A.condB rfl h (fun _ h => ?_) (fun _ h => ?_)
      · refine Zcp 7 rfl ?_; refine Zo (.row 900001 1 y3.length) rfl rfl ?_; refine Zpp 1 rfl ?_; refine Y1 rfl ?_; refine chkK h fun g81 h => ?_; refine W.chk rfl (by simpa using g81) ?_; refine W.det (.rp 900001 1 s3.2.1.toNat 0) _ rfl ?_; refine Zo (.rp 900001 1 s3.2.1.toNat 1) rfl rfl ?_; refine Y1 rfl ?_; refine bindK h fun x82 hx82 h => ?_; refine W.elem rfl (elemG hx82) ?_; refine Zwc 6 rfl ?_; refine A.regionD (by kernel_rfl) ?_; refine Zo (.agg (api_Profile.av p_)) rfl rfl ?_; refine Zpp 1 rfl ?_; refine Zo (.row 900001 1 y3.length) rfl rfl ?_; refine Zpp 1 rfl ?_; refine Y1 rfl ?_; refine W.chk rfl (by simpa using g81) ?_; refine W.det (.rp 900001 1 s3.2.1.toNat 0) _ rfl ?_; refine Zo (.rp 900001 1 s3.2.1.toNat 2) rfl rfl ?_; refine Y1 rfl ?_; refine W.elem rfl (elemG hx82) ?_; refine Zwp 1 rfl ?_; refine Y1 rfl ?_; refine bindK h fun y84 hy84 h => ?_; refine W.call rfl (ref29_gives_fn hy84) ?_; refine Zwc 13 rfl ?_; refine A.condB rfl h (fun _ h => ?_) (fun _ h => ?_)
        · refine Zcc 1 rfl ?_; refine A.regionD (by kernel_rfl) ?_; refine Zo (.row 900001 1 y3.length) rfl rfl ?_; refine Zpp 1 rfl ?_; refine Y1 rfl ?_; refine W.chk rfl (by simpa using g81) ?_; refine W.det (.rp 900001 1 s3.2.1.toNat 0) _ rfl ?_; refine Zo (.rp 900001 1 s3.2.1.toNat 0) rfl rfl ?_; refine Y1 rfl ?_; refine W.elem rfl (elemG hx82) ?_; refine Zwp 1 rfl ?_; refine Zm (.row 6 2 0) (Mem.add _ 6 (.rows 1 (List.map (encI .i64) ([] : List Int)) false)) rfl rfl ?_; refine Zpb 8 rfl ?_; refine headK.r ?_; refine Zob 1 rfl ?_; refine headK.r ?_; cases h; cases hG; exact ⟨rfl, rfl, rfl, rfl, trivial⟩
        · refine Zcp 3 rfl ?_; refine Zo (.row 900002 1 s3.2.2.length) rfl rfl ?_; refine Zpp 1 rfl ?_; refine Zm (.row 53 2 1) (Mem.add _ 53 (.rows 1 (List.map (encI .i64) [(IntKind.i64.wrap (y84 - (IntKind.i64.wrap (s3.1 + x82.Size))))]) false)) rfl rfl ?_; refine Y1 rfl ?_; refine chkK h fun g87 h => ?_; refine W.chk rfl (appChk (fun _ => rfl) g87) ?_; refine W.app rfl rfl ?_; refine Zo (.row 900002 2 (s3.2.2 ++ [(IntKind.i64.wrap (y84 - (IntKind.i64.wrap (s3.1 + x82.Size))))]).length) rfl rfl ?_; refine Zpb 8 rfl ?_; cases h; exact Zh hG [] [(900000, (900000, 1)), (900001, (900001, 1)), (900002, (900002, 2))] rfl rfl (Ze rfl rfl (Ze rfl rfl (Ze rfl rfl (Ze rfl rfl (Ze rfl rfl (Ze rfl rfl trivial)))))) (Zc rfl rfl (Zc rfl rfl (Zc rfl rfl trivial)))
      · refine Zcb 2 rfl ?_; refine headK.e ?_; refine Zob 1 rfl ?_; cases h; exact Zh hG [] [(900000, (900002, 1))] rfl rfl (Ze rfl rfl trivial) (Zc rfl rfl trivial)
    · intro s2 r2 h hG; refine Zcp 2 rfl ?_; refine Zo (.row 900000 1 s2.length) rfl rfl ?_; refine Zo (.row 900000 1 s2.length) rfl rfl ?_; refine Zpb 5 rfl ?_; cases h; cases hG; exact ⟨rfl, rfl, rfl, rfl, trivial⟩
end Go.Proofs.YtbijnfgjcbfpmaaGreat

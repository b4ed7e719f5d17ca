/-
  Plain programs of functions, and that the functions do what they say. Printed by wip/tools/gen.py.
-/
import Derived.Test.YtljdbikodogeiaaGreatDoorG4
namespace Go.Proofs.YtljdbikodogeiaaGreatDoor
open Go.RowKit
attribute [local irreducible] IntKind.wrap AW runL Step.wp
set_option linter.unusedVariables false
set_option maxHeartbeats 4000000
set_option maxRecDepth 100000
noncomputable def ref13_Check_L1 (s15 : (Int)) (p_ : api_Profile) (s24 : Int) : Option ((Int) ⊕ ((Unit) ⊕ ((Int) ⊕ ((Unit) ⊕ (Int))))) :=
  (bif (decide (s24 < s15)) then
    (getI p_.Types s15).bind fun x137 =>
    (getI p_.Types s24).bind fun x138 =>
    (bif (x137.toList == x138.toList) then
      some (.inr (.inr (.inr (.inr (5 : Int)))))
    else
      some (.inl (IntKind.i64.wrap (s24 + (1 : Int)))))
  else
    some (.inr (.inl ())))
noncomputable def ref13_Check_L2 (p_ : api_Profile) (s15 : Int) : Option ((Int) ⊕ ((Unit) ⊕ (Int))) :=
  (bif (decide (s15 < (p_.Types.length : Int))) then
    (seqF (A := Unit) (
      loopF (ref13_Check_L1 s15 p_) (0 : Int))
    fun s23 =>
      some (.inl (IntKind.i64.wrap (s15 + (1 : Int)))))
  else
    some (.inr (.inl ())))
noncomputable def ref13_Check (p_ : api_Profile) : Option (Int) :=
  (ref12_Right p_).bind fun y2 =>
  (bif (!y2) then
    some (1 : Int)
  else
    (bif (decide (p_.Size < (40 : Int))) then
      some (3 : Int)
    else
      (bif (decide ((4000 : Int) < p_.Size)) then
        some (3 : Int)
      else
        (bif (decide (p_.Parts < (1 : Int))) then
          some (3 : Int)
        else
          (bif (decide ((20 : Int) < p_.Parts)) then
            some (3 : Int)
          else
            (bif (decide ((4 : Int) < p_.Files)) then
              some (3 : Int)
            else
              (bif (decide ((65536 : Int) < p_.Bytes)) then
                some (3 : Int)
              else
                (seqF (A := Unit) (
                  (bif (decide (p_.Rate < (1 : Int))) then
                    some (.inr (3 : Int))
                  else
                    (bif (p_.Down != (0 : Int)) then
                      (bif (decide (p_.Window ≤ p_.Down)) then
                        some (.inr (3 : Int))
                      else
                        some (.inl ()))
                    else
                      some (.inl ()))))
                fun s1 =>
                  (seqF (A := Bool) (
                    (bif (p_.Files == (0 : Int)) then
                      (bif (p_.Bytes == (0 : Int)) then
                        some (.inl ((p_.Types.length : Int) == (0 : Int)))
                      else
                        some (.inl false))
                    else
                      some (.inl false)))
                  fun s2 =>
                    (seqF (A := Unit) (
                      (bif (!s2) then
                        (bif (p_.Files == (0 : Int)) then
                          some (.inr (3 : Int))
                        else
                          (bif (p_.Bytes == (0 : Int)) then
                            some (.inr (3 : Int))
                          else
                            (bif ((p_.Types.length : Int) == (0 : Int)) then
                              some (.inr (3 : Int))
                            else
                              some (.inl ()))))
                      else
                        some (.inl ())))
                    fun s3 =>
                      (seqF (A := Unit) (
                        loopF (ref13_Check_L2 p_) (0 : Int))
                      fun s14 =>
                        some (0 : Int))))))))))))
theorem ref13_Check_fn {dr : Prop} {p_ : api_Profile} {r : Int} (h : ref13_Check p_ = some r) : Fn dr Tryz.prog 89 [.agg (api_Profile.av p_)] (VI r) := by
  refine Fn.of_AW (dr := dr) (F := FnX dr Tryz.prog) (base := 0) (js := [7, 8, 10, 12, 18]) mixed tok noeqs (fun _ _ _ h => h) Tryz.call89 Tryz.func89 rfl Tryz.ntmps89 (by rw [Tryz.results89]) (by simp) ?_; have hG : (fun x => x = r) r := rfl; unfold ref13_Check at h; refine Zap 2 rfl ?_; refine Zm (.lp 1 1 0) (Mem.add _ 1 (.box (api_Profile.av p_))) rfl rfl ?_; refine Zpp 6 rfl ?_; refine Zo (.agg (api_Profile.av p_)) rfl rfl ?_; refine Y1 rfl ?_; refine bindK h fun y2 hy2 h => ?_; refine W.call rfl (ref12_Right_fn hy2) ?_; refine Zwc 4 rfl ?_; refine A.condB rfl h (fun _ h => ?_) (fun _ h => ?_)
  · refine Zcb 7 rfl ?_; cases h; cases hG; exact ⟨rfl, trivial⟩
  · refine Zcp 9 rfl ?_; refine YF rfl rfl rfl h (fun _ h => ?_) (fun _ h => ?_)
    · refine Zpb 33 rfl ?_; cases h; cases hG; exact ⟨rfl, trivial⟩
    · refine Zwp 5 rfl ?_; refine YF rfl rfl rfl h (fun _ h => ?_) (fun _ h => ?_)
      · refine Zpb 28 rfl ?_; cases h; cases hG; exact ⟨rfl, trivial⟩
      · refine Zwp 5 rfl ?_; refine YF rfl rfl rfl h (fun _ h => ?_) (fun _ h => ?_)
        · refine Zpb 23 rfl ?_; cases h; cases hG; exact ⟨rfl, trivial⟩
        · refine Zwp 5 rfl ?_; refine YF rfl rfl rfl h (fun _ h => ?_) (fun _ h => ?_)
          · refine Zpb 18 rfl ?_; cases h; cases hG; exact ⟨rfl, trivial⟩
          · refine Zwp 5 rfl ?_; refine YF rfl rfl rfl h (fun _ h => ?_) (fun _ h => ?_)
            · refine Zpb 13 rfl ?_; cases h; cases hG; exact ⟨rfl, trivial⟩
            · refine Zwc 6 rfl ?_; refine A.condB rfl h (fun _ h => ?_) (fun _ h => ?_)
              · refine Zcb 7 rfl ?_; cases h; cases hG; exact ⟨rfl, trivial⟩
              · refine Zcc 2 rfl ?_; refine A.join (fun (s1 : Unit) => [(1, .lp 900000 1 0)]) (fun s1 => [(900000, .box (api_Profile.av p_))]) _ h hG rfl ?_ ?_
                · intro J f h hG; refine Zap 6 rfl ?_; refine YF rfl rfl rfl h (fun _ h => ?_) (fun _ h => ?_)
                  · refine Zpb 19 rfl ?_; refine headK.r ?_; cases h; cases hG; exact ⟨rfl, trivial⟩
                  · refine Zwp 4 rfl ?_; refine YT rfl rfl rfl h (fun _ h => ?_) (fun _ h => ?_)
                    · refine Zwc 9 rfl ?_; refine A.condB rfl h (fun _ h => ?_) (fun _ h => ?_)
                      · refine Zcb 6 rfl ?_; refine headK.r ?_; cases h; cases hG; exact ⟨rfl, trivial⟩
                      · refine Zcb 1 rfl ?_; cases h; exact Zh hG [] [(900000, (1, 1))] rfl rfl (Ze rfl rfl trivial) (Zc rfl rfl trivial)
                    · refine Zpb 10 rfl ?_; cases h; exact Zh hG [] [(900000, (1, 1))] rfl rfl (Ze rfl rfl trivial) (Zc rfl rfl trivial)
                · intro s1 r2 h hG; refine A.join (fun (s2 : Bool) => [(1, .lp 900000 1 0), (3, VB s2)]) (fun s2 => [(900000, .box (api_Profile.av p_))]) _ h hG rfl ?_ ?_
                  · intro J f h hG; refine Zap 5 rfl ?_; refine YT rfl rfl rfl h (fun _ h => ?_) (fun _ h => ?_)
                    · refine Zwp 5 rfl ?_; refine YT rfl rfl rfl h (fun _ h => ?_) (fun _ h => ?_)
                      · refine Zwp 2 rfl ?_; refine Y2 rfl rfl rfl ?_; refine W.len rfl ?_; refine Zpb 4 rfl ?_; cases h; exact Zh hG [] [(900000, (900000, 1))] rfl rfl (Ze rfl rfl (Ze rfl rfl trivial)) (Zc rfl rfl trivial)
                      · refine Zpb 6 rfl ?_; cases h; exact Zh hG [] [(900000, (900000, 1))] rfl rfl (Ze rfl rfl (Ze rfl rfl trivial)) (Zc rfl rfl trivial)
                    · refine Zpb 11 rfl ?_; cases h; exact Zh hG [] [(900000, (900000, 1))] rfl rfl (Ze rfl rfl (Ze rfl rfl trivial)) (Zc rfl rfl trivial)
                  · intro s2 r2 h hG; refine A.join (fun (s3 : Unit) => [(1, .lp 900000 1 0)]) (fun s3 => [(900000, .box (api_Profile.av p_))]) _ h hG rfl ?_ ?_
                    · intro J f h hG; refine Zap 5 rfl ?_; refine YT rfl rfl rfl h (fun _ h => ?_) (fun _ h => ?_)
                      · refine Zwp 4 rfl ?_; refine YF rfl rfl rfl h (fun _ h => ?_) (fun _ h => ?_)
                        · refine Zpb 19 rfl ?_; refine headK.r ?_; cases h; cases hG; exact ⟨rfl, trivial⟩
                        · refine Zwp 5 rfl ?_; refine YF rfl rfl rfl h (fun _ h => ?_) (fun _ h => ?_)
                          · refine Zpb 14 rfl ?_; refine headK.r ?_; cases h; cases hG; exact ⟨rfl, trivial⟩
                          · refine Zwp 2 rfl ?_; refine Y2 rfl rfl rfl ?_; refine W.len rfl ?_; refine Zpc 5 rfl ?_; refine A.condB rfl h (fun _ h => ?_) (fun _ h => ?_)
                            · refine Zcb 6 rfl ?_; refine headK.r ?_; cases h; cases hG; exact ⟨rfl, trivial⟩
                            · refine Zcb 1 rfl ?_; cases h; exact Zh hG [] [(900000, (900000, 1))] rfl rfl (Ze rfl rfl trivial) (Zc rfl rfl trivial)
                      · refine Zpb 18 rfl ?_; cases h; exact Zh hG [] [(900000, (900000, 1))] rfl rfl (Ze rfl rfl trivial) (Zc rfl rfl trivial)
                    · intro s3 r2 h hG; refine A.join (fun (s14 : Unit) => []) (fun s14 => []) _ h hG rfl ?_ ?_
                      · intro J f h hG; refine Zac 6 rfl ?_; refine A.loop (fun (s15 : Int) => [(1, .lp 900000 1 0), (4, VI s15)]) (fun s15 => [(900000, .box (api_Profile.av p_))]) _ h hG (Zf [] [(900000, (900000, 1))] rfl rfl (Ze rfl rfl (Ze rfl rfl trivial)) (Zc rfl rfl trivial)) ?_; intro J s15 f h hG; unfold ref13_Check_L2 at h; refine Zap 6 rfl ?_; refine Y1 rfl ?_; refine W.len rfl ?_; refine Zpc 3 rfl ?_; refine A.condB rfl h (fun _ h => ?_) (fun _ h => ?_)
                        · refine Zcc 2 rfl ?_; refine A.join (fun (s23 : Unit) => [(1, .lp 900000 1 0), (4, VI s15)]) (fun s23 => [(900000, .box (api_Profile.av p_))]) _ h hG rfl ?_ ?_
                          · intro J f h hG; refine Zac 7 rfl ?_; refine A.loop (fun (s24 : Int) => [(1, .lp 900000 1 0), (4, VI s15), (5, VI s24)]) (fun s24 => [(900000, .box (api_Profile.av p_))]) _ h hG (Zf [] [(900000, (900000, 1))] rfl rfl (Ze rfl rfl (Ze rfl rfl (Ze rfl rfl trivial))) (Zc rfl rfl trivial)) ?_; intro J s24 f h hG; unfold ref13_Check_L1 at h; refine Zac 8 rfl ?_; refine A.condB rfl h (fun _ h => ?_) (fun _ h => ?_)
                            · refine Zcc 5 rfl ?_; refine A.regionD (by kernel_rfl) ?_; refine Zpp 3 rfl ?_; refine Y1 rfl ?_; refine bindK h fun x137 hx137 h => ?_; refine W.chk rfl (elemB hx137) ?_; refine W.elem rfl (elemG hx137) ?_; refine W.chk rfl rfl ?_; refine W.det (.fp [.v (.string x137)]) _ rfl ?_; refine Zpp 4 rfl ?_; refine Y1 rfl ?_; refine bindK h fun x138 hx138 h => ?_; refine W.chk rfl (elemB hx138) ?_; refine W.elem rfl (elemG hx138) ?_; refine W.chk rfl rfl ?_; refine W.det (.fp [.v (.string x138)]) _ rfl ?_; refine Zpc 4 rfl ?_; refine A.condB rfl h (fun _ h => ?_) (fun _ h => ?_)
                              · refine Zcb 8 rfl ?_; refine headK.r ?_; refine Zob 2 rfl ?_; refine headK.r ?_; refine headK.r ?_; refine Zob 1 rfl ?_; refine headK.r ?_; cases h; cases hG; exact ⟨rfl, trivial⟩
                              · refine Zcb 8 rfl ?_; cases h; exact Zh hG [] [(900000, (900000, 1))] rfl rfl (Ze rfl rfl (Ze rfl rfl (Ze rfl rfl trivial))) (Zc rfl rfl trivial)
                            · refine Zcb 2 rfl ?_; refine headK.e ?_; refine Zob 2 rfl ?_; cases h; exact Zh hG [] [(900000, (900000, 1))] rfl rfl (Ze rfl rfl (Ze rfl rfl trivial)) (Zc rfl rfl trivial)
                          · intro s23 r2 h hG; refine Zcb 5 rfl ?_; cases h; exact Zh hG [] [(900000, (900000, 1))] rfl rfl (Ze rfl rfl (Ze rfl rfl trivial)) (Zc rfl rfl trivial)
                        · refine Zcb 2 rfl ?_; refine headK.e ?_; refine Zob 1 rfl ?_; cases h; exact Zh hG [] [] rfl rfl trivial trivial
                      · intro s14 r2 h hG; refine Zcb 6 rfl ?_; cases h; cases hG; exact ⟨rfl, trivial⟩
noncomputable def ref19_way (how_ : Int) (finds_ : Int) : Option (api_Way) :=
  some (api_Way.mk how_ finds_)
theorem ref19_way_fn {dr : Prop} {how_ : Int} {finds_ : Int} {r : api_Way} (h : ref19_way how_ finds_ = some r) : Fn dr Tryz.prog 90 [VI how_, VI finds_] (.agg (api_Way.av r)) := by
  refine Fn.of_AW (dr := dr) (F := FnX dr Tryz.prog) (base := 0) (js := []) mixed tok noeqs (fun _ _ _ h => h) Tryz.call90 Tryz.func90 rfl Tryz.ntmps90 (by rw [Tryz.results90]) (by simp) ?_; have hG : (fun x => x = r) r := rfl; unfold ref19_way at h; refine Zap 2 rfl ?_; refine Zm (.lp 4 1 0) (Mem.add _ 4 (.box [VI 0, VI 0])) rfl rfl ?_; refine Zpp 6 rfl ?_; refine Zo (.agg [VI how_, VI finds_]) rfl rfl ?_; refine Zm (.tup []) (Mem.set _ 4 1 (some (.box [VI how_, VI finds_]))) rfl rfl ?_; refine Zpb 3 rfl ?_; cases h; cases hG; exact ⟨rfl, rfl, trivial⟩
noncomputable def ref19_long (p_ : api_Profile) : Option (api_Way) :=
  (bif (decide ((2 : Int) ≤ p_.Parts)) then
    (bif (decide ((4400 : Int) ≤ (IntKind.i64.wrap (p_.Size * p_.Parts)))) then
      (ref19_way (1 : Int) (1 : Int)).bind fun y2 =>
      some y2
    else
      (bif (decide ((2 : Int) ≤ p_.Parts)) then
        (ref19_way (4 : Int) (1 : Int)).bind fun y4 =>
        some y4
      else
        (ref19_way (4 : Int) (0 : Int)).bind fun y5 =>
        some y5))
  else
    (bif (decide ((2 : Int) ≤ p_.Parts)) then
      (ref19_way (4 : Int) (1 : Int)).bind fun y7 =>
      some y7
    else
      (ref19_way (4 : Int) (0 : Int)).bind fun y8 =>
      some y8))
theorem ref19_long_fn {dr : Prop} {p_ : api_Profile} {r : api_Way} (h : ref19_long p_ = some r) : Fn dr Tryz.prog 91 [.agg (api_Profile.av p_)] (.agg (api_Way.av r)) := by
  refine Fn.of_AW (dr := dr) (F := FnX dr Tryz.prog) (base := 0) (js := []) mixed tok noeqs (fun _ _ _ h => h) Tryz.call91 Tryz.func91 rfl Tryz.ntmps91 (by rw [Tryz.results91]) (by simp) ?_; have hG : (fun x => x = r) r := rfl; unfold ref19_long at h; refine Zap 2 rfl ?_; refine Zm (.lp 1 1 0) (Mem.add _ 1 (.box (api_Profile.av p_))) rfl rfl ?_; refine Zm (.lp 2 1 0) (Mem.add _ 2 (.box [VI 0, VI 0])) rfl rfl ?_; refine Zpp 9 rfl ?_; refine YT rfl rfl rfl h (fun _ h => ?_) (fun _ h => ?_)
  · refine Zwc 9 rfl ?_; refine A.condB rfl h (fun _ h => ?_) (fun _ h => ?_)
    · refine Zcp 2 rfl ?_; refine Y1 rfl ?_; refine bindK h fun y2 hy2 h => ?_; refine W.call rfl (ref19_way_fn hy2) ?_; refine W.det (.agg (api_Way.av y2)) _ rfl ?_; refine Zm (.tup []) (Mem.set _ 2 1 (some (.box (api_Way.av y2)))) rfl rfl ?_; refine Zpb 4 rfl ?_; cases h; cases hG; exact ⟨rfl, rfl, trivial⟩
    · refine Zcc 10 rfl ?_; refine A.condB rfl h (fun _ h => ?_) (fun _ h => ?_)
      · refine Zcp 2 rfl ?_; refine Y1 rfl ?_; refine bindK h fun y4 hy4 h => ?_; refine W.call rfl (ref19_way_fn hy4) ?_; refine W.det (.agg (api_Way.av y4)) _ rfl ?_; refine Zm (.tup []) (Mem.set _ 2 1 (some (.box (api_Way.av y4)))) rfl rfl ?_; refine Zpb 4 rfl ?_; cases h; cases hG; exact ⟨rfl, rfl, trivial⟩
      · refine Zcp 4 rfl ?_; refine Y1 rfl ?_; refine bindK h fun y5 hy5 h => ?_; refine W.call rfl (ref19_way_fn hy5) ?_; refine W.det (.agg (api_Way.av y5)) _ rfl ?_; refine Zm (.tup []) (Mem.set _ 2 1 (some (.box (api_Way.av y5)))) rfl rfl ?_; refine Zpb 3 rfl ?_; cases h; cases hG; exact ⟨rfl, rfl, trivial⟩
  · refine Zpc 19 rfl ?_; refine A.condB rfl h (fun _ h => ?_) (fun _ h => ?_)
    · refine Zcp 2 rfl ?_; refine Y1 rfl ?_; refine bindK h fun y7 hy7 h => ?_; refine W.call rfl (ref19_way_fn hy7) ?_; refine W.det (.agg (api_Way.av y7)) _ rfl ?_; refine Zm (.tup []) (Mem.set _ 2 1 (some (.box (api_Way.av y7)))) rfl rfl ?_; refine Zpb 4 rfl ?_; cases h; cases hG; exact ⟨rfl, rfl, trivial⟩
    · refine Zcp 4 rfl ?_; refine Y1 rfl ?_; refine bindK h fun y8 hy8 h => ?_; refine W.call rfl (ref19_way_fn hy8) ?_; refine W.det (.agg (api_Way.av y8)) _ rfl ?_; refine Zm (.tup []) (Mem.set _ 2 1 (some (.box (api_Way.av y8)))) rfl rfl ?_; refine Zpb 3 rfl ?_; cases h; cases hG; exact ⟨rfl, rfl, trivial⟩
noncomputable def ref19_edit (p_ : api_Profile) : Option (api_Way) :=
  (bif (p_.Edit == (2 : Int)) then
    (bif (p_.Within == (0 : Int)) then
      (ref19_way (0 : Int) (0 : Int)).bind fun y2 =>
      some y2
    else
      (ref19_way (3 : Int) (2 : Int)).bind fun y3 =>
      some y3)
  else
    (ref19_way (3 : Int) (2 : Int)).bind fun y4 =>
    some y4)
theorem ref19_edit_fn {dr : Prop} {p_ : api_Profile} {r : api_Way} (h : ref19_edit p_ = some r) : Fn dr Tryz.prog 92 [.agg (api_Profile.av p_)] (.agg (api_Way.av r)) := by
  refine Fn.of_AW (dr := dr) (F := FnX dr Tryz.prog) (base := 0) (js := []) mixed tok noeqs (fun _ _ _ h => h) Tryz.call92 Tryz.func92 rfl Tryz.ntmps92 (by rw [Tryz.results92]) (by simp) ?_; have hG : (fun x => x = r) r := rfl; unfold ref19_edit at h; refine Zap 2 rfl ?_; refine Zm (.lp 1 1 0) (Mem.add _ 1 (.box (api_Profile.av p_))) rfl rfl ?_; refine Zm (.lp 2 1 0) (Mem.add _ 2 (.box [VI 0, VI 0])) rfl rfl ?_; refine Zpp 9 rfl ?_; refine YT rfl rfl rfl h (fun _ h => ?_) (fun _ h => ?_)
  · refine Zwc 6 rfl ?_; refine A.condB rfl h (fun _ h => ?_) (fun _ h => ?_)
    · refine Zcp 2 rfl ?_; refine Y1 rfl ?_; refine bindK h fun y2 hy2 h => ?_; refine W.call rfl (ref19_way_fn hy2) ?_; refine W.det (.agg (api_Way.av y2)) _ rfl ?_; refine Zm (.tup []) (Mem.set _ 2 1 (some (.box (api_Way.av y2)))) rfl rfl ?_; refine Zpb 4 rfl ?_; cases h; cases hG; exact ⟨rfl, rfl, trivial⟩
    · refine Zcp 4 rfl ?_; refine Y1 rfl ?_; refine bindK h fun y3 hy3 h => ?_; refine W.call rfl (ref19_way_fn hy3) ?_; refine W.det (.agg (api_Way.av y3)) _ rfl ?_; refine Zm (.tup []) (Mem.set _ 2 1 (some (.box (api_Way.av y3)))) rfl rfl ?_; refine Zpb 3 rfl ?_; cases h; cases hG; exact ⟨rfl, rfl, trivial⟩
  · refine Zpp 10 rfl ?_; refine Y1 rfl ?_; refine bindK h fun y4 hy4 h => ?_; refine W.call rfl (ref19_way_fn hy4) ?_; refine W.det (.agg (api_Way.av y4)) _ rfl ?_; refine Zm (.tup []) (Mem.set _ 2 1 (some (.box (api_Way.av y4)))) rfl rfl ?_; refine Zpb 3 rfl ?_; cases h; cases hG; exact ⟨rfl, rfl, trivial⟩
noncomputable def ref19_gone (p_ : api_Profile) : Option (api_Way) :=
  (bif (p_.Delete != (0 : Int)) then
    (ref19_way (0 : Int) (0 : Int)).bind fun y2 =>
    some y2
  else
    (ref19_edit p_).bind fun y5 =>
    (bif (y5.How == (0 : Int)) then
      (ref19_way (2 : Int) (0 : Int)).bind fun y6 =>
      some y6
    else
      (ref19_way (3 : Int) (2 : Int)).bind fun y7 =>
      some y7))
theorem ref19_gone_fn {dr : Prop} {p_ : api_Profile} {r : api_Way} (h : ref19_gone p_ = some r) : Fn dr Tryz.prog 93 [.agg (api_Profile.av p_)] (.agg (api_Way.av r)) := by
  refine Fn.of_AW (dr := dr) (F := FnX dr Tryz.prog) (base := 0) (js := []) mixed tok noeqs (fun _ _ _ h => h) Tryz.call93 Tryz.func93 rfl Tryz.ntmps93 (by rw [Tryz.results93]) (by simp) ?_; have hG : (fun x => x = r) r := rfl; unfold ref19_gone at h; refine Zap 2 rfl ?_; refine Zm (.lp 1 1 0) (Mem.add _ 1 (.box (api_Profile.av p_))) rfl rfl ?_; refine Zm (.lp 2 1 0) (Mem.add _ 2 (.box [VI 0, VI 0])) rfl rfl ?_; refine Zpc 10 rfl ?_; refine A.condB rfl h (fun _ h => ?_) (fun _ h => ?_)
  · refine Zcp 2 rfl ?_; refine Y1 rfl ?_; refine bindK h fun y2 hy2 h => ?_; refine W.call rfl (ref19_way_fn hy2) ?_; refine W.det (.agg (api_Way.av y2)) _ rfl ?_; refine Zm (.tup []) (Mem.set _ 2 1 (some (.box (api_Way.av y2)))) rfl rfl ?_; refine Zpb 4 rfl ?_; cases h; cases hG; exact ⟨rfl, rfl, trivial⟩
  · refine Zcp 5 rfl ?_; refine Zo (.agg (api_Profile.av p_)) rfl rfl ?_; refine Y1 rfl ?_; refine bindK h fun y5 hy5 h => ?_; refine W.call rfl (ref19_edit_fn hy5) ?_; refine W.det (.agg (api_Way.av y5)) _ rfl ?_; refine Zpc 4 rfl ?_; refine A.condB rfl h (fun _ h => ?_) (fun _ h => ?_)
    · refine Zcp 2 rfl ?_; refine Y1 rfl ?_; refine bindK h fun y6 hy6 h => ?_; refine W.call rfl (ref19_way_fn hy6) ?_; refine W.det (.agg (api_Way.av y6)) _ rfl ?_; refine Zm (.tup []) (Mem.set _ 2 1 (some (.box (api_Way.av y6)))) rfl rfl ?_; refine Zpb 4 rfl ?_; cases h; cases hG; exact ⟨rfl, rfl, trivial⟩
    · refine Zcp 4 rfl ?_; refine Y1 rfl ?_; refine bindK h fun y7 hy7 h => ?_; refine W.call rfl (ref19_way_fn hy7) ?_; refine W.det (.agg (api_Way.av y7)) _ rfl ?_; refine Zm (.tup []) (Mem.set _ 2 1 (some (.box (api_Way.av y7)))) rfl rfl ?_; refine Zpb 3 rfl ?_; cases h; cases hG; exact ⟨rfl, rfl, trivial⟩
noncomputable def ref19_react (p_ : api_Profile) : Option (api_Way) :=
  (bif (!p_.React) then
    (ref19_way (3 : Int) (2 : Int)).bind fun y2 =>
    some y2
  else
    (bif (p_.Parts == (1 : Int)) then
      (ref19_way (0 : Int) (0 : Int)).bind fun y4 =>
      some y4
    else
      (ref19_way (0 : Int) (1 : Int)).bind fun y5 =>
      some y5))
theorem ref19_react_fn {dr : Prop} {p_ : api_Profile} {r : api_Way} (h : ref19_react p_ = some r) : Fn dr Tryz.prog 94 [.agg (api_Profile.av p_)] (.agg (api_Way.av r)) := by
  refine Fn.of_AW (dr := dr) (F := FnX dr Tryz.prog) (base := 0) (js := []) mixed tok noeqs (fun _ _ _ h => h) Tryz.call94 Tryz.func94 rfl Tryz.ntmps94 (by rw [Tryz.results94]) (by simp) ?_; have hG : (fun x => x = r) r := rfl; unfold ref19_react at h; refine Zap 2 rfl ?_; refine Zm (.lp 1 1 0) (Mem.add _ 1 (.box (api_Profile.av p_))) rfl rfl ?_; refine Zm (.lp 2 1 0) (Mem.add _ 2 (.box [VI 0, VI 0])) rfl rfl ?_; refine Zpc 10 rfl ?_; refine A.condB rfl h (fun _ h => ?_) (fun _ h => ?_)
  · refine Zcp 2 rfl ?_; refine Y1 rfl ?_; refine bindK h fun y2 hy2 h => ?_; refine W.call rfl (ref19_way_fn hy2) ?_; refine W.det (.agg (api_Way.av y2)) _ rfl ?_; refine Zm (.tup []) (Mem.set _ 2 1 (some (.box (api_Way.av y2)))) rfl rfl ?_; refine Zpb 4 rfl ?_; cases h; cases hG; exact ⟨rfl, rfl, trivial⟩
  · refine Zcc 10 rfl ?_; refine A.condB rfl h (fun _ h => ?_) (fun _ h => ?_)
    · refine Zcp 2 rfl ?_; refine Y1 rfl ?_; refine bindK h fun y4 hy4 h => ?_; refine W.call rfl (ref19_way_fn hy4) ?_; refine W.det (.agg (api_Way.av y4)) _ rfl ?_; refine Zm (.tup []) (Mem.set _ 2 1 (some (.box (api_Way.av y4)))) rfl rfl ?_; refine Zpb 4 rfl ?_; cases h; cases hG; exact ⟨rfl, rfl, trivial⟩
    · refine Zcp 4 rfl ?_; refine Y1 rfl ?_; refine bindK h fun y5 hy5 h => ?_; refine W.call rfl (ref19_way_fn hy5) ?_; refine W.det (.agg (api_Way.av y5)) _ rfl ?_; refine Zm (.tup []) (Mem.set _ 2 1 (some (.box (api_Way.av y5)))) rfl rfl ?_; refine Zpb 3 rfl ?_; cases h; cases hG; exact ⟨rfl, rfl, trivial⟩
noncomputable def ref19_reply (p_ : api_Profile) : Option (api_Way) :=
  (bif (p_.Thread == (2 : Int)) then
    (ref19_way (0 : Int) (0 : Int)).bind fun y2 =>
    some y2
  else
    (bif (p_.Thread == (1 : Int)) then
      (ref19_way (2 : Int) (1 : Int)).bind fun y4 =>
      some y4
    else
      (ref19_way (2 : Int) (2 : Int)).bind fun y5 =>
      some y5))
theorem ref19_reply_fn {dr : Prop} {p_ : api_Profile} {r : api_Way} (h : ref19_reply p_ = some r) : Fn dr Tryz.prog 95 [.agg (api_Profile.av p_)] (.agg (api_Way.av r)) := by
  refine Fn.of_AW (dr := dr) (F := FnX dr Tryz.prog) (base := 0) (js := []) mixed tok noeqs (fun _ _ _ h => h) Tryz.call95 Tryz.func95 rfl Tryz.ntmps95 (by rw [Tryz.results95]) (by simp) ?_; have hG : (fun x => x = r) r := rfl; unfold ref19_reply at h; refine Zap 2 rfl ?_; refine Zm (.lp 1 1 0) (Mem.add _ 1 (.box (api_Profile.av p_))) rfl rfl ?_; refine Zm (.lp 2 1 0) (Mem.add _ 2 (.box [VI 0, VI 0])) rfl rfl ?_; refine Zpc 10 rfl ?_; refine A.condB rfl h (fun _ h => ?_) (fun _ h => ?_)
  · refine Zcp 2 rfl ?_; refine Y1 rfl ?_; refine bindK h fun y2 hy2 h => ?_; refine W.call rfl (ref19_way_fn hy2) ?_; refine W.det (.agg (api_Way.av y2)) _ rfl ?_; refine Zm (.tup []) (Mem.set _ 2 1 (some (.box (api_Way.av y2)))) rfl rfl ?_; refine Zpb 4 rfl ?_; cases h; cases hG; exact ⟨rfl, rfl, trivial⟩
  · refine Zcc 10 rfl ?_; refine A.condB rfl h (fun _ h => ?_) (fun _ h => ?_)
    · refine Zcp 2 rfl ?_; refine Y1 rfl ?_; refine bindK h fun y4 hy4 h => ?_; refine W.call rfl (ref19_way_fn hy4) ?_; refine W.det (.agg (api_Way.av y4)) _ rfl ?_; refine Zm (.tup []) (Mem.set _ 2 1 (some (.box (api_Way.av y4)))) rfl rfl ?_; refine Zpb 4 rfl ?_; cases h; cases hG; exact ⟨rfl, rfl, trivial⟩
    · refine Zcp 4 rfl ?_; refine Y1 rfl ?_; refine bindK h fun y5 hy5 h => ?_; refine W.call rfl (ref19_way_fn hy5) ?_; refine W.det (.agg (api_Way.av y5)) _ rfl ?_; refine Zm (.tup []) (Mem.set _ 2 1 (some (.box (api_Way.av y5)))) rfl rfl ?_; refine Zpb 3 rfl ?_; cases h; cases hG; exact ⟨rfl, rfl, trivial⟩
noncomputable def ref19_own (can_ : Bool) : Option (api_Way) :=
  (bif can_ then
    (ref19_way (0 : Int) (0 : Int)).bind fun y2 =>
    some y2
  else
    (ref19_way (2 : Int) (2 : Int)).bind fun y3 =>
    some y3)
theorem ref19_own_fn {dr : Prop} {can_ : Bool} {r : api_Way} (h : ref19_own can_ = some r) : Fn dr Tryz.prog 96 [VB can_] (.agg (api_Way.av r)) := by
  refine Fn.of_AW (dr := dr) (F := FnX dr Tryz.prog) (base := 0) (js := []) mixed tok noeqs (fun _ _ _ h => h) Tryz.call96 Tryz.func96 rfl Tryz.ntmps96 (by rw [Tryz.results96]) (by simp) ?_; have hG : (fun x => x = r) r := rfl; unfold ref19_own at h; refine Zap 2 rfl ?_; refine Zm (.lp 2 1 0) (Mem.add _ 2 (.box [VI 0, VI 0])) rfl rfl ?_; refine Zpc 8 rfl ?_; refine A.condB rfl h (fun _ h => ?_) (fun _ h => ?_)
  · refine Zcp 2 rfl ?_; refine Y1 rfl ?_; refine bindK h fun y2 hy2 h => ?_; refine W.call rfl (ref19_way_fn hy2) ?_; refine W.det (.agg (api_Way.av y2)) _ rfl ?_; refine Zm (.tup []) (Mem.set _ 2 1 (some (.box (api_Way.av y2)))) rfl rfl ?_; refine Zpb 4 rfl ?_; cases h; cases hG; exact ⟨rfl, rfl, trivial⟩
  · refine Zcp 4 rfl ?_; refine Y1 rfl ?_; refine bindK h fun y3 hy3 h => ?_; refine W.call rfl (ref19_way_fn hy3) ?_; refine W.det (.agg (api_Way.av y3)) _ rfl ?_; refine Zm (.tup []) (Mem.set _ 2 1 (some (.box (api_Way.av y3)))) rfl rfl ?_; refine Zpb 3 rfl ?_; cases h; cases hG; exact ⟨rfl, rfl, trivial⟩
noncomputable def ref19_file (p_ : api_Profile) : Option (api_Way) :=
  (bif (decide ((4 : Int) ≤ p_.Files)) then
    (ref19_way (0 : Int) (0 : Int)).bind fun y2 =>
    some y2
  else
    (bif (decide ((1 : Int) ≤ p_.Files)) then
      (ref19_way (4 : Int) (1 : Int)).bind fun y4 =>
      some y4
    else
      (ref19_way (2 : Int) (2 : Int)).bind fun y5 =>
      some y5))
theorem ref19_file_fn {dr : Prop} {p_ : api_Profile} {r : api_Way} (h : ref19_file p_ = some r) : Fn dr Tryz.prog 97 [.agg (api_Profile.av p_)] (.agg (api_Way.av r)) := by
  refine Fn.of_AW (dr := dr) (F := FnX dr Tryz.prog) (base := 0) (js := []) mixed tok noeqs (fun _ _ _ h => h) Tryz.call97 Tryz.func97 rfl Tryz.ntmps97 (by rw [Tryz.results97]) (by simp) ?_; have hG : (fun x => x = r) r := rfl; unfold ref19_file at h; refine Zap 2 rfl ?_; refine Zm (.lp 1 1 0) (Mem.add _ 1 (.box (api_Profile.av p_))) rfl rfl ?_; refine Zm (.lp 2 1 0) (Mem.add _ 2 (.box [VI 0, VI 0])) rfl rfl ?_; refine Zpc 10 rfl ?_; refine A.condB rfl h (fun _ h => ?_) (fun _ h => ?_)
  · refine Zcp 2 rfl ?_; refine Y1 rfl ?_; refine bindK h fun y2 hy2 h => ?_; refine W.call rfl (ref19_way_fn hy2) ?_; refine W.det (.agg (api_Way.av y2)) _ rfl ?_; refine Zm (.tup []) (Mem.set _ 2 1 (some (.box (api_Way.av y2)))) rfl rfl ?_; refine Zpb 4 rfl ?_; cases h; cases hG; exact ⟨rfl, rfl, trivial⟩
  · refine Zcc 10 rfl ?_; refine A.condB rfl h (fun _ h => ?_) (fun _ h => ?_)
    · refine Zcp 2 rfl ?_; refine Y1 rfl ?_; refine bindK h fun y4 hy4 h => ?_; refine W.call rfl (ref19_way_fn hy4) ?_; refine W.det (.agg (api_Way.av y4)) _ rfl ?_; refine Zm (.tup []) (Mem.set _ 2 1 (some (.box (api_Way.av y4)))) rfl rfl ?_; refine Zpb 4 rfl ?_; cases h; cases hG; exact ⟨rfl, rfl, trivial⟩
    · refine Zcp 4 rfl ?_; refine Y1 rfl ?_; refine bindK h fun y5 hy5 h => ?_; refine W.call rfl (ref19_way_fn hy5) ?_; refine W.det (.agg (api_Way.av y5)) _ rfl ?_; refine Zm (.tup []) (Mem.set _ 2 1 (some (.box (api_Way.av y5)))) rfl rfl ?_; refine Zpb 3 rfl ?_; cases h; cases hG; exact ⟨rfl, rfl, trivial⟩
noncomputable def ref19_Compile (p_ : api_Profile) : Option ((List api_Way) × Int) :=
  (ref13_Check p_).bind fun y1 =>
  (bif (y1 != (0 : Int)) then
    some (([] : List api_Way), y1)
  else
    (ref19_way (0 : Int) (0 : Int)).bind fun y2 =>
    (ref19_long p_).bind fun y3 =>
    (ref19_edit p_).bind fun y4 =>
    (ref19_gone p_).bind fun y5 =>
    (ref19_react p_).bind fun y6 =>
    (ref19_reply p_).bind fun y7 =>
    (ref19_own p_.Quote).bind fun y8 =>
    (ref19_own p_.Mention).bind fun y9 =>
    (ref19_file p_).bind fun y10 =>
    some ([y2, y3, y4, y5, y6, y7, y8, y9, y10], (0 : Int)))
theorem ref19_Compile_fn {dr : Prop} {p_ : api_Profile} {r : (List api_Way) × Int} (h : ref19_Compile p_ = some r) : Fn dr Tryz.prog 59 [.agg (api_Profile.av p_)] (.tup [.ow 2 (List.map api_Way.enc r.1), VI r.2]) := by
  refine Fn.of_AW (dr := dr) (F := FnX dr Tryz.prog) (base := 0) (js := []) mixed tok noeqs (fun _ _ _ h => h) Tryz.call59 Tryz.func59 rfl Tryz.ntmps59 (by rw [Tryz.results59]) (by simp) ?_; have hG : (fun x => x = r) r := rfl; unfold ref19_Compile at h; refine Zap 2 rfl ?_; refine Zm (.lp 1 1 0) (Mem.add _ 1 (.box (api_Profile.av p_))) rfl rfl ?_; refine Zm (.row 2 1 0) (Mem.add _ 2 (.rows 2 (List.map api_Way.enc ([] : List api_Way)) false)) rfl rfl ?_; refine Zpp 5 rfl ?_; refine Zo (.agg (api_Profile.av p_)) rfl rfl ?_; refine Y1 rfl ?_; refine bindK h fun y1 hy1 h => ?_; refine W.call rfl (ref13_Check_fn hy1) ?_; refine Zwc 11 rfl ?_; refine A.condB rfl h (fun _ h => ?_) (fun _ h => ?_)
  · refine Zcp 3 rfl ?_; refine Zm (.row 2 2 0) (Mem.add _ 2 (.rows 2 (List.map api_Way.enc ([] : List api_Way)) false)) rfl rfl ?_; refine Zpb 5 rfl ?_; cases h; cases hG; exact ⟨rfl, rfl, rfl, trivial⟩
  · refine Zcc 3 rfl ?_; refine A.regionD (by kernel_rfl) ?_; refine Y1 rfl ?_; refine bindK h fun y2 hy2 h => ?_; refine W.call rfl (ref19_way_fn hy2) ?_; refine W.det (.agg (api_Way.av y2)) _ rfl ?_; refine Zo (.agg (api_Profile.av p_)) rfl rfl ?_; refine Y1 rfl ?_; refine bindK h fun y3 hy3 h => ?_; refine W.call rfl (ref19_long_fn hy3) ?_; refine W.det (.agg (api_Way.av y3)) _ rfl ?_; refine Zo (.agg (api_Profile.av p_)) rfl rfl ?_; refine Y1 rfl ?_; refine bindK h fun y4 hy4 h => ?_; refine W.call rfl (ref19_edit_fn hy4) ?_; refine W.det (.agg (api_Way.av y4)) _ rfl ?_; refine Zo (.agg (api_Profile.av p_)) rfl rfl ?_; refine Y1 rfl ?_; refine bindK h fun y5 hy5 h => ?_; refine W.call rfl (ref19_gone_fn hy5) ?_; refine W.det (.agg (api_Way.av y5)) _ rfl ?_; refine Zo (.agg (api_Profile.av p_)) rfl rfl ?_; refine Y1 rfl ?_; refine bindK h fun y6 hy6 h => ?_; refine W.call rfl (ref19_react_fn hy6) ?_; refine W.det (.agg (api_Way.av y6)) _ rfl ?_; refine Zo (.agg (api_Profile.av p_)) rfl rfl ?_; refine Y1 rfl ?_; refine bindK h fun y7 hy7 h => ?_; refine W.call rfl (ref19_reply_fn hy7) ?_; refine W.det (.agg (api_Way.av y7)) _ rfl ?_; refine Zpp 2 rfl ?_; refine Y1 rfl ?_; refine bindK h fun y8 hy8 h => ?_; refine W.call rfl (ref19_own_fn hy8) ?_; refine W.det (.agg (api_Way.av y8)) _ rfl ?_; refine Zpp 2 rfl ?_; refine Y1 rfl ?_; refine bindK h fun y9 hy9 h => ?_; refine W.call rfl (ref19_own_fn hy9) ?_; refine W.det (.agg (api_Way.av y9)) _ rfl ?_; refine Zo (.agg (api_Profile.av p_)) rfl rfl ?_; refine Y1 rfl ?_; refine bindK h fun y10 hy10 h => ?_; refine W.call rfl (ref19_file_fn hy10) ?_; refine W.det (.agg (api_Way.av y10)) _ rfl ?_; refine Zm (.row 29 1 9) (Mem.add _ 29 (.rows 2 (List.map api_Way.enc [y2, y3, y4, y5, y6, y7, y8, y9, y10]) false)) rfl rfl ?_; refine Zo (.row 29 1 9) rfl rfl ?_; refine Zpb 4 rfl ?_; cases h; cases hG; exact ⟨rfl, rfl, rfl, trivial⟩
noncomputable def ref21_Same_L1 (y1 : (List api_Way) × Int) (ways_ : (List api_Way)) (s3 : Int) : Option ((Int) ⊕ ((Unit) ⊕ (Bool))) :=
  (bif (decide (s3 < ((y1.1.length : Nat) : Int))) then
    (chkO (decide (0 ≤ s3) && decide (s3 < ((y1.1.length : Nat) : Int)))).bind fun _ =>
    (getI y1.1 s3).bind fun x36 =>
    (getI ways_ s3).bind fun x37 =>
    (bif (!((x36.How == x37.How) && ((x36.Finds == x37.Finds) && true))) then
      some (.inr (.inr false))
    else
      some (.inl (IntKind.i64.wrap (s3 + (1 : Int)))))
  else
    some (.inr (.inl ())))
noncomputable def ref21_Same (p_ : api_Profile) (ways_ : (List api_Way)) : Option (Bool) :=
  (ref19_Compile p_).bind fun y1 =>
  (bif (y1.2 != (0 : Int)) then
    some false
  else
    (bif (((y1.1.length : Nat) : Int) != (ways_.length : Int)) then
      some false
    else
      (seqF (A := Unit) (
        loopF (ref21_Same_L1 y1 ways_) (0 : Int))
      fun s2 =>
        some true)))
theorem ref21_Same_fn {dr : Prop} {p_ : api_Profile} {ways_ : (List api_Way)} {r : Bool} (h : ref21_Same p_ ways_ = some r) : Fn dr Tryz.prog 24 [.agg (api_Profile.av p_), VF (List.map api_Way.enc ways_)] (VB r) := by
  refine Fn.of_AW (dr := dr) (F := FnX dr Tryz.prog) (base := 0) (js := [9]) mixed tok noeqs (fun _ _ _ h => h) Tryz.call24 Tryz.func24 rfl Tryz.ntmps24 (by rw [Tryz.results24]) (by simp) ?_; have hG : (fun x => x = r) r := rfl; unfold ref21_Same at h; refine Zap 2 rfl ?_; refine Zm (.lp 2 1 0) (Mem.add _ 2 (.box (api_Profile.av p_))) rfl rfl ?_; refine Zpp 5 rfl ?_; refine Zo (.agg (api_Profile.av p_)) rfl rfl ?_; refine Y1 rfl ?_; refine bindK h fun y1 hy1 h => ?_; refine W.call rfl (ref19_Compile_fn hy1) ?_; refine W.v (.tup [.row 1048586 1 (List.map api_Way.enc y1.1).length, VI y1.2]) (.tup [.row 1048586 1 y1.1.length, VI y1.2]) (Mem.add _ 1048586 (.rows 2 (List.map api_Way.enc y1.1) false)) rfl (by simp only [List.length_map]) ?_; refine Zo (.tup [.row 1048586 1 y1.1.length, VI y1.2]) rfl rfl ?_; refine Zo (.row 1048586 1 y1.1.length) rfl rfl ?_; refine Zpp 1 rfl ?_; refine Zo (.row 1048586 1 y1.1.length) rfl rfl ?_; refine Zpp 9 rfl ?_; refine YF rfl rfl rfl h (fun _ h => ?_) (fun _ h => ?_)
  · refine Zpb 15 rfl ?_; cases h; cases hG; exact ⟨rfl, trivial⟩
  · refine W.det (.row 1048586 1 y1.1.length) _ rfl ?_; refine Zpp 2 rfl ?_; refine Y2 rfl rfl rfl ?_; refine W.len rfl ?_; refine Zpc 4 rfl ?_; refine A.condB rfl h (fun _ h => ?_) (fun _ h => ?_)
    · refine Zcb 7 rfl ?_; cases h; cases hG; exact ⟨rfl, trivial⟩
    · refine Zcc 2 rfl ?_; refine A.join (fun (s2 : Unit) => []) (fun s2 => []) _ h hG rfl ?_ ?_
      · intro J f h hG; refine Zac 6 rfl ?_; refine A.loop (fun (s3 : Int) => [(1, VF (List.map api_Way.enc ways_)), (5, .row 900000 1 y1.1.length), (7, VI s3)]) (fun s3 => [(900000, .rows 2 (List.map api_Way.enc y1.1) false)]) _ h hG (Zf [] [(900000, (1048586, 1))] rfl rfl (Ze rfl rfl (Ze rfl rfl (Ze rfl rfl trivial))) (Zc rfl rfl trivial)) ?_; intro J s3 f h hG; unfold ref21_Same_L1 at h; refine Zap 4 rfl ?_; refine Zo (.row 900000 1 y1.1.length) rfl rfl ?_; refine Zpc 4 rfl ?_; refine A.condB rfl h (fun _ h => ?_) (fun _ h => ?_)
        · refine Zcc 5 rfl ?_; refine A.regionD (by kernel_rfl) ?_; refine Zo (.row 900000 1 y1.1.length) rfl rfl ?_; refine Zpp 1 rfl ?_; refine Y1 rfl ?_; refine chkK h fun g35 h => ?_; refine W.chk rfl (by simpa using g35) ?_; refine W.det (.rp 900000 1 s3.toNat 0) _ rfl ?_; refine Y1 rfl ?_; refine bindK h fun x36 hx36 h => ?_; refine W.elem rfl (elemG hx36) ?_; refine W.det (.agg (api_Way.av x36)) _ rfl ?_; refine Zpp 2 rfl ?_; refine Y1 rfl ?_; refine bindK h fun x37 hx37 h => ?_; refine W.chk rfl (elemB hx37) ?_; refine W.elem rfl (elemG hx37) ?_; refine W.chk rfl rfl ?_; refine W.det (.fp [.v (.int .i64 x37.How), .v (.int .i64 x37.Finds)]) _ rfl ?_; refine Zo (.agg (api_Way.av x37)) rfl rfl ?_; refine Zpc 3 rfl ?_; refine A.condB rfl h (fun _ h => ?_) (fun _ h => ?_)
          · refine Zcb 8 rfl ?_; refine headK.r ?_; refine Zob 1 rfl ?_; refine headK.r ?_; cases h; cases hG; exact ⟨rfl, trivial⟩
          · refine Zcb 8 rfl ?_; cases h; exact Zh hG [] [(900000, (900000, 1))] rfl rfl (Ze rfl rfl (Ze rfl rfl (Ze rfl rfl trivial))) (Zc rfl rfl trivial)
        · refine Zcb 2 rfl ?_; refine headK.e ?_; refine Zob 1 rfl ?_; cases h; exact Zh hG [] [] rfl rfl trivial trivial
      · intro s2 r2 h hG; refine Zcb 6 rfl ?_; cases h; cases hG; exact ⟨rfl, trivial⟩
noncomputable def ref21_Message (events_ : (List api_Event)) (id_ : Int) (than_ : Int) : Option (Bool) :=
  (bif (decide ((0 : Int) ≤ id_)) then
    (bif (decide (id_ < than_)) then
      (bif (decide (id_ < (events_.length : Int))) then
        (getI events_ (if (if (IntKind.i64.wrap ((events_.length : Int) - (1 : Int))) < id_ then (IntKind.i64.wrap ((events_.length : Int) - (1 : Int))) else id_) < (0 : Int) then (0 : Int) else (if (IntKind.i64.wrap ((events_.length : Int) - (1 : Int))) < id_ then (IntKind.i64.wrap ((events_.length : Int) - (1 : Int))) else id_))).bind fun x1 =>
        some (x1.Kind == (0 : Int))
      else
        some false)
    else
      some false)
  else
    some false)
theorem ref21_Message_fn {dr : Prop} {events_ : (List api_Event)} {id_ : Int} {than_ : Int} {r : Bool} (h : ref21_Message events_ id_ than_ = some r) : Fn dr Tryz.prog 60 [VF (List.map api_Event.enc events_), VI id_, VI than_] (VB r) := by
  refine Fn.of_AW (dr := dr) (F := FnX dr Tryz.prog) (base := 0) (js := []) mixed tok noeqs (fun _ _ _ h => h) Tryz.call60 Tryz.func60 rfl Tryz.ntmps60 (by rw [Tryz.results60]) (by simp) ?_; have hG : (fun x => x = r) r := rfl; unfold ref21_Message at h; refine Zap 10 rfl ?_; refine YT rfl rfl rfl h (fun _ h => ?_) (fun _ h => ?_)
  · refine Zwp 5 rfl ?_; refine YT rfl rfl rfl h (fun _ h => ?_) (fun _ h => ?_)
    · refine Zwp 2 rfl ?_; refine Y2 rfl rfl rfl ?_; refine W.len rfl ?_; refine Zpp 3 rfl ?_; refine YT rfl rfl rfl h (fun _ h => ?_) (fun _ h => ?_)
      · refine Zwp 3 rfl ?_; refine Y2 rfl rfl rfl ?_; refine W.len rfl ?_; refine Zpp 3 rfl ?_; refine Y2 rfl rfl rfl ?_; refine bindK h fun x1 hx1 h => ?_; refine W.chk rfl (elemB hx1) ?_; refine W.elem rfl (elemG hx1) ?_; refine W.chk rfl rfl ?_; refine W.det (.fp [.v (.int .i64 x1.Author), .v (.int .i64 x1.Seq), .fz (List.map (encI .i64) x1.Causes), .v (.int .i64 x1.Kind), .v (.int .i64 x1.Group), .v (.int .i64 x1.Target), .v (.int .i64 x1.Quote), .v (.int .i64 x1.Who), .v (.int .i64 x1.N), .v (.string x1.Text), .fz (List.map (encI .i64) x1.Files), .v (.int .i64 x1.Step)]) _ rfl ?_; refine Zu (.fp [.v (.int .i64 x1.Kind), .v (.int .i64 x1.Group), .v (.int .i64 x1.Target), .v (.int .i64 x1.Quote), .v (.int .i64 x1.Who), .v (.int .i64 x1.N), .v (.string x1.Text), .fz (List.map (encI .i64) x1.Files), .v (.int .i64 x1.Step)]) rfl rfl rfl rfl ?_; refine Zpb 7 rfl ?_; cases h; cases hG; exact ⟨rfl, trivial⟩
      · refine Zpb 15 rfl ?_; cases h; cases hG; exact ⟨rfl, trivial⟩
    · refine Zpb 21 rfl ?_; cases h; cases hG; exact ⟨rfl, trivial⟩
  · refine Zpb 26 rfl ?_; cases h; cases hG; exact ⟨rfl, trivial⟩
noncomputable def ref16_post (events_ : (List api_Event)) (id_ : Int) : Option (Bool) :=
  (bif (decide (id_ < (0 : Int))) then
    some false
  else
    (bif (decide ((events_.length : Int) ≤ id_)) then
      some false
    else
      (getI events_ id_).bind fun x1 =>
      some (x1.Kind == (0 : Int))))
theorem ref16_post_fn {dr : Prop} {events_ : (List api_Event)} {id_ : Int} {r : Bool} (h : ref16_post events_ id_ = some r) : Fn dr Tryz.prog 98 [VF (List.map api_Event.enc events_), VI id_] (VB r) := by
  refine Fn.of_AW (dr := dr) (F := FnX dr Tryz.prog) (base := 0) (js := []) mixed tok noeqs (fun _ _ _ h => h) Tryz.call98 Tryz.func98 rfl Tryz.ntmps98 (by rw [Tryz.results98]) (by simp) ?_; have hG : (fun x => x = r) r := rfl; unfold ref16_post at h; refine Zap 11 rfl ?_; refine YF rfl rfl rfl h (fun _ h => ?_) (fun _ h => ?_)
  · refine Zpb 14 rfl ?_; cases h; cases hG; exact ⟨rfl, trivial⟩
  · refine Zwp 2 rfl ?_; refine Y2 rfl rfl rfl ?_; refine W.len rfl ?_; refine Zpc 4 rfl ?_; refine A.condB rfl h (fun _ h => ?_) (fun _ h => ?_)
    · refine Zcb 7 rfl ?_; cases h; cases hG; exact ⟨rfl, trivial⟩
    · refine Zcp 6 rfl ?_; refine Y1 rfl ?_; refine bindK h fun x1 hx1 h => ?_; refine W.chk rfl (elemB hx1) ?_; refine W.elem rfl (elemG hx1) ?_; refine W.chk rfl rfl ?_; refine W.det (.fp [.v (.int .i64 x1.Author), .v (.int .i64 x1.Seq), .fz (List.map (encI .i64) x1.Causes), .v (.int .i64 x1.Kind), .v (.int .i64 x1.Group), .v (.int .i64 x1.Target), .v (.int .i64 x1.Quote), .v (.int .i64 x1.Who), .v (.int .i64 x1.N), .v (.string x1.Text), .fz (List.map (encI .i64) x1.Files), .v (.int .i64 x1.Step)]) _ rfl ?_; refine Zo (.fp [.v (.int .i64 x1.Kind), .v (.int .i64 x1.Group), .v (.int .i64 x1.Target), .v (.int .i64 x1.Quote), .v (.int .i64 x1.Who), .v (.int .i64 x1.N), .v (.string x1.Text), .fz (List.map (encI .i64) x1.Files), .v (.int .i64 x1.Step)]) rfl rfl ?_; refine Zpb 6 rfl ?_; cases h; cases hG; exact ⟨rfl, trivial⟩
noncomputable def ref16_Parent (events_ : (List api_Event)) (id_ : Int) : Option (Int) :=
  (getI events_ id_).bind fun x1 =>
  (bif (decide (x1.Target < id_)) then
    (ref16_post events_ x1.Target).bind fun y5 =>
    (bif y5 then
      some x1.Target
    else
      some (-1 : Int))
  else
    some (-1 : Int))
theorem ref16_Parent_fn {dr : Prop} {events_ : (List api_Event)} {id_ : Int} {r : Int} (h : ref16_Parent events_ id_ = some r) : Fn dr Tryz.prog 99 [VF (List.map api_Event.enc events_), VI id_] (VI r) := by
  refine Fn.of_AW (dr := dr) (F := FnX dr Tryz.prog) (base := 0) (js := []) mixed tok noeqs (fun _ _ _ h => h) Tryz.call99 Tryz.func99 rfl Tryz.ntmps99 (by rw [Tryz.results99]) (by simp) ?_; have hG : (fun x => x = r) r := rfl; unfold ref16_Parent at h; refine Zap 9 rfl ?_; refine Y1 rfl ?_; refine bindK h fun x1 hx1 h => ?_; refine W.chk rfl (elemB hx1) ?_; refine W.elem rfl (elemG hx1) ?_; refine W.chk rfl rfl ?_; refine W.det (.fp [.v (.int .i64 x1.Author), .v (.int .i64 x1.Seq), .fz (List.map (encI .i64) x1.Causes), .v (.int .i64 x1.Kind), .v (.int .i64 x1.Group), .v (.int .i64 x1.Target), .v (.int .i64 x1.Quote), .v (.int .i64 x1.Who), .v (.int .i64 x1.N), .v (.string x1.Text), .fz (List.map (encI .i64) x1.Files), .v (.int .i64 x1.Step)]) _ rfl ?_; refine Zo (.fp [.v (.int .i64 x1.Target), .v (.int .i64 x1.Quote), .v (.int .i64 x1.Who), .v (.int .i64 x1.N), .v (.string x1.Text), .fz (List.map (encI .i64) x1.Files), .v (.int .i64 x1.Step)]) rfl rfl ?_; refine Zpp 11 rfl ?_; refine YT rfl rfl rfl h (fun _ h => ?_) (fun _ h => ?_)
  · refine Zwp 2 rfl ?_; refine Y2 rfl rfl rfl ?_; refine bindK h fun y5 hy5 h => ?_; refine W.call rfl (ref16_post_fn hy5) ?_; refine Zwc 4 rfl ?_; refine A.condB rfl h (fun _ h => ?_) (fun _ h => ?_)
    · refine Zcb 8 rfl ?_; cases h; cases hG; exact ⟨rfl, trivial⟩
    · refine Zcb 8 rfl ?_; cases h; cases hG; exact ⟨rfl, trivial⟩
  · refine Zpb 14 rfl ?_; cases h; cases hG; exact ⟨rfl, trivial⟩
noncomputable def ref16_Root_L1 (events_ : (List api_Event)) (s3 : Int × Int) : Option ((Int × Int) ⊕ ((Int) ⊕ (Int))) :=
  (bif (decide ((0 : Int) ≤ s3.2)) then
    (ref16_Parent events_ s3.2).bind fun y9 =>
    some (.inl (s3.2, y9))
  else
    some (.inr (.inl s3.1)))
noncomputable def ref16_Root (events_ : (List api_Event)) (id_ : Int) : Option (Int) :=
  (ref16_post events_ id_).bind fun y2 =>
  (bif (!y2) then
    some (-1 : Int)
  else
    (ref16_Parent events_ id_).bind fun y3 =>
    (seqF (A := Int) (
      loopF (ref16_Root_L1 events_) (id_, y3))
    fun s2 =>
      some s2))
theorem ref16_Root_fn {dr : Prop} {events_ : (List api_Event)} {id_ : Int} {r : Int} (h : ref16_Root events_ id_ = some r) : Fn dr Tryz.prog 61 [VF (List.map api_Event.enc events_), VI id_] (VI r) := by
  refine Fn.of_AW (dr := dr) (F := FnX dr Tryz.prog) (base := 0) (js := [7]) mixed tok noeqs (fun _ _ _ h => h) Tryz.call61 Tryz.func61 rfl Tryz.ntmps61 (by rw [Tryz.results61]) (by simp) ?_; have hG : (fun x => x = r) r := rfl; unfold ref16_Root at h; refine Zap 10 rfl ?_; refine Y1 rfl ?_; refine bindK h fun y2 hy2 h => ?_; refine W.call rfl (ref16_post_fn hy2) ?_; refine Zwc 4 rfl ?_; refine A.condB rfl h (fun _ h => ?_) (fun _ h => ?_)
  · refine Zcb 7 rfl ?_; cases h; cases hG; exact ⟨rfl, trivial⟩
  · refine Zcp 6 rfl ?_; refine Y1 rfl ?_; refine bindK h fun y3 hy3 h => ?_; refine W.call rfl (ref16_Parent_fn hy3) ?_; refine Zwc 4 rfl ?_; refine A.join (fun (s2 : Int) => [(1, VI s2)]) (fun s2 => []) _ h hG rfl ?_ ?_
    · intro J f h hG; refine Zac 1 rfl ?_; refine A.loop (fun (s3 : Int × Int) => [(0, VF (List.map api_Event.enc events_)), (1, VI s3.1), (5, VI s3.2)]) (fun s3 => []) _ h hG (Zf [] [] rfl rfl (Ze rfl rfl (Ze rfl rfl (Ze rfl rfl trivial))) trivial) ?_; intro J s3 f h hG; unfold ref16_Root_L1 at h; refine Zac 7 rfl ?_; refine A.condB rfl h (fun _ h => ?_) (fun _ h => ?_)
      · refine Zcp 12 rfl ?_; refine Y1 rfl ?_; refine bindK h fun y9 hy9 h => ?_; refine W.call rfl (ref16_Parent_fn hy9) ?_; refine Zwb 4 rfl ?_; cases h; exact Zh hG [] [] rfl rfl (Ze rfl rfl (Ze rfl rfl (Ze rfl rfl trivial))) trivial
      · refine Zcb 2 rfl ?_; refine headK.e ?_; refine Zob 1 rfl ?_; cases h; exact Zh hG [] [] rfl rfl (Ze rfl rfl trivial) trivial
    · intro s2 r2 h hG; refine Zcb 7 rfl ?_; cases h; cases hG; exact ⟨rfl, trivial⟩
noncomputable def ref21_place (p_ : api_Profile) (events_ : (List api_Event)) (id_ : Int) : Option (Int) :=
  (bif (p_.Thread == (2 : Int)) then
    some id_
  else
    (bif (p_.Thread == (1 : Int)) then
      (ref16_Root events_ id_).bind fun y2 =>
      some y2
    else
      some (-1 : Int)))
theorem ref21_place_fn {dr : Prop} {p_ : api_Profile} {events_ : (List api_Event)} {id_ : Int} {r : Int} (h : ref21_place p_ events_ id_ = some r) : Fn dr Tryz.prog 27 [.agg (api_Profile.av p_), VF (List.map api_Event.enc events_), VI id_] (VI r) := by
  refine Fn.of_AW (dr := dr) (F := FnX dr Tryz.prog) (base := 0) (js := []) mixed tok noeqs (fun _ _ _ h => h) Tryz.call27 Tryz.func27 rfl Tryz.ntmps27 (by rw [Tryz.results27]) (by simp) ?_; have hG : (fun x => x = r) r := rfl; unfold ref21_place at h; refine Zap 2 rfl ?_; refine Zm (.lp 3 1 0) (Mem.add _ 3 (.box (api_Profile.av p_))) rfl rfl ?_; refine Zpc 11 rfl ?_; refine A.condB rfl h (fun _ h => ?_) (fun _ h => ?_)
  · refine Zcb 8 rfl ?_; cases h; cases hG; exact ⟨rfl, trivial⟩
  · refine Zcc 10 rfl ?_; refine A.condB rfl h (fun _ h => ?_) (fun _ h => ?_)
    · refine Zcp 4 rfl ?_; refine Y1 rfl ?_; refine bindK h fun y2 hy2 h => ?_; refine W.call rfl (ref16_Root_fn hy2) ?_; refine Zwb 6 rfl ?_; cases h; cases hG; exact ⟨rfl, trivial⟩
    · refine Zcb 8 rfl ?_; cases h; cases hG; exact ⟨rfl, trivial⟩
noncomputable def ref10_Line_L1 (s_ : ByteArray) (most_ : Int) (s3 : Int) : Option ((Int) ⊕ ((Int) ⊕ (ByteArray))) :=
  (bif (decide (s3 < (s_.size : Int))) then
    (bif (decide (s3 < most_)) then
      (chkO (decide (0 ≤ s3) && decide (s3 < (s_.size : Int)))).bind fun _ =>
      (bif (((s_.data.toList.getD s3.toNat 0).toNat : Int) != (10 : Int)) then
        some (.inl (IntKind.i64.wrap (s3 + (1 : Int))))
      else
        some (.inr (.inl s3)))
    else
      some (.inr (.inl s3)))
  else
    some (.inr (.inl s3)))
noncomputable def ref10_Line (s_ : ByteArray) (most_ : Int) : Option (ByteArray) :=
  (seqF (A := Int) (
    loopF (ref10_Line_L1 s_ most_) (0 : Int))
  fun s2 =>
    (chkO (cutO (0 : Int) s2 (s_.size : Int))).bind fun _ =>
    some (s_.extract (0 : Int).toNat s2.toNat))
theorem ref10_Line_fn {dr : Prop} {s_ : ByteArray} {most_ : Int} {r : ByteArray} (h : ref10_Line s_ most_ = some r) : Fn dr Tryz.prog 62 [VS s_, VI most_] (VS r) := by
  refine Fn.of_AW (dr := dr) (F := FnX dr Tryz.prog) (base := 0) (js := [4]) mixed tok noeqs (fun _ _ _ h => h) Tryz.call62 Tryz.func62 rfl Tryz.ntmps62 (by rw [Tryz.results62]) (by simp) ?_; have hG : (fun x => x = r) r := rfl; unfold ref10_Line at h; refine Zac 10 rfl ?_; refine A.join (fun (s2 : Int) => [(0, VS s_), (5, VI s2)]) (fun s2 => []) _ h hG rfl ?_ ?_
  · intro J f h hG; refine Zac 1 rfl ?_; refine A.loop (fun (s3 : Int) => [(0, VS s_), (1, VI most_), (5, VI s3)]) (fun s3 => []) _ h hG (Zf [] [] rfl rfl (Ze rfl rfl (Ze rfl rfl (Ze rfl rfl trivial))) trivial) ?_; intro J s3 f h hG; unfold ref10_Line_L1 at h; refine Zap 8 rfl ?_; refine YT rfl rfl rfl h (fun _ h => ?_) (fun _ h => ?_)
    · refine Zwp 5 rfl ?_; refine YT rfl rfl rfl h (fun _ h => ?_) (fun _ h => ?_)
      · refine Zwp 2 rfl ?_; refine Y2 rfl rfl rfl ?_; refine chkK h fun g12 h => ?_; refine W.chk rfl (by simpa using g12) ?_; refine W.det (.d (.v (.int .u8 ((s_.data.toList.getD s3.toNat 0).toNat : Int)))) _ rfl ?_; refine Zpc 4 rfl ?_; refine A.condB rfl h (fun _ h => ?_) (fun _ h => ?_)
        · refine Zcb 9 rfl ?_; cases h; exact Zh hG [] [] rfl rfl (Ze rfl rfl (Ze rfl rfl (Ze rfl rfl trivial))) trivial
        · refine Zcb 2 rfl ?_; refine headK.e ?_; refine Zob 1 rfl ?_; cases h; exact Zh hG [] [] rfl rfl (Ze rfl rfl (Ze rfl rfl trivial)) trivial
      · refine Zpb 9 rfl ?_; refine headK.e ?_; refine Zob 1 rfl ?_; cases h; exact Zh hG [] [] rfl rfl (Ze rfl rfl (Ze rfl rfl trivial)) trivial
    · refine Zpb 14 rfl ?_; refine headK.e ?_; refine Zob 1 rfl ?_; cases h; exact Zh hG [] [] rfl rfl (Ze rfl rfl (Ze rfl rfl trivial)) trivial
  · intro s2 r2 h hG; refine Zcp 4 rfl ?_; refine Y1 rfl ?_; refine chkK h fun g13 h => ?_; refine W.chk rfl (cutO_all g13) ?_; refine W.det (VS (s_.extract (0 : Int).toNat s2.toNat)) _ rfl ?_; refine Zpb 4 rfl ?_; cases h; cases hG; exact ⟨rfl, trivial⟩
noncomputable def ref21_line (events_ : (List api_Event)) (id_ : Int) : Option (ByteArray) :=
  (getI events_ id_).bind fun x1 =>
  (ref10_Line x1.Text (20 : Int)).bind fun y2 =>
  some y2
theorem ref21_line_fn {dr : Prop} {events_ : (List api_Event)} {id_ : Int} {r : ByteArray} (h : ref21_line events_ id_ = some r) : Fn dr Tryz.prog 28 [VF (List.map api_Event.enc events_), VI id_] (VS r) := by
  refine Fn.of_AW (dr := dr) (F := FnX dr Tryz.prog) (base := 0) (js := []) mixed tok noeqs (fun _ _ _ h => h) Tryz.call28 Tryz.func28 rfl Tryz.ntmps28 (by rw [Tryz.results28]) (by simp) ?_; have hG : (fun x => x = r) r := rfl; unfold ref21_line at h; refine Zap 9 rfl ?_; refine Y1 rfl ?_; refine bindK h fun x1 hx1 h => ?_; refine W.chk rfl (elemB hx1) ?_; refine W.elem rfl (elemG hx1) ?_; refine W.chk rfl rfl ?_; refine W.det (.fp [.v (.int .i64 x1.Author), .v (.int .i64 x1.Seq), .fz (List.map (encI .i64) x1.Causes), .v (.int .i64 x1.Kind), .v (.int .i64 x1.Group), .v (.int .i64 x1.Target), .v (.int .i64 x1.Quote), .v (.int .i64 x1.Who), .v (.int .i64 x1.N), .v (.string x1.Text), .fz (List.map (encI .i64) x1.Files), .v (.int .i64 x1.Step)]) _ rfl ?_; refine Zo (.fp [.v (.string x1.Text), .fz (List.map (encI .i64) x1.Files), .v (.int .i64 x1.Step)]) rfl rfl ?_; refine Zpp 1 rfl ?_; refine Y1 rfl ?_; refine bindK h fun y2 hy2 h => ?_; refine W.call rfl (ref10_Line_fn hy2) ?_; refine Zwb 5 rfl ?_; cases h; cases hG; exact ⟨rfl, trivial⟩
end Go.Proofs.YtljdbikodogeiaaGreatDoor

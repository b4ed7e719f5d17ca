/-
  Plain programs of functions, and that the functions do what they say. Printed by wip/tools/gen.py.
-/
import Derived.Test.YtljdbikodogeiaaGreatDoorG5
import Derived.Test.YtljdbikodogeiaaGreatDoorX2
namespace Go.Proofs.YtljdbikodogeiaaGreatDoor
open Go.RowKit
attribute [local irreducible] IntKind.wrap AW runL Step.wp
set_option linter.unusedVariables false
set_option maxHeartbeats 4000000
set_option maxRecDepth 100000
noncomputable def ref01_Int (n_ : Int) : Option (ByteArray) :=
  (bif (decide (n_ < (0 : Int))) then
    (ref01_digits n_).bind fun y4 =>
    (chkO (decide ((ByteArray.mk #[45]).size + y4.size ≤ 1000000000))).bind fun _ =>
    (chkO (decide (((ByteArray.mk #[45]) ++ y4).size + (ByteArray.mk #[59]).size ≤ 1000000000))).bind fun _ =>
    some (((ByteArray.mk #[45]) ++ y4) ++ (ByteArray.mk #[59]))
  else
    (ref01_digits (IntKind.i64.wrap (0 - n_))).bind fun y7 =>
    (chkO (decide (y7.size + (ByteArray.mk #[59]).size ≤ 1000000000))).bind fun _ =>
    some (y7 ++ (ByteArray.mk #[59])))
theorem ref01_Int_fn {dr : Prop} {n_ : Int} {r : ByteArray} (h : ref01_Int n_ = some r) : Fn dr Tryz.prog 64 [VI n_] (VS r) := by
  refine Fn.of_AW (dr := dr) (F := FnX dr Tryz.prog) (base := 0) (js := []) mixed tok noeqs (fun _ _ _ h => h) Tryz.call64 Tryz.func64 rfl Tryz.ntmps64 (by rw [Tryz.results64]) (by simp) ?_; have hG : (fun x => x = r) r := rfl; unfold ref01_Int at h; refine Zac 12 rfl ?_; refine A.condB rfl h (fun _ h => ?_) (fun _ h => ?_)
  · refine Zcp 3 rfl ?_; refine Y1 rfl ?_; refine bindK h fun y4 hy4 h => ?_; refine W.call rfl (ref01_digits_fn hy4) ?_; refine Zwp 1 rfl ?_; refine Y1 rfl ?_; refine chkK h fun g5 h => ?_; refine W.chk rfl (of_decide_eq_true g5) ?_; refine Zwp 1 rfl ?_; refine Y1 rfl ?_; refine chkK h fun g6 h => ?_; refine W.chk rfl (of_decide_eq_true g6) ?_; refine Zwb 6 rfl ?_; cases h; cases hG; exact ⟨rfl, trivial⟩
  · refine Zcp 6 rfl ?_; refine Y1 rfl ?_; refine bindK h fun y7 hy7 h => ?_; refine W.call rfl (ref01_digits_fn hy7) ?_; refine Zwp 1 rfl ?_; refine Y1 rfl ?_; refine chkK h fun g8 h => ?_; refine W.chk rfl (of_decide_eq_true g8) ?_; refine Zwb 5 rfl ?_; cases h; cases hG; exact ⟨rfl, trivial⟩
noncomputable def ref10_Decimal (n_ : Int) : Option (ByteArray) :=
  (ref01_Int n_).bind fun y1 =>
  (chkO (cutO (0 : Int) (IntKind.i64.wrap ((y1.size : Int) - (1 : Int))) (y1.size : Int))).bind fun _ =>
  some (y1.extract (0 : Int).toNat (IntKind.i64.wrap ((y1.size : Int) - (1 : Int))).toNat)
theorem ref10_Decimal_fn {dr : Prop} {n_ : Int} {r : ByteArray} (h : ref10_Decimal n_ = some r) : Fn dr Tryz.prog 35 [VI n_] (VS r) := by
  refine Fn.of_AW (dr := dr) (F := FnX dr Tryz.prog) (base := 0) (js := []) mixed tok noeqs (fun _ _ _ h => h) Tryz.call35 Tryz.func35 rfl Tryz.ntmps35 (by rw [Tryz.results35]) (by simp) ?_; have hG : (fun x => x = r) r := rfl; unfold ref10_Decimal at h; refine Zap 8 rfl ?_; refine Y1 rfl ?_; refine bindK h fun y1 hy1 h => ?_; refine W.call rfl (ref01_Int_fn hy1) ?_; refine Zwp 10 rfl ?_; refine Y1 rfl ?_; refine chkK h fun g2 h => ?_; refine W.chk rfl (cutO_all g2) ?_; refine W.det (VS (y1.extract (0 : Int).toNat (IntKind.i64.wrap ((y1.size : Int) - (1 : Int))).toNat)) _ rfl ?_; refine Zpb 4 rfl ?_; cases h; cases hG; exact ⟨rfl, trivial⟩
noncomputable def ref21_Has_L1 (l_ : (List Int)) (n_ : Int) (s3 : Int) : Option ((Int) ⊕ ((Unit) ⊕ (Bool))) :=
  (bif (decide (s3 < (l_.length : Int))) then
    (getI l_ s3).bind fun x12 =>
    (bif (x12 == n_) then
      some (.inr (.inr true))
    else
      some (.inl (IntKind.i64.wrap (s3 + (1 : Int)))))
  else
    some (.inr (.inl ())))
noncomputable def ref21_Has (l_ : (List Int)) (n_ : Int) : Option (Bool) :=
  (seqF (A := Unit) (
    loopF (ref21_Has_L1 l_ n_) (0 : Int))
  fun s2 =>
    some false)
theorem ref21_Has_fn {dr : Prop} {l_ : (List Int)} {n_ : Int} {r : Bool} (h : ref21_Has l_ n_ = some r) : Fn dr Tryz.prog 63 [VF (List.map (encI .i64) l_), VI n_] (VB r) := by
  refine Fn.of_AW (dr := dr) (F := FnX dr Tryz.prog) (base := 0) (js := [6]) mixed tok noeqs (fun _ _ _ h => h) Tryz.call63 Tryz.func63 rfl Tryz.ntmps63 (by rw [Tryz.results63]) (by simp) ?_; have hG : (fun x => x = r) r := rfl; unfold ref21_Has at h; refine Zac 5 rfl ?_; refine A.join (fun (s2 : Unit) => []) (fun s2 => []) _ h hG rfl ?_ ?_
  · intro J f h hG; refine Zac 6 rfl ?_; refine A.loop (fun (s3 : Int) => [(0, VF (List.map (encI .i64) l_)), (1, VI n_), (5, VI s3)]) (fun s3 => []) _ h hG (Zf [] [] rfl rfl (Ze rfl rfl (Ze rfl rfl (Ze rfl rfl trivial))) trivial) ?_; intro J s3 f h hG; unfold ref21_Has_L1 at h; refine Zap 5 rfl ?_; refine Y1 rfl ?_; refine W.len rfl ?_; refine Zpc 3 rfl ?_; refine A.condB rfl h (fun _ h => ?_) (fun _ h => ?_)
    · refine Zcp 8 rfl ?_; refine Y1 rfl ?_; refine bindK h fun x12 hx12 h => ?_; refine W.chk rfl (elemB hx12) ?_; refine W.elem rfl (elemG hx12) ?_; refine W.chk rfl rfl ?_; refine W.det (.fp [.v (.int .i64 x12)]) _ rfl ?_; refine Zpc 5 rfl ?_; refine A.condB rfl h (fun _ h => ?_) (fun _ h => ?_)
      · refine Zcb 8 rfl ?_; refine headK.r ?_; refine Zob 1 rfl ?_; refine headK.r ?_; cases h; cases hG; exact ⟨rfl, trivial⟩
      · refine Zcb 8 rfl ?_; cases h; exact Zh hG [] [] rfl rfl (Ze rfl rfl (Ze rfl rfl (Ze rfl rfl trivial))) trivial
    · refine Zcb 2 rfl ?_; refine headK.e ?_; refine Zob 1 rfl ?_; cases h; exact Zh hG [] [] rfl rfl trivial trivial
  · intro s2 r2 h hG; refine Zcb 6 rfl ?_; cases h; cases hG; exact ⟨rfl, trivial⟩
noncomputable def ref21_Shown_L1 (files_ : (List Int)) (bad_ : (List Int)) (p_ : api_Profile) (s3 : Int × (List Int)) : Option ((Int × (List Int)) ⊕ (((List Int)) ⊕ ((List Int)))) :=
  (bif (decide (s3.1 < (files_.length : Int))) then
    (getI files_ s3.1).bind fun x58 =>
    (ref21_Has bad_ x58).bind fun y59 =>
    (bif (!y59) then
      (bif (decide (((s3.2.length : Nat) : Int) < p_.Files)) then
        (chkO (decide (s3.2.length + [x58].length ≤ 1000000))).bind fun _ =>
        some (.inl ((IntKind.i64.wrap (s3.1 + (1 : Int))), (s3.2 ++ [x58])))
      else
        some (.inl ((IntKind.i64.wrap (s3.1 + (1 : Int))), s3.2)))
    else
      some (.inl ((IntKind.i64.wrap (s3.1 + (1 : Int))), s3.2)))
  else
    some (.inr (.inl s3.2)))
noncomputable def ref21_Shown (p_ : api_Profile) (files_ : (List Int)) (bad_ : (List Int)) : Option ((List Int)) :=
  (seqF (A := (List Int)) (
    loopF (ref21_Shown_L1 files_ bad_ p_) ((0 : Int), ([] : List Int)))
  fun s2 =>
    some s2)
theorem ref21_Shown_fn {dr : Prop} {p_ : api_Profile} {files_ : (List Int)} {bad_ : (List Int)} {r : (List Int)} (h : ref21_Shown p_ files_ bad_ = some r) : Fn dr Tryz.prog 34 [.agg (api_Profile.av p_), VF (List.map (encI .i64) files_), VF (List.map (encI .i64) bad_)] (.ow 1 (List.map (encI .i64) r)) := by
  refine Fn.of_AW (dr := dr) (F := FnX dr Tryz.prog) (base := 0) (js := [7]) mixed tok noeqs (fun _ _ _ h => h) Tryz.call34 Tryz.func34 rfl Tryz.ntmps34 (by rw [Tryz.results34]) (by simp) ?_; have hG : (fun x => x = r) r := rfl; unfold ref21_Shown at h; refine Zap 2 rfl ?_; refine Zm (.lp 3 1 0) (Mem.add _ 3 (.box (api_Profile.av p_))) rfl rfl ?_; refine Zm (.row 6 1 0) (Mem.add _ 6 (.rows 1 (List.map (encI .i64) ([] : List Int)) false)) rfl rfl ?_; refine Zpp 4 rfl ?_; refine Zm (.row 7 1 0) (Mem.add _ 7 (.rows 1 (List.map (encI .i64) ([] : List Int)) false)) rfl rfl ?_; refine Zpc 2 rfl ?_; refine A.join (fun (s2 : (List Int)) => [(7, .row 900000 1 s2.length)]) (fun s2 => [(900000, .rows 1 (List.map (encI .i64) s2) false)]) _ h hG rfl ?_ ?_
  · intro J f h hG; refine Zac 6 rfl ?_; refine A.loop (fun (s3 : Int × (List Int)) => [(1, VF (List.map (encI .i64) files_)), (2, VF (List.map (encI .i64) bad_)), (3, .lp 900000 1 0), (7, .row 900001 1 s3.2.length), (8, VI s3.1)]) (fun s3 => [(900000, .box (api_Profile.av p_)), (900001, .rows 1 (List.map (encI .i64) s3.2) false)]) _ h hG (Zf [] [(900000, (3, 1)), (900001, (7, 1))] rfl rfl (Ze rfl rfl (Ze rfl rfl (Ze rfl rfl (Ze rfl rfl (Ze rfl rfl trivial))))) (Zc rfl rfl (Zc rfl rfl trivial))) ?_; intro J s3 f h hG; unfold ref21_Shown_L1 at h; refine Zap 5 rfl ?_; refine Y1 rfl ?_; refine W.len rfl ?_; refine Zpc 3 rfl ?_; refine A.condB rfl h (fun _ h => ?_) (fun _ h => ?_)
    · refine Zcp 9 rfl ?_; refine Y1 rfl ?_; refine bindK h fun x58 hx58 h => ?_; refine W.chk rfl (elemB hx58) ?_; refine W.elem rfl (elemG hx58) ?_; refine W.chk rfl rfl ?_; refine W.det (.fp [.v (.int .i64 x58)]) _ rfl ?_; refine Zpp 1 rfl ?_; refine Y1 rfl ?_; refine bindK h fun y59 hy59 h => ?_; refine W.call rfl (ref21_Has_fn hy59) ?_; refine Zwp 3 rfl ?_; refine YT rfl rfl rfl h (fun _ h => ?_) (fun _ h => ?_)
      · refine W.det (.row 900001 1 s3.2.length) _ rfl ?_; refine Zpc 7 rfl ?_; refine A.condB rfl h (fun _ h => ?_) (fun _ h => ?_)
        · refine Zcp 1 rfl ?_; refine Zo (.row 900001 1 s3.2.length) rfl rfl ?_; refine Zpp 2 rfl ?_; refine Y1 rfl ?_; refine W.chk rfl (elemB hx58) ?_; refine W.elem rfl (elemG hx58) ?_; refine W.chk rfl rfl ?_; refine W.det (.fp [.v (.int .i64 x58)]) _ rfl ?_; refine Zpp 1 rfl ?_; refine Zm (.row 34 2 1) (Mem.add _ 34 (.rows 1 (List.map (encI .i64) [x58]) false)) rfl rfl ?_; refine Y1 rfl ?_; refine chkK h fun g60 h => ?_; refine W.chk rfl (appChk (fun _ => rfl) g60) ?_; refine W.app rfl rfl ?_; refine Zo (.row 900001 2 (s3.2 ++ [x58]).length) rfl rfl ?_; refine Zpb 8 rfl ?_; cases h; exact Zh hG [] [(900000, (900000, 1)), (900001, (900001, 2))] rfl rfl (Ze rfl rfl (Ze rfl rfl (Ze rfl rfl (Ze rfl rfl (Ze rfl rfl trivial))))) (Zc rfl rfl (Zc rfl rfl trivial))
        · refine Zcb 8 rfl ?_; cases h; exact Zh hG [] [(900000, (900000, 1)), (900001, (900001, 1))] rfl rfl (Ze rfl rfl (Ze rfl rfl (Ze rfl rfl (Ze rfl rfl (Ze rfl rfl trivial))))) (Zc rfl rfl (Zc rfl rfl trivial))
      · refine Zpb 16 rfl ?_; cases h; exact Zh hG [] [(900000, (900000, 1)), (900001, (900001, 1))] rfl rfl (Ze rfl rfl (Ze rfl rfl (Ze rfl rfl (Ze rfl rfl (Ze rfl rfl trivial))))) (Zc rfl rfl (Zc rfl rfl trivial))
    · refine Zcb 2 rfl ?_; refine headK.e ?_; refine Zob 1 rfl ?_; cases h; exact Zh hG [] [(900000, (900001, 1))] rfl rfl (Ze rfl rfl trivial) (Zc rfl rfl trivial)
  · intro s2 r2 h hG; refine Zcp 2 rfl ?_; refine Zo (.row 900000 1 s2.length) rfl rfl ?_; refine Zo (.row 900000 1 s2.length) rfl rfl ?_; refine Zpb 3 rfl ?_; cases h; cases hG; exact ⟨rfl, rfl, trivial⟩
noncomputable def ref21_Listed_L1 (files_ : (List Int)) (but_ : (List Int)) (s3 : ByteArray × Int) : Option ((ByteArray × Int) ⊕ ((ByteArray) ⊕ (ByteArray))) :=
  (bif (decide (s3.2 < (files_.length : Int))) then
    (getI files_ s3.2).bind fun x67 =>
    (ref21_Has but_ x67).bind fun y68 =>
    (bif (!y68) then
      (chkO (decide (s3.1.size + (ByteArray.mk #[10, 91, 102, 105, 108, 101, 32]).size ≤ 1000000000))).bind fun _ =>
      (ref10_Decimal x67).bind fun y70 =>
      (chkO (decide ((s3.1 ++ (ByteArray.mk #[10, 91, 102, 105, 108, 101, 32])).size + y70.size ≤ 1000000000))).bind fun _ =>
      (chkO (decide (((s3.1 ++ (ByteArray.mk #[10, 91, 102, 105, 108, 101, 32])) ++ y70).size + (ByteArray.mk #[93]).size ≤ 1000000000))).bind fun _ =>
      some (.inl ((((s3.1 ++ (ByteArray.mk #[10, 91, 102, 105, 108, 101, 32])) ++ y70) ++ (ByteArray.mk #[93])), (IntKind.i64.wrap (s3.2 + (1 : Int)))))
    else
      some (.inl (s3.1, (IntKind.i64.wrap (s3.2 + (1 : Int))))))
  else
    some (.inr (.inl s3.1)))
noncomputable def ref21_Listed (files_ : (List Int)) (but_ : (List Int)) : Option (ByteArray) :=
  (seqF (A := ByteArray) (
    loopF (ref21_Listed_L1 files_ but_) ((ByteArray.mk #[]), (0 : Int)))
  fun s2 =>
    some s2)
theorem ref21_Listed_fn {dr : Prop} {files_ : (List Int)} {but_ : (List Int)} {r : ByteArray} (h : ref21_Listed files_ but_ = some r) : Fn dr Tryz.prog 29 [VF (List.map (encI .i64) files_), VF (List.map (encI .i64) but_)] (VS r) := by
  refine Fn.of_AW (dr := dr) (F := FnX dr Tryz.prog) (base := 0) (js := [7]) mixed tok noeqs (fun _ _ _ h => h) Tryz.call29 Tryz.func29 rfl Tryz.ntmps29 (by rw [Tryz.results29]) (by simp) ?_; have hG : (fun x => x = r) r := rfl; unfold ref21_Listed at h; refine Zac 10 rfl ?_; refine A.join (fun (s2 : ByteArray) => [(5, VS s2)]) (fun s2 => []) _ h hG rfl ?_ ?_
  · intro J f h hG; refine Zac 6 rfl ?_; refine A.loop (fun (s3 : ByteArray × Int) => [(0, VF (List.map (encI .i64) files_)), (1, VF (List.map (encI .i64) but_)), (5, VS s3.1), (6, VI s3.2)]) (fun s3 => []) _ h hG (Zf [] [] rfl rfl (Ze rfl rfl (Ze rfl rfl (Ze rfl rfl (Ze rfl rfl trivial)))) trivial) ?_; intro J s3 f h hG; unfold ref21_Listed_L1 at h; refine Zap 5 rfl ?_; refine Y1 rfl ?_; refine W.len rfl ?_; refine Zpc 3 rfl ?_; refine A.condB rfl h (fun _ h => ?_) (fun _ h => ?_)
    · refine Zcp 9 rfl ?_; refine Y1 rfl ?_; refine bindK h fun x67 hx67 h => ?_; refine W.chk rfl (elemB hx67) ?_; refine W.elem rfl (elemG hx67) ?_; refine W.chk rfl rfl ?_; refine W.det (.fp [.v (.int .i64 x67)]) _ rfl ?_; refine Zpp 1 rfl ?_; refine Y1 rfl ?_; refine bindK h fun y68 hy68 h => ?_; refine W.call rfl (ref21_Has_fn hy68) ?_; refine Zwc 4 rfl ?_; refine A.condB rfl h (fun _ h => ?_) (fun _ h => ?_)
      · refine Zcp 2 rfl ?_; refine Y1 rfl ?_; refine chkK h fun g69 h => ?_; refine W.chk rfl (of_decide_eq_true g69) ?_; refine Zwp 3 rfl ?_; refine Y1 rfl ?_; refine W.chk rfl (elemB hx67) ?_; refine W.elem rfl (elemG hx67) ?_; refine W.chk rfl rfl ?_; refine W.det (.fp [.v (.int .i64 x67)]) _ rfl ?_; refine Zpp 1 rfl ?_; refine Y1 rfl ?_; refine bindK h fun y70 hy70 h => ?_; refine W.call rfl (ref10_Decimal_fn hy70) ?_; refine Zwp 1 rfl ?_; refine Y1 rfl ?_; refine chkK h fun g71 h => ?_; refine W.chk rfl (of_decide_eq_true g71) ?_; refine Zwp 1 rfl ?_; refine Y1 rfl ?_; refine chkK h fun g72 h => ?_; refine W.chk rfl (of_decide_eq_true g72) ?_; refine Zwb 10 rfl ?_; cases h; exact Zh hG [] [] rfl rfl (Ze rfl rfl (Ze rfl rfl (Ze rfl rfl (Ze rfl rfl trivial)))) trivial
      · refine Zcb 8 rfl ?_; cases h; exact Zh hG [] [] rfl rfl (Ze rfl rfl (Ze rfl rfl (Ze rfl rfl (Ze rfl rfl trivial)))) trivial
    · refine Zcb 2 rfl ?_; refine headK.e ?_; refine Zob 1 rfl ?_; cases h; exact Zh hG [] [] rfl rfl (Ze rfl rfl trivial) trivial
  · intro s2 r2 h hG; refine Zcb 7 rfl ?_; cases h; cases hG; exact ⟨rfl, trivial⟩
noncomputable def ref21_Say (p_ : api_Profile) (ways_ : (List api_Way)) (events_ : (List api_Event)) (bad_ : (List Int)) (id_ : Int) (text_ : ByteArray) (files_ : (List Int)) : Option (ByteArray) :=
  (getI events_ id_).bind fun x1 =>
  (seqF (A := ByteArray) (
    (ref21_Message events_ x1.Target id_).bind fun y12 =>
    (bif y12 then
      (getI ways_ (5 : Int)).bind fun x13 =>
      (bif (x13.How != (0 : Int)) then
        (chkO (decide ((ByteArray.mk #[]).size + (ByteArray.mk #[114, 101, 58, 32]).size ≤ 1000000000))).bind fun _ =>
        (ref21_line events_ x1.Target).bind fun y15 =>
        (chkO (decide (((ByteArray.mk #[]) ++ (ByteArray.mk #[114, 101, 58, 32])).size + y15.size ≤ 1000000000))).bind fun _ =>
        (chkO (decide ((((ByteArray.mk #[]) ++ (ByteArray.mk #[114, 101, 58, 32])) ++ y15).size + (ByteArray.mk #[10]).size ≤ 1000000000))).bind fun _ =>
        some (.inl ((((ByteArray.mk #[]) ++ (ByteArray.mk #[114, 101, 58, 32])) ++ y15) ++ (ByteArray.mk #[10])))
      else
        some (.inl (ByteArray.mk #[])))
    else
      some (.inl (ByteArray.mk #[]))))
  fun s1 =>
    (seqF (A := ByteArray) (
      (ref21_Message events_ x1.Quote id_).bind fun y28 =>
      (bif y28 then
        (getI ways_ (6 : Int)).bind fun x29 =>
        (bif (x29.How != (0 : Int)) then
          (chkO (decide (s1.size + (ByteArray.mk #[62, 32]).size ≤ 1000000000))).bind fun _ =>
          (ref21_line events_ x1.Quote).bind fun y31 =>
          (chkO (decide ((s1 ++ (ByteArray.mk #[62, 32])).size + y31.size ≤ 1000000000))).bind fun _ =>
          (chkO (decide (((s1 ++ (ByteArray.mk #[62, 32])) ++ y31).size + (ByteArray.mk #[10]).size ≤ 1000000000))).bind fun _ =>
          some (.inl (((s1 ++ (ByteArray.mk #[62, 32])) ++ y31) ++ (ByteArray.mk #[10])))
        else
          some (.inl s1))
      else
        some (.inl s1)))
    fun s2 =>
      (bif (x1.Who != (-1 : Int)) then
        (getI ways_ (7 : Int)).bind fun x41 =>
        (bif (x41.How != (0 : Int)) then
          (chkO (decide (s2.size + (ByteArray.mk #[64]).size ≤ 1000000000))).bind fun _ =>
          (ref10_Decimal x1.Who).bind fun y43 =>
          (chkO (decide ((s2 ++ (ByteArray.mk #[64])).size + y43.size ≤ 1000000000))).bind fun _ =>
          (chkO (decide (((s2 ++ (ByteArray.mk #[64])) ++ y43).size + (ByteArray.mk #[32]).size ≤ 1000000000))).bind fun _ =>
          (chkO (decide ((((s2 ++ (ByteArray.mk #[64])) ++ y43) ++ (ByteArray.mk #[32])).size + text_.size ≤ 1000000000))).bind fun _ =>
          (ref21_Shown p_ files_ bad_).bind fun y47 =>
          (ref21_Listed files_ y47).bind fun y48 =>
          (chkO (decide (((((s2 ++ (ByteArray.mk #[64])) ++ y43) ++ (ByteArray.mk #[32])) ++ text_).size + y48.size ≤ 1000000000))).bind fun _ =>
          some (((((s2 ++ (ByteArray.mk #[64])) ++ y43) ++ (ByteArray.mk #[32])) ++ text_) ++ y48)
        else
          (chkO (decide (s2.size + text_.size ≤ 1000000000))).bind fun _ =>
          (ref21_Shown p_ files_ bad_).bind fun y51 =>
          (ref21_Listed files_ y51).bind fun y52 =>
          (chkO (decide ((s2 ++ text_).size + y52.size ≤ 1000000000))).bind fun _ =>
          some ((s2 ++ text_) ++ y52))
      else
        (chkO (decide (s2.size + text_.size ≤ 1000000000))).bind fun _ =>
        (ref21_Shown p_ files_ bad_).bind fun y55 =>
        (ref21_Listed files_ y55).bind fun y56 =>
        (chkO (decide ((s2 ++ text_).size + y56.size ≤ 1000000000))).bind fun _ =>
        some ((s2 ++ text_) ++ y56))))
theorem ref21_Say_fn {dr : Prop} {p_ : api_Profile} {ways_ : (List api_Way)} {events_ : (List api_Event)} {bad_ : (List Int)} {id_ : Int} {text_ : ByteArray} {files_ : (List Int)} {r : ByteArray} (h : ref21_Say p_ ways_ events_ bad_ id_ text_ files_ = some r) : Fn dr Tryz.prog 33 [.agg (api_Profile.av p_), VF (List.map api_Way.enc ways_), VF (List.map api_Event.enc events_), VF (List.map (encI .i64) bad_), VI id_, VS text_, VF (List.map (encI .i64) files_)] (VS r) := by
  refine Fn.of_AW (dr := dr) (F := FnX dr Tryz.prog) (base := 0) (js := [5, 7]) mixed tok noeqs (fun _ _ _ h => h) Tryz.call33 Tryz.func33 rfl Tryz.ntmps33 (by rw [Tryz.results33]) (by simp) ?_; have hG : (fun x => x = r) r := rfl; unfold ref21_Say at h; refine Zap 2 rfl ?_; refine Zm (.lp 7 1 0) (Mem.add _ 7 (.box (api_Profile.av p_))) rfl rfl ?_; refine Zpp 7 rfl ?_; refine Y1 rfl ?_; refine bindK h fun x1 hx1 h => ?_; refine W.chk rfl (elemB hx1) ?_; refine W.elem rfl (elemG hx1) ?_; refine W.chk rfl rfl ?_; refine W.det (.fp [.v (.int .i64 x1.Author), .v (.int .i64 x1.Seq), .fz (List.map (encI .i64) x1.Causes), .v (.int .i64 x1.Kind), .v (.int .i64 x1.Group), .v (.int .i64 x1.Target), .v (.int .i64 x1.Quote), .v (.int .i64 x1.Who), .v (.int .i64 x1.N), .v (.string x1.Text), .fz (List.map (encI .i64) x1.Files), .v (.int .i64 x1.Step)]) _ rfl ?_; refine Zo (.agg (api_Event.av x1)) rfl rfl ?_; refine Zm (.lp 15 1 0) (Mem.add (Mem.add (Mem.add _ 196623 (.rows 1 (List.map (encI .i64) ([] : List Int)) false)) 720911 (.rows 1 (List.map (encI .i64) ([] : List Int)) false)) 15 (.box [VI 0, VI 0, .row 196623 1 0, VI 0, VI 0, VI 0, VI 0, VI 0, VI 0, VS (ByteArray.mk #[]), .row 720911 1 0, VI 0])) rfl rfl ?_; refine Zm (.tup []) (Mem.set _ 15 1 (some (.box (api_Event.av x1)))) rfl rfl ?_; refine Zpc 7 rfl ?_; refine A.join (fun (s1 : ByteArray) => [(1, VF (List.map api_Way.enc ways_)), (2, VF (List.map api_Event.enc events_)), (3, VF (List.map (encI .i64) bad_)), (4, VI id_), (5, VS text_), (6, VF (List.map (encI .i64) files_)), (7, .lp 900000 1 0), (15, .lp 900001 1 0), (16, VS s1)]) (fun s1 => [(900000, .box (api_Profile.av p_)), (900001, .box (api_Event.av x1))]) _ h hG rfl ?_ ?_
  · intro J f h hG; refine Zap 6 rfl ?_; refine Y1 rfl ?_; refine bindK h fun y12 hy12 h => ?_; refine W.call rfl (ref21_Message_fn hy12) ?_; refine Zwp 2 rfl ?_; refine YT rfl rfl rfl h (fun _ h => ?_) (fun _ h => ?_)
    · refine Zwp 1 rfl ?_; refine Y2 rfl rfl rfl ?_; refine bindK h fun x13 hx13 h => ?_; refine W.chk rfl (elemB hx13) ?_; refine W.elem rfl (elemG hx13) ?_; refine W.chk rfl rfl ?_; refine W.det (.fp [.v (.int .i64 x13.How), .v (.int .i64 x13.Finds)]) _ rfl ?_; refine Zu (.fp [.v (.int .i64 x13.How), .v (.int .i64 x13.Finds)]) rfl rfl rfl rfl ?_; refine Zpc 5 rfl ?_; refine A.condB rfl h (fun _ h => ?_) (fun _ h => ?_)
      · refine Zcp 2 rfl ?_; refine Y1 rfl ?_; refine chkK h fun g14 h => ?_; refine W.chk rfl (of_decide_eq_true g14) ?_; refine Zwp 4 rfl ?_; refine Y1 rfl ?_; refine bindK h fun y15 hy15 h => ?_; refine W.call rfl (ref21_line_fn hy15) ?_; refine Zwp 1 rfl ?_; refine Y1 rfl ?_; refine chkK h fun g16 h => ?_; refine W.chk rfl (of_decide_eq_true g16) ?_; refine Zwp 1 rfl ?_; refine Y1 rfl ?_; refine chkK h fun g17 h => ?_; refine W.chk rfl (of_decide_eq_true g17) ?_; refine Zwb 3 rfl ?_; cases h; exact Zh hG [] [(900000, (7, 1)), (900001, (15, 1))] rfl rfl (Ze rfl rfl (Ze rfl rfl (Ze rfl rfl (Ze rfl rfl (Ze rfl rfl (Ze rfl rfl (Ze rfl rfl (Ze rfl rfl (Ze rfl rfl trivial))))))))) (Zc rfl rfl (Zc rfl rfl trivial))
      · refine Zcb 1 rfl ?_; cases h; exact Zh hG [] [(900000, (7, 1)), (900001, (15, 1))] rfl rfl (Ze rfl rfl (Ze rfl rfl (Ze rfl rfl (Ze rfl rfl (Ze rfl rfl (Ze rfl rfl (Ze rfl rfl (Ze rfl rfl (Ze rfl rfl trivial))))))))) (Zc rfl rfl (Zc rfl rfl trivial))
    · refine Zpb 9 rfl ?_; cases h; exact Zh hG [] [(900000, (7, 1)), (900001, (15, 1))] rfl rfl (Ze rfl rfl (Ze rfl rfl (Ze rfl rfl (Ze rfl rfl (Ze rfl rfl (Ze rfl rfl (Ze rfl rfl (Ze rfl rfl (Ze rfl rfl trivial))))))))) (Zc rfl rfl (Zc rfl rfl trivial))
  · intro s1 r2 h hG; refine A.join (fun (s2 : ByteArray) => [(1, VF (List.map api_Way.enc ways_)), (3, VF (List.map (encI .i64) bad_)), (5, VS text_), (6, VF (List.map (encI .i64) files_)), (7, .lp 900000 1 0), (15, .lp 900001 1 0), (16, VS s2)]) (fun s2 => [(900000, .box (api_Profile.av p_)), (900001, .box (api_Event.av x1))]) _ h hG rfl ?_ ?_
    · intro J f h hG; refine Zap 6 rfl ?_; refine Y1 rfl ?_; refine bindK h fun y28 hy28 h => ?_; refine W.call rfl (ref21_Message_fn hy28) ?_; refine Zwp 2 rfl ?_; refine YT rfl rfl rfl h (fun _ h => ?_) (fun _ h => ?_)
      · refine Zwp 1 rfl ?_; refine Y2 rfl rfl rfl ?_; refine bindK h fun x29 hx29 h => ?_; refine W.chk rfl (elemB hx29) ?_; refine W.elem rfl (elemG hx29) ?_; refine W.chk rfl rfl ?_; refine W.det (.fp [.v (.int .i64 x29.How), .v (.int .i64 x29.Finds)]) _ rfl ?_; refine Zu (.fp [.v (.int .i64 x29.How), .v (.int .i64 x29.Finds)]) rfl rfl rfl rfl ?_; refine Zpc 5 rfl ?_; refine A.condB rfl h (fun _ h => ?_) (fun _ h => ?_)
        · refine Zcp 2 rfl ?_; refine Y1 rfl ?_; refine chkK h fun g30 h => ?_; refine W.chk rfl (of_decide_eq_true g30) ?_; refine Zwp 4 rfl ?_; refine Y1 rfl ?_; refine bindK h fun y31 hy31 h => ?_; refine W.call rfl (ref21_line_fn hy31) ?_; refine Zwp 1 rfl ?_; refine Y1 rfl ?_; refine chkK h fun g32 h => ?_; refine W.chk rfl (of_decide_eq_true g32) ?_; refine Zwp 1 rfl ?_; refine Y1 rfl ?_; refine chkK h fun g33 h => ?_; refine W.chk rfl (of_decide_eq_true g33) ?_; refine Zwb 3 rfl ?_; cases h; exact Zh hG [] [(900000, (900000, 1)), (900001, (900001, 1))] rfl rfl (Ze rfl rfl (Ze rfl rfl (Ze rfl rfl (Ze rfl rfl (Ze rfl rfl (Ze rfl rfl (Ze rfl rfl trivial))))))) (Zc rfl rfl (Zc rfl rfl trivial))
        · refine Zcb 1 rfl ?_; cases h; exact Zh hG [] [(900000, (900000, 1)), (900001, (900001, 1))] rfl rfl (Ze rfl rfl (Ze rfl rfl (Ze rfl rfl (Ze rfl rfl (Ze rfl rfl (Ze rfl rfl (Ze rfl rfl trivial))))))) (Zc rfl rfl (Zc rfl rfl trivial))
      · refine Zpb 9 rfl ?_; cases h; exact Zh hG [] [(900000, (900000, 1)), (900001, (900001, 1))] rfl rfl (Ze rfl rfl (Ze rfl rfl (Ze rfl rfl (Ze rfl rfl (Ze rfl rfl (Ze rfl rfl (Ze rfl rfl trivial))))))) (Zc rfl rfl (Zc rfl rfl trivial))
    · intro s2 r2 h hG; refine Zcp 7 rfl ?_; refine YT rfl rfl rfl h (fun _ h => ?_) (fun _ h => ?_)
      · refine Zwp 1 rfl ?_; refine Y2 rfl rfl rfl ?_; refine bindK h fun x41 hx41 h => ?_; refine W.chk rfl (elemB hx41) ?_; refine W.elem rfl (elemG hx41) ?_; refine W.chk rfl rfl ?_; refine W.det (.fp [.v (.int .i64 x41.How), .v (.int .i64 x41.Finds)]) _ rfl ?_; refine Zu (.fp [.v (.int .i64 x41.How), .v (.int .i64 x41.Finds)]) rfl rfl rfl rfl ?_; refine Zpc 5 rfl ?_; refine A.condB rfl h (fun _ h => ?_) (fun _ h => ?_)
        · refine Zcp 2 rfl ?_; refine Y1 rfl ?_; refine chkK h fun g42 h => ?_; refine W.chk rfl (of_decide_eq_true g42) ?_; refine Zwp 3 rfl ?_; refine Y1 rfl ?_; refine bindK h fun y43 hy43 h => ?_; refine W.call rfl (ref10_Decimal_fn hy43) ?_; refine Zwp 1 rfl ?_; refine Y1 rfl ?_; refine chkK h fun g44 h => ?_; refine W.chk rfl (of_decide_eq_true g44) ?_; refine Zwp 1 rfl ?_; refine Y1 rfl ?_; refine chkK h fun g45 h => ?_; refine W.chk rfl (of_decide_eq_true g45) ?_; refine Zwp 8 rfl ?_; refine Y1 rfl ?_; refine chkK h fun g46 h => ?_; refine W.chk rfl (of_decide_eq_true g46) ?_; refine Zwp 2 rfl ?_; refine Zo (.agg (api_Profile.av p_)) rfl rfl ?_; refine Zpp 2 rfl ?_; refine Y1 rfl ?_; refine bindK h fun y47 hy47 h => ?_; refine W.call rfl (ref21_Shown_fn hy47) ?_; refine W.v (.row 85 2 (List.map (encI .i64) y47).length) (.row 85 2 y47.length) (Mem.add _ 85 (.rows 1 (List.map (encI .i64) y47) false)) rfl (by simp only [List.length_map]) ?_; refine Y1 rfl ?_; refine bindK h fun y48 hy48 h => ?_; refine W.call rfl (ref21_Listed_fn hy48) ?_; refine Zwp 1 rfl ?_; refine Y1 rfl ?_; refine chkK h fun g49 h => ?_; refine W.chk rfl (of_decide_eq_true g49) ?_; refine Zwb 5 rfl ?_; cases h; cases hG; exact ⟨rfl, trivial⟩
        · refine Zcp 6 rfl ?_; refine Y1 rfl ?_; refine chkK h fun g50 h => ?_; refine W.chk rfl (of_decide_eq_true g50) ?_; refine Zwp 2 rfl ?_; refine Zo (.agg (api_Profile.av p_)) rfl rfl ?_; refine Zpp 2 rfl ?_; refine Y1 rfl ?_; refine bindK h fun y51 hy51 h => ?_; refine W.call rfl (ref21_Shown_fn hy51) ?_; refine W.v (.row 85 2 (List.map (encI .i64) y51).length) (.row 85 2 y51.length) (Mem.add _ 85 (.rows 1 (List.map (encI .i64) y51) false)) rfl (by simp only [List.length_map]) ?_; refine Y1 rfl ?_; refine bindK h fun y52 hy52 h => ?_; refine W.call rfl (ref21_Listed_fn hy52) ?_; refine Zwp 1 rfl ?_; refine Y1 rfl ?_; refine chkK h fun g53 h => ?_; refine W.chk rfl (of_decide_eq_true g53) ?_; refine Zwb 5 rfl ?_; cases h; cases hG; exact ⟨rfl, trivial⟩
      · refine Zpp 14 rfl ?_; refine Y1 rfl ?_; refine chkK h fun g54 h => ?_; refine W.chk rfl (of_decide_eq_true g54) ?_; refine Zwp 2 rfl ?_; refine Zo (.agg (api_Profile.av p_)) rfl rfl ?_; refine Zpp 2 rfl ?_; refine Y1 rfl ?_; refine bindK h fun y55 hy55 h => ?_; refine W.call rfl (ref21_Shown_fn hy55) ?_; refine W.v (.row 85 2 (List.map (encI .i64) y55).length) (.row 85 2 y55.length) (Mem.add _ 85 (.rows 1 (List.map (encI .i64) y55) false)) rfl (by simp only [List.length_map]) ?_; refine Y1 rfl ?_; refine bindK h fun y56 hy56 h => ?_; refine W.call rfl (ref21_Listed_fn hy56) ?_; refine Zwp 1 rfl ?_; refine Y1 rfl ?_; refine chkK h fun g57 h => ?_; refine W.chk rfl (of_decide_eq_true g57) ?_; refine Zwb 5 rfl ?_; cases h; cases hG; exact ⟨rfl, trivial⟩
noncomputable def ref10_Parts_L1 (most_ : Int) (s_ : ByteArray) (size_ : Int) (s3 : Int × (List ByteArray)) : Option ((Int × (List ByteArray)) ⊕ (((List ByteArray)) ⊕ ((List ByteArray)))) :=
  (bif (decide (((s3.2.length : Nat) : Int) < most_)) then
    (bif (decide ((IntKind.i64.wrap ((s_.size : Int) - s3.1)) ≤ size_)) then
      (chkO (cutO s3.1 (s_.size : Int) (s_.size : Int))).bind fun _ =>
      (chkO (decide (s3.2.length + [(s_.extract s3.1.toNat (s_.size : Int).toNat)].length ≤ 1000000))).bind fun _ =>
      some (.inr (.inr (s3.2 ++ [(s_.extract s3.1.toNat (s_.size : Int).toNat)])))
    else
      (bif (((s3.2.length : Nat) : Int) == (IntKind.i64.wrap (most_ - (1 : Int)))) then
        (chkO (cutO s3.1 (IntKind.i64.wrap ((IntKind.i64.wrap (s3.1 + size_)) - (1 : Int))) (s_.size : Int))).bind fun _ =>
        (chkO (decide ((s_.extract s3.1.toNat (IntKind.i64.wrap ((IntKind.i64.wrap (s3.1 + size_)) - (1 : Int))).toNat).size + (ByteArray.mk #[43]).size ≤ 1000000000))).bind fun _ =>
        (chkO (decide (s3.2.length + [((s_.extract s3.1.toNat (IntKind.i64.wrap ((IntKind.i64.wrap (s3.1 + size_)) - (1 : Int))).toNat) ++ (ByteArray.mk #[43]))].length ≤ 1000000))).bind fun _ =>
        some (.inr (.inr (s3.2 ++ [((s_.extract s3.1.toNat (IntKind.i64.wrap ((IntKind.i64.wrap (s3.1 + size_)) - (1 : Int))).toNat) ++ (ByteArray.mk #[43]))])))
      else
        (chkO (cutO s3.1 (IntKind.i64.wrap (s3.1 + size_)) (s_.size : Int))).bind fun _ =>
        (chkO (decide (s3.2.length + [(s_.extract s3.1.toNat (IntKind.i64.wrap (s3.1 + size_)).toNat)].length ≤ 1000000))).bind fun _ =>
        some (.inl ((IntKind.i64.wrap (s3.1 + size_)), (s3.2 ++ [(s_.extract s3.1.toNat (IntKind.i64.wrap (s3.1 + size_)).toNat)])))))
  else
    some (.inr (.inl s3.2)))
noncomputable def ref10_Parts (s_ : ByteArray) (size_ : Int) (most_ : Int) : Option ((List ByteArray)) :=
  (bif (decide (size_ < (2 : Int))) then
    some ([] : List ByteArray)
  else
    (bif (decide (most_ < (1 : Int))) then
      some ([] : List ByteArray)
    else
      (seqF (A := (List ByteArray)) (
        loopF (ref10_Parts_L1 most_ s_ size_) ((0 : Int), ([] : List ByteArray)))
      fun s2 =>
        some s2)))
theorem ref10_Parts_fn {dr : Prop} {s_ : ByteArray} {size_ : Int} {most_ : Int} {r : (List ByteArray)} (h : ref10_Parts s_ size_ most_ = some r) : Fn dr Tryz.prog 31 [VS s_, VI size_, VI most_] (.ow 1 (List.map encS r)) := by
  refine Fn.of_AW (dr := dr) (F := FnX dr Tryz.prog) (base := 0) (js := [13]) mixed tok noeqs (fun _ _ _ h => h) Tryz.call31 Tryz.func31 rfl Tryz.ntmps31 (by rw [Tryz.results31]) (by simp) ?_; have hG : (fun x => x = r) r := rfl; unfold ref10_Parts at h; refine Zap 2 rfl ?_; refine Zm (.row 6 1 0) (Mem.add _ 6 (.rows 1 (List.map encS ([] : List ByteArray)) false)) rfl rfl ?_; refine Zpp 8 rfl ?_; refine YF rfl rfl rfl h (fun _ h => ?_) (fun _ h => ?_)
  · refine Zpp 7 rfl ?_; refine Zm (.row 6 2 0) (Mem.add _ 6 (.rows 1 (List.map encS ([] : List ByteArray)) false)) rfl rfl ?_; refine Zpb 4 rfl ?_; cases h; cases hG; exact ⟨rfl, rfl, trivial⟩
  · refine Zwc 5 rfl ?_; refine A.condB rfl h (fun _ h => ?_) (fun _ h => ?_)
    · refine Zcp 2 rfl ?_; refine Zm (.row 6 2 0) (Mem.add _ 6 (.rows 1 (List.map encS ([] : List ByteArray)) false)) rfl rfl ?_; refine Zpb 4 rfl ?_; cases h; cases hG; exact ⟨rfl, rfl, trivial⟩
    · refine Zcp 4 rfl ?_; refine Zm (.row 7 1 0) (Mem.add _ 7 (.rows 1 (List.map encS ([] : List ByteArray)) false)) rfl rfl ?_; refine Zpc 7 rfl ?_; refine A.join (fun (s2 : (List ByteArray)) => [(7, .row 900000 1 s2.length)]) (fun s2 => [(900000, .rows 1 (List.map encS s2) false)]) _ h hG rfl ?_ ?_
      · intro J f h hG; refine Zac 1 rfl ?_; refine A.loop (fun (s3 : Int × (List ByteArray)) => [(0, VS s_), (1, VI size_), (2, VI most_), (7, .row 900000 1 s3.2.length), (8, VI s3.1)]) (fun s3 => [(900000, .rows 1 (List.map encS s3.2) false)]) _ h hG (Zf [] [(900000, (7, 1))] rfl rfl (Ze rfl rfl (Ze rfl rfl (Ze rfl rfl (Ze rfl rfl (Ze rfl rfl trivial))))) (Zc rfl rfl trivial)) ?_; intro J s3 f h hG; unfold ref10_Parts_L1 at h; refine Zap 3 rfl ?_; refine Zo (.row 900000 1 s3.2.length) rfl rfl ?_; refine Zpc 5 rfl ?_; refine A.condB rfl h (fun _ h => ?_) (fun _ h => ?_)
        · refine Zcc 20 rfl ?_; refine A.condB rfl h (fun _ h => ?_) (fun _ h => ?_)
          · refine Zcp 2 rfl ?_; refine Zo (.row 900000 1 s3.2.length) rfl rfl ?_; refine Zpp 2 rfl ?_; refine Y1 rfl ?_; refine chkK h fun g63 h => ?_; refine W.chk rfl (cutO_all g63) ?_; refine W.det (VS (s_.extract s3.1.toNat (s_.size : Int).toNat)) _ rfl ?_; refine Zm (.row 31 2 1) (Mem.add _ 31 (.rows 1 (List.map encS [(s_.extract s3.1.toNat (s_.size : Int).toNat)]) false)) rfl rfl ?_; refine Y1 rfl ?_; refine chkK h fun g64 h => ?_; refine W.chk rfl (appChk (fun _ => rfl) g64) ?_; refine W.app rfl rfl ?_; refine Zo (.row 900000 2 (s3.2 ++ [(s_.extract s3.1.toNat (s_.size : Int).toNat)]).length) rfl rfl ?_; refine Zpb 5 rfl ?_; refine headK.r ?_; refine Zob 1 rfl ?_; refine headK.r ?_; cases h; cases hG; exact ⟨rfl, rfl, trivial⟩
          · refine Zcp 5 rfl ?_; refine Zo (.row 900000 1 s3.2.length) rfl rfl ?_; refine Zpc 6 rfl ?_; refine A.condB rfl h (fun _ h => ?_) (fun _ h => ?_)
            · refine Zcp 2 rfl ?_; refine Zo (.row 900000 1 s3.2.length) rfl rfl ?_; refine Zpp 6 rfl ?_; refine Y1 rfl ?_; refine chkK h fun g68 h => ?_; refine W.chk rfl (cutO_all g68) ?_; refine W.det (VS (s_.extract s3.1.toNat (IntKind.i64.wrap ((IntKind.i64.wrap (s3.1 + size_)) - (1 : Int))).toNat)) _ rfl ?_; refine Y1 rfl ?_; refine chkK h fun g69 h => ?_; refine W.chk rfl (of_decide_eq_true g69) ?_; refine Zwp 1 rfl ?_; refine Zm (.row 47 2 1) (Mem.add _ 47 (.rows 1 (List.map encS [((s_.extract s3.1.toNat (IntKind.i64.wrap ((IntKind.i64.wrap (s3.1 + size_)) - (1 : Int))).toNat) ++ (ByteArray.mk #[43]))]) false)) rfl rfl ?_; refine Y1 rfl ?_; refine chkK h fun g70 h => ?_; refine W.chk rfl (appChk (fun _ => rfl) g70) ?_; refine W.app rfl rfl ?_; refine Zo (.row 900000 2 (s3.2 ++ [((s_.extract s3.1.toNat (IntKind.i64.wrap ((IntKind.i64.wrap (s3.1 + size_)) - (1 : Int))).toNat) ++ (ByteArray.mk #[43]))]).length) rfl rfl ?_; refine Zpb 5 rfl ?_; refine headK.r ?_; refine Zob 1 rfl ?_; refine headK.r ?_; cases h; cases hG; exact ⟨rfl, rfl, trivial⟩
            · refine Zcp 4 rfl ?_; refine Zo (.row 900000 1 s3.2.length) rfl rfl ?_; refine Zpp 5 rfl ?_; refine Y1 rfl ?_; refine chkK h fun g71 h => ?_; refine W.chk rfl (cutO_all g71) ?_; refine W.det (VS (s_.extract s3.1.toNat (IntKind.i64.wrap (s3.1 + size_)).toNat)) _ rfl ?_; refine Zm (.row 56 2 1) (Mem.add _ 56 (.rows 1 (List.map encS [(s_.extract s3.1.toNat (IntKind.i64.wrap (s3.1 + size_)).toNat)]) false)) rfl rfl ?_; refine Y1 rfl ?_; refine chkK h fun g72 h => ?_; refine W.chk rfl (appChk (fun _ => rfl) g72) ?_; refine W.app rfl rfl ?_; refine Zo (.row 900000 2 (s3.2 ++ [(s_.extract s3.1.toNat (IntKind.i64.wrap (s3.1 + size_)).toNat)]).length) rfl rfl ?_; refine Zpb 9 rfl ?_; cases h; exact Zh hG [] [(900000, (900000, 2))] rfl rfl (Ze rfl rfl (Ze rfl rfl (Ze rfl rfl (Ze rfl rfl (Ze rfl rfl trivial))))) (Zc rfl rfl trivial)
        · refine Zcb 2 rfl ?_; refine headK.e ?_; refine Zob 1 rfl ?_; cases h; exact Zh hG [] [(900000, (900000, 1))] rfl rfl (Ze rfl rfl trivial) (Zc rfl rfl trivial)
      · intro s2 r2 h hG; refine Zcp 2 rfl ?_; refine Zo (.row 900000 1 s2.length) rfl rfl ?_; refine Zo (.row 900000 1 s2.length) rfl rfl ?_; refine Zpb 3 rfl ?_; cases h; cases hG; exact ⟨rfl, rfl, trivial⟩
noncomputable def ref21_items_L1 (texts_ : (List ByteArray)) (id_ : Int) (kind_ : Int) (on_ : Int) (s3 : Int × (List api_Item)) : Option ((Int × (List api_Item)) ⊕ (((List api_Item)) ⊕ ((List api_Item)))) :=
  (bif (decide (s3.1 < (texts_.length : Int))) then
    (getI texts_ s3.1).bind fun x34 =>
    (bif (s3.1 == (0 : Int)) then
      (chkO (decide (s3.2.length + [(api_Item.mk id_ s3.1 (texts_.length : Int) kind_ on_ (0 : Int) (-1 : Int) (-1 : Int) (0 : Int) x34 ([] : List Int))].length ≤ 1000000))).bind fun _ =>
      some (.inl ((IntKind.i64.wrap (s3.1 + (1 : Int))), (s3.2 ++ [(api_Item.mk id_ s3.1 (texts_.length : Int) kind_ on_ (0 : Int) (-1 : Int) (-1 : Int) (0 : Int) x34 ([] : List Int))])))
    else
      (chkO (decide (s3.2.length + [(api_Item.mk id_ s3.1 (texts_.length : Int) kind_ (-1 : Int) (0 : Int) (-1 : Int) (-1 : Int) (0 : Int) x34 ([] : List Int))].length ≤ 1000000))).bind fun _ =>
      some (.inl ((IntKind.i64.wrap (s3.1 + (1 : Int))), (s3.2 ++ [(api_Item.mk id_ s3.1 (texts_.length : Int) kind_ (-1 : Int) (0 : Int) (-1 : Int) (-1 : Int) (0 : Int) x34 ([] : List Int))]))))
  else
    some (.inr (.inl s3.2)))
noncomputable def ref21_items (id_ : Int) (kind_ : Int) (texts_ : (List ByteArray)) (on_ : Int) : Option ((List api_Item)) :=
  (seqF (A := (List api_Item)) (
    loopF (ref21_items_L1 texts_ id_ kind_ on_) ((0 : Int), ([] : List api_Item)))
  fun s2 =>
    some s2)
theorem ref21_items_fn {dr : Prop} {id_ : Int} {kind_ : Int} {texts_ : (List ByteArray)} {on_ : Int} {r : (List api_Item)} (h : ref21_items id_ kind_ texts_ on_ = some r) : Fn dr Tryz.prog 30 [VI id_, VI kind_, VF (List.map encS texts_), VI on_] (.ow 11 (List.map api_Item.enc r)) := by
  refine Fn.of_AW (dr := dr) (F := FnX dr Tryz.prog) (base := 0) (js := [9]) mixed tok noeqs (fun _ _ _ h => h) Tryz.call30 Tryz.func30 rfl Tryz.ntmps30 (by rw [Tryz.results30]) (by simp) ?_; have hG : (fun x => x = r) r := rfl; unfold ref21_items at h; refine Zap 2 rfl ?_; refine Zm (.row 8 1 0) (Mem.add _ 8 (.rows 11 (List.map api_Item.enc ([] : List api_Item)) false)) rfl rfl ?_; refine Zpp 4 rfl ?_; refine Zm (.row 9 1 0) (Mem.add _ 9 (.rows 11 (List.map api_Item.enc ([] : List api_Item)) false)) rfl rfl ?_; refine Zpc 2 rfl ?_; refine A.join (fun (s2 : (List api_Item)) => [(9, .row 900000 1 s2.length)]) (fun s2 => [(900000, .rows 11 (List.map api_Item.enc s2) false)]) _ h hG rfl ?_ ?_
  · intro J f h hG; refine Zac 6 rfl ?_; refine A.loop (fun (s3 : Int × (List api_Item)) => [(0, VI id_), (1, VI kind_), (2, VF (List.map encS texts_)), (3, VI on_), (9, .row 900000 1 s3.2.length), (10, VI s3.1)]) (fun s3 => [(900000, .rows 11 (List.map api_Item.enc s3.2) false)]) _ h hG (Zf [] [(900000, (9, 1))] rfl rfl (Ze rfl rfl (Ze rfl rfl (Ze rfl rfl (Ze rfl rfl (Ze rfl rfl (Ze rfl rfl trivial)))))) (Zc rfl rfl trivial)) ?_; intro J s3 f h hG; unfold ref21_items_L1 at h; refine Zap 5 rfl ?_; refine Y1 rfl ?_; refine W.len rfl ?_; refine Zpc 3 rfl ?_; refine A.condB rfl h (fun _ h => ?_) (fun _ h => ?_)
    · refine Zcp 9 rfl ?_; refine Y1 rfl ?_; refine W.len rfl ?_; refine Zpp 3 rfl ?_; refine Y1 rfl ?_; refine bindK h fun x34 hx34 h => ?_; refine W.chk rfl (elemB hx34) ?_; refine W.elem rfl (elemG hx34) ?_; refine W.chk rfl rfl ?_; refine W.det (.fp [.v (.string x34)]) _ rfl ?_; refine Zpp 1 rfl ?_; refine Zo (.agg [VI id_, VI s3.1, VI (texts_.length : Int), VI kind_, VI (-1), VI 0, VI (-1), VI (-1), VI 0, VS x34, .nl]) rfl rfl ?_; refine Zm (.lp 11 2 0) (Mem.add (Mem.add _ 720907 (.rows 1 (List.map (encI .i64) ([] : List Int)) false)) 11 (.box [VI 0, VI 0, VI 0, VI 0, VI 0, VI 0, VI 0, VI 0, VI 0, VS (ByteArray.mk #[]), .row 720907 2 0])) rfl rfl ?_; refine Zm (.tup []) (Mem.set (Mem.add _ 1769483 (.rows 1 (List.map (encI .i64) ([] : List Int)) false)) 11 2 (some (.box [VI id_, VI s3.1, VI (texts_.length : Int), VI kind_, VI (-1), VI 0, VI (-1), VI (-1), VI 0, VS x34, .row 1769483 2 0]))) rfl rfl ?_; refine Zpc 9 rfl ?_; refine A.condB rfl h (fun _ h => ?_) (fun _ h => ?_)
      · refine Zcp 3 rfl ?_; refine Zm (.tup []) (Mem.set _ 11 2 (some (.box [VI id_, VI s3.1, VI (texts_.length : Int), VI kind_, VI on_, VI 0, VI (-1), VI (-1), VI 0, VS x34, .row 1769483 2 0]))) rfl rfl ?_; refine Zpp 3 rfl ?_; refine Zo (.row 900000 1 s3.2.length) rfl rfl ?_; refine Zo (.agg [VI id_, VI s3.1, VI (texts_.length : Int), VI kind_, VI on_, VI 0, VI (-1), VI (-1), VI 0, VS x34, .row 1769483 2 0]) rfl rfl ?_; refine Zm (.row 34 2 1) (Mem.add (Mem.set _ 1769483 2 (some (.rows 1 (List.map (encI .i64) ([] : List Int)) true))) 34 (.rows 11 (List.map api_Item.enc [(api_Item.mk id_ s3.1 (texts_.length : Int) kind_ on_ (0 : Int) (-1 : Int) (-1 : Int) (0 : Int) x34 ([] : List Int))]) false)) rfl rfl ?_; refine Y1 rfl ?_; refine chkK h fun g35 h => ?_; refine W.chk rfl (appChk (fun _ => rfl) g35) ?_; refine W.app rfl rfl ?_; refine Zo (.row 900000 2 (s3.2 ++ [(api_Item.mk id_ s3.1 (texts_.length : Int) kind_ on_ (0 : Int) (-1 : Int) (-1 : Int) (0 : Int) x34 ([] : List Int))]).length) rfl rfl ?_; refine Zpb 8 rfl ?_; cases h; exact Zh hG [] [(900000, (900000, 2))] rfl rfl (Ze rfl rfl (Ze rfl rfl (Ze rfl rfl (Ze rfl rfl (Ze rfl rfl (Ze rfl rfl trivial)))))) (Zc rfl rfl trivial)
      · refine Zcp 3 rfl ?_; refine Zo (.row 900000 1 s3.2.length) rfl rfl ?_; refine Zo (.agg [VI id_, VI s3.1, VI (texts_.length : Int), VI kind_, VI (-1), VI 0, VI (-1), VI (-1), VI 0, VS x34, .row 1769483 2 0]) rfl rfl ?_; refine Zm (.row 34 2 1) (Mem.add (Mem.set _ 1769483 2 (some (.rows 1 (List.map (encI .i64) ([] : List Int)) true))) 34 (.rows 11 (List.map api_Item.enc [(api_Item.mk id_ s3.1 (texts_.length : Int) kind_ (-1 : Int) (0 : Int) (-1 : Int) (-1 : Int) (0 : Int) x34 ([] : List Int))]) false)) rfl rfl ?_; refine Y1 rfl ?_; refine chkK h fun g36 h => ?_; refine W.chk rfl (appChk (fun _ => rfl) g36) ?_; refine W.app rfl rfl ?_; refine Zo (.row 900000 2 (s3.2 ++ [(api_Item.mk id_ s3.1 (texts_.length : Int) kind_ (-1 : Int) (0 : Int) (-1 : Int) (-1 : Int) (0 : Int) x34 ([] : List Int))]).length) rfl rfl ?_; refine Zpb 8 rfl ?_; cases h; exact Zh hG [] [(900000, (900000, 2))] rfl rfl (Ze rfl rfl (Ze rfl rfl (Ze rfl rfl (Ze rfl rfl (Ze rfl rfl (Ze rfl rfl trivial)))))) (Zc rfl rfl trivial)
    · refine Zcb 2 rfl ?_; refine headK.e ?_; refine Zob 1 rfl ?_; cases h; exact Zh hG [] [(900000, (900000, 1))] rfl rfl (Ze rfl rfl trivial) (Zc rfl rfl trivial)
  · intro s2 r2 h hG; refine Zcp 2 rfl ?_; refine Zo (.row 900000 1 s2.length) rfl rfl ?_; refine Zo (.row 900000 1 s2.length) rfl rfl ?_; refine Zpb 3 rfl ?_; cases h; cases hG; exact ⟨rfl, rfl, trivial⟩
noncomputable def ref21_post (p_ : api_Profile) (ways_ : (List api_Way)) (events_ : (List api_Event)) (bad_ : (List Int)) (id_ : Int) : Option ((List api_Item)) :=
  (getI events_ id_).bind fun x1 =>
  (seqF (A := Int) (
    (ref21_Message events_ x1.Target id_).bind fun y4 =>
    (bif y4 then
      (ref21_place p_ events_ x1.Target).bind fun y5 =>
      some (.inl y5)
    else
      some (.inl (-1 : Int))))
  fun s1 =>
    (ref21_Say p_ ways_ events_ bad_ id_ x1.Text x1.Files).bind fun y6 =>
    (ref10_Parts y6 p_.Size p_.Parts).bind fun y7 =>
    (ref21_items id_ (0 : Int) y7 s1).bind fun y8 =>
    (seqF (A := (List api_Item)) (
      (ref21_Message events_ x1.Quote id_).bind fun y17 =>
      (bif y17 then
        (getI ways_ (6 : Int)).bind fun x18 =>
        (bif (x18.How == (0 : Int)) then
          (chkO (decide (0 ≤ (0 : Int)) && decide ((0 : Int) < ((y8.length : Nat) : Int)))).bind fun _ =>
          (getI y8 (0 : Int)).bind fun x20 =>
          some (.inl (List.set y8 (0 : Int).toNat (api_Item.mk x20.Event x20.Part x20.Of x20.Kind x20.On x20.OnPart x1.Quote x20.Who x20.N x20.Text x20.Files)))
        else
          some (.inl y8))
      else
        some (.inl y8)))
    fun s2 =>
      (getI ways_ (7 : Int)).bind fun x24 =>
      (bif (x24.How == (0 : Int)) then
        (chkO (decide (0 ≤ (0 : Int)) && decide ((0 : Int) < ((s2.length : Nat) : Int)))).bind fun _ =>
        (getI s2 (0 : Int)).bind fun x26 =>
        (ref21_Shown p_ x1.Files bad_).bind fun y27 =>
        (getI (List.set s2 (0 : Int).toNat (api_Item.mk x26.Event x26.Part x26.Of x26.Kind x26.On x26.OnPart x26.Quote x1.Who x26.N x26.Text x26.Files)) (0 : Int)).bind fun x29 =>
        some (List.set (List.set s2 (0 : Int).toNat (api_Item.mk x26.Event x26.Part x26.Of x26.Kind x26.On x26.OnPart x26.Quote x1.Who x26.N x26.Text x26.Files)) (0 : Int).toNat (api_Item.mk x29.Event x29.Part x29.Of x29.Kind x29.On x29.OnPart x29.Quote x29.Who x29.N x29.Text y27))
      else
        (ref21_Shown p_ x1.Files bad_).bind fun y30 =>
        (chkO (decide (0 ≤ (0 : Int)) && decide ((0 : Int) < ((s2.length : Nat) : Int)))).bind fun _ =>
        (getI s2 (0 : Int)).bind fun x32 =>
        some (List.set s2 (0 : Int).toNat (api_Item.mk x32.Event x32.Part x32.Of x32.Kind x32.On x32.OnPart x32.Quote x32.Who x32.N x32.Text y30)))))
theorem ref21_post_fn {dr : Prop} {p_ : api_Profile} {ways_ : (List api_Way)} {events_ : (List api_Event)} {bad_ : (List Int)} {id_ : Int} {r : (List api_Item)} (h : ref21_post p_ ways_ events_ bad_ id_ = some r) : Fn dr Tryz.prog 25 [.agg (api_Profile.av p_), VF (List.map api_Way.enc ways_), VF (List.map api_Event.enc events_), VF (List.map (encI .i64) bad_), VI id_] (.ow 11 (List.map api_Item.enc r)) := by
  refine Fn.of_AW (dr := dr) (F := FnX dr Tryz.prog) (base := 0) (js := [5, 8]) mixed tok noeqs (fun _ _ _ h => h) Tryz.call25 Tryz.func25 rfl Tryz.ntmps25 (by rw [Tryz.results25]) (by simp) ?_; have hG : (fun x => x = r) r := rfl; unfold ref21_post at h; refine Zap 2 rfl ?_; refine Zm (.lp 5 1 0) (Mem.add _ 5 (.box (api_Profile.av p_))) rfl rfl ?_; refine Zm (.row 10 1 0) (Mem.add _ 10 (.rows 11 (List.map api_Item.enc ([] : List api_Item)) false)) rfl rfl ?_; refine Zpp 6 rfl ?_; refine Y1 rfl ?_; refine bindK h fun x1 hx1 h => ?_; refine W.chk rfl (elemB hx1) ?_; refine W.elem rfl (elemG hx1) ?_; refine W.chk rfl rfl ?_; refine W.det (.fp [.v (.int .i64 x1.Author), .v (.int .i64 x1.Seq), .fz (List.map (encI .i64) x1.Causes), .v (.int .i64 x1.Kind), .v (.int .i64 x1.Group), .v (.int .i64 x1.Target), .v (.int .i64 x1.Quote), .v (.int .i64 x1.Who), .v (.int .i64 x1.N), .v (.string x1.Text), .fz (List.map (encI .i64) x1.Files), .v (.int .i64 x1.Step)]) _ rfl ?_; refine Zo (.agg (api_Event.av x1)) rfl rfl ?_; refine Zm (.lp 11 1 0) (Mem.add (Mem.add (Mem.add _ 196619 (.rows 1 (List.map (encI .i64) ([] : List Int)) false)) 720907 (.rows 1 (List.map (encI .i64) ([] : List Int)) false)) 11 (.box [VI 0, VI 0, .row 196619 1 0, VI 0, VI 0, VI 0, VI 0, VI 0, VI 0, VS (ByteArray.mk #[]), .row 720907 1 0, VI 0])) rfl rfl ?_; refine Zm (.tup []) (Mem.set _ 11 1 (some (.box (api_Event.av x1)))) rfl rfl ?_; refine Zpc 7 rfl ?_; refine A.join (fun (s1 : Int) => [(1, VF (List.map api_Way.enc ways_)), (2, VF (List.map api_Event.enc events_)), (3, VF (List.map (encI .i64) bad_)), (4, VI id_), (5, .lp 900000 1 0), (11, .lp 900001 1 0), (12, VI s1)]) (fun s1 => [(900000, .box (api_Profile.av p_)), (900001, .box (api_Event.av x1))]) _ h hG rfl ?_ ?_
  · intro J f h hG; refine Zap 6 rfl ?_; refine Y1 rfl ?_; refine bindK h fun y4 hy4 h => ?_; refine W.call rfl (ref21_Message_fn hy4) ?_; refine Zwc 3 rfl ?_; refine A.condB rfl h (fun _ h => ?_) (fun _ h => ?_)
    · refine Zcp 1 rfl ?_; refine Zo (.agg (api_Profile.av p_)) rfl rfl ?_; refine Zpp 3 rfl ?_; refine Y1 rfl ?_; refine bindK h fun y5 hy5 h => ?_; refine W.call rfl (ref21_place_fn hy5) ?_; refine Zwb 3 rfl ?_; cases h; exact Zh hG [] [(900000, (5, 1)), (900001, (11, 1))] rfl rfl (Ze rfl rfl (Ze rfl rfl (Ze rfl rfl (Ze rfl rfl (Ze rfl rfl (Ze rfl rfl (Ze rfl rfl trivial))))))) (Zc rfl rfl (Zc rfl rfl trivial))
    · refine Zcb 1 rfl ?_; cases h; exact Zh hG [] [(900000, (5, 1)), (900001, (11, 1))] rfl rfl (Ze rfl rfl (Ze rfl rfl (Ze rfl rfl (Ze rfl rfl (Ze rfl rfl (Ze rfl rfl (Ze rfl rfl trivial))))))) (Zc rfl rfl (Zc rfl rfl trivial))
  · intro s1 r2 h hG; refine Zcc 1 rfl ?_; refine A.regionD (by kernel_rfl) ?_; refine Zpp 1 rfl ?_; refine Zo (.agg (api_Profile.av p_)) rfl rfl ?_; refine Zpp 8 rfl ?_; refine Y1 rfl ?_; refine bindK h fun y6 hy6 h => ?_; refine W.call rfl (ref21_Say_fn hy6) ?_; refine Zwp 5 rfl ?_; refine Y1 rfl ?_; refine bindK h fun y7 hy7 h => ?_; refine W.call rfl (ref10_Parts_fn hy7) ?_; refine W.v (.row 43 2 (List.map encS y7).length) (.row 43 2 y7.length) (Mem.add _ 43 (.rows 1 (List.map encS y7) false)) rfl (by simp only [List.length_map]) ?_; refine Zpp 1 rfl ?_; refine Y1 rfl ?_; refine bindK h fun y8 hy8 h => ?_; refine W.call rfl (ref21_items_fn hy8) ?_; refine W.v (.row 45 2 (List.map api_Item.enc y8).length) (.row 45 2 y8.length) (Mem.add (Mem.set _ 43 2 (some (.rows 1 (List.map encS y7) true))) 45 (.rows 11 (List.map api_Item.enc y8) false)) rfl (by simp only [List.length_map]) ?_; refine Zo (.row 45 2 y8.length) rfl rfl ?_; refine Zpc 2 rfl ?_; refine A.join (fun (s2 : (List api_Item)) => [(1, VF (List.map api_Way.enc ways_)), (3, VF (List.map (encI .i64) bad_)), (5, .lp 900000 1 0), (11, .lp 900001 1 0), (13, .row 900002 1 s2.length)]) (fun s2 => [(900000, .box (api_Profile.av p_)), (900001, .box (api_Event.av x1)), (900002, .rows 11 (List.map api_Item.enc s2) false)]) _ h hG rfl ?_ ?_
    · intro J f h hG; refine Zap 6 rfl ?_; refine Y1 rfl ?_; refine bindK h fun y17 hy17 h => ?_; refine W.call rfl (ref21_Message_fn hy17) ?_; refine Zwp 2 rfl ?_; refine YT rfl rfl rfl h (fun _ h => ?_) (fun _ h => ?_)
      · refine Zwp 1 rfl ?_; refine Y2 rfl rfl rfl ?_; refine bindK h fun x18 hx18 h => ?_; refine W.chk rfl (elemB hx18) ?_; refine W.elem rfl (elemG hx18) ?_; refine W.chk rfl rfl ?_; refine W.det (.fp [.v (.int .i64 x18.How), .v (.int .i64 x18.Finds)]) _ rfl ?_; refine Zu (.fp [.v (.int .i64 x18.How), .v (.int .i64 x18.Finds)]) rfl rfl rfl rfl ?_; refine Zpc 5 rfl ?_; refine A.condB rfl h (fun _ h => ?_) (fun _ h => ?_)
        · refine Zcp 1 rfl ?_; refine Zo (.row 45 2 y8.length) rfl rfl ?_; refine Zpp 2 rfl ?_; refine Y1 rfl ?_; refine chkK h fun g19 h => ?_; refine W.chk rfl (by first | (simp; done) | simpa using g19) ?_; refine W.det (.rp 45 2 (0 : Int).toNat 0) _ rfl ?_; refine Zo (.rp 45 2 (0 : Int).toNat 6) rfl rfl ?_; refine Y1 rfl ?_; refine bindK h fun x20 hx20 h => ?_; refine W.elem rfl (elemG hx20) ?_; refine W.set (api_Item.mk x20.Event x20.Part x20.Of x20.Kind x20.On x20.OnPart x1.Quote x20.Who x20.N x20.Text x20.Files) rfl rfl ?_; refine Zpb 1 rfl ?_; cases h; exact Zh hG [] [(900000, (900000, 1)), (900001, (900001, 1)), (900002, (45, 2))] rfl rfl (Ze rfl rfl (Ze rfl rfl (Ze rfl rfl (Ze rfl rfl (chkE.c rfl (by simp only [List.length_set]; rfl) trivial))))) (Zc rfl rfl (Zc rfl rfl (Zc rfl rfl trivial)))
        · refine Zcb 1 rfl ?_; cases h; exact Zh hG [] [(900000, (900000, 1)), (900001, (900001, 1)), (900002, (45, 2))] rfl rfl (Ze rfl rfl (Ze rfl rfl (Ze rfl rfl (Ze rfl rfl (Ze rfl rfl trivial))))) (Zc rfl rfl (Zc rfl rfl (Zc rfl rfl trivial)))
      · refine Zpb 9 rfl ?_; cases h; exact Zh hG [] [(900000, (900000, 1)), (900001, (900001, 1)), (900002, (45, 2))] rfl rfl (Ze rfl rfl (Ze rfl rfl (Ze rfl rfl (Ze rfl rfl (Ze rfl rfl trivial))))) (Zc rfl rfl (Zc rfl rfl (Zc rfl rfl trivial)))
    · intro s2 r2 h hG; refine Zcp 4 rfl ?_; refine Y1 rfl ?_; refine bindK h fun x24 hx24 h => ?_; refine W.chk rfl (elemB hx24) ?_; refine W.elem rfl (elemG hx24) ?_; refine W.chk rfl rfl ?_; refine W.det (.fp [.v (.int .i64 x24.How), .v (.int .i64 x24.Finds)]) _ rfl ?_; refine Zo (.fp [.v (.int .i64 x24.How), .v (.int .i64 x24.Finds)]) rfl rfl ?_; refine Zpc 4 rfl ?_; refine A.condB rfl h (fun _ h => ?_) (fun _ h => ?_)
      · refine Zcp 1 rfl ?_; refine Zo (.row 900002 1 s2.length) rfl rfl ?_; refine Zpp 2 rfl ?_; refine Y1 rfl ?_; refine chkK h fun g25 h => ?_; refine W.chk rfl (by first | (simp; done) | simpa using g25) ?_; refine W.det (.rp 900002 1 (0 : Int).toNat 0) _ rfl ?_; refine Zo (.rp 900002 1 (0 : Int).toNat 7) rfl rfl ?_; refine Y1 rfl ?_; refine bindK h fun x26 hx26 h => ?_; refine W.elem rfl (elemG hx26) ?_; refine W.set (api_Item.mk x26.Event x26.Part x26.Of x26.Kind x26.On x26.OnPart x26.Quote x1.Who x26.N x26.Text x26.Files) rfl rfl ?_; refine Zpp 4 rfl ?_; refine Zo (.row 900002 1 s2.length) rfl rfl ?_; refine Zo (.agg (api_Profile.av p_)) rfl rfl ?_; refine Zpp 3 rfl ?_; refine Y1 rfl ?_; refine bindK h fun y27 hy27 h => ?_; refine W.call rfl (ref21_Shown_fn hy27) ?_; refine W.v (.row 78 2 (List.map (encI .i64) y27).length) (.row 78 2 y27.length) (Mem.add _ 78 (.rows 1 (List.map (encI .i64) y27) false)) rfl (by simp only [List.length_map]) ?_; refine Y1 rfl ?_; refine W.chk rfl (by first | (simp; done) | simpa using g25) ?_; refine W.det (.rp 900002 1 (0 : Int).toNat 0) _ rfl ?_; refine Zo (.rp 900002 1 (0 : Int).toNat 10) rfl rfl ?_; refine Y1 rfl ?_; refine bindK h fun x29 hx29 h => ?_; refine W.elem rfl (elemG hx29) ?_; refine W.set (api_Item.mk x29.Event x29.Part x29.Of x29.Kind x29.On x29.OnPart x29.Quote x29.Who x29.N x29.Text y27) rfl rfl ?_; refine Zpp 4 rfl ?_; refine Zo (.row 900002 1 s2.length) rfl rfl ?_; refine Zo (.row 900002 1 s2.length) rfl rfl ?_; refine Zpb 3 rfl ?_; cases h; cases hG; exact ⟨rfl, rfl, trivial⟩
      · refine Zcp 4 rfl ?_; refine Zo (.row 900002 1 s2.length) rfl rfl ?_; refine Zo (.agg (api_Profile.av p_)) rfl rfl ?_; refine Zpp 3 rfl ?_; refine Y1 rfl ?_; refine bindK h fun y30 hy30 h => ?_; refine W.call rfl (ref21_Shown_fn hy30) ?_; refine W.v (.row 78 2 (List.map (encI .i64) y30).length) (.row 78 2 y30.length) (Mem.add _ 78 (.rows 1 (List.map (encI .i64) y30) false)) rfl (by simp only [List.length_map]) ?_; refine Y1 rfl ?_; refine chkK h fun g31 h => ?_; refine W.chk rfl (by first | (simp; done) | simpa using g31) ?_; refine W.det (.rp 900002 1 (0 : Int).toNat 0) _ rfl ?_; refine Zo (.rp 900002 1 (0 : Int).toNat 10) rfl rfl ?_; refine Y1 rfl ?_; refine bindK h fun x32 hx32 h => ?_; refine W.elem rfl (elemG hx32) ?_; refine W.set (api_Item.mk x32.Event x32.Part x32.Of x32.Kind x32.On x32.OnPart x32.Quote x32.Who x32.N x32.Text y30) rfl rfl ?_; refine Zpp 4 rfl ?_; refine Zo (.row 900002 1 s2.length) rfl rfl ?_; refine Zo (.row 900002 1 s2.length) rfl rfl ?_; refine Zpb 3 rfl ?_; cases h; cases hG; exact ⟨rfl, rfl, trivial⟩
noncomputable def ref21_Act (events_ : (List api_Event)) (id_ : Int) : Option (Bool) :=
  (getI events_ id_).bind fun x1 =>
  (seqF (A := Unit) (
    (bif (x1.Kind != (1 : Int)) then
      (bif (x1.Kind != (2 : Int)) then
        (bif (x1.Kind != (3 : Int)) then
          (bif (x1.Kind != (4 : Int)) then
            some (.inr false)
          else
            some (.inl ()))
        else
          some (.inl ()))
      else
        some (.inl ()))
    else
      some (.inl ())))
  fun s1 =>
    (ref21_Message events_ x1.Target id_).bind fun y3 =>
    (bif (!y3) then
      some false
    else
      (getI events_ x1.Target).bind fun x4 =>
      (bif (x4.Group == x1.Group) then
        (bif (x1.Kind != (1 : Int)) then
          some true
        else
          some (x4.Author == x1.Author))
      else
        some false)))
theorem ref21_Act_fn {dr : Prop} {events_ : (List api_Event)} {id_ : Int} {r : Bool} (h : ref21_Act events_ id_ = some r) : Fn dr Tryz.prog 26 [VF (List.map api_Event.enc events_), VI id_] (VB r) := by
  refine Fn.of_AW (dr := dr) (F := FnX dr Tryz.prog) (base := 0) (js := [4]) mixed tok noeqs (fun _ _ _ h => h) Tryz.call26 Tryz.func26 rfl Tryz.ntmps26 (by rw [Tryz.results26]) (by simp) ?_; have hG : (fun x => x = r) r := rfl; unfold ref21_Act at h; refine Zap 9 rfl ?_; refine Y1 rfl ?_; refine bindK h fun x1 hx1 h => ?_; refine W.chk rfl (elemB hx1) ?_; refine W.elem rfl (elemG hx1) ?_; refine W.chk rfl rfl ?_; refine W.det (.fp [.v (.int .i64 x1.Author), .v (.int .i64 x1.Seq), .fz (List.map (encI .i64) x1.Causes), .v (.int .i64 x1.Kind), .v (.int .i64 x1.Group), .v (.int .i64 x1.Target), .v (.int .i64 x1.Quote), .v (.int .i64 x1.Who), .v (.int .i64 x1.N), .v (.string x1.Text), .fz (List.map (encI .i64) x1.Files), .v (.int .i64 x1.Step)]) _ rfl ?_; refine Zo (.agg (api_Event.av x1)) rfl rfl ?_; refine Zm (.lp 5 1 0) (Mem.add (Mem.add (Mem.add _ 196613 (.rows 1 (List.map (encI .i64) ([] : List Int)) false)) 720901 (.rows 1 (List.map (encI .i64) ([] : List Int)) false)) 5 (.box [VI 0, VI 0, .row 196613 1 0, VI 0, VI 0, VI 0, VI 0, VI 0, VI 0, VS (ByteArray.mk #[]), .row 720901 1 0, VI 0])) rfl rfl ?_; refine Zm (.tup []) (Mem.set _ 5 1 (some (.box (api_Event.av x1)))) rfl rfl ?_; refine Zpc 2 rfl ?_; refine A.join (fun (s1 : Unit) => [(0, VF (List.map api_Event.enc events_)), (1, VI id_), (5, .lp 900000 1 0)]) (fun s1 => [(900000, .box (api_Event.av x1))]) _ h hG rfl ?_ ?_
  · intro J f h hG; refine Zap 6 rfl ?_; refine YT rfl rfl rfl h (fun _ h => ?_) (fun _ h => ?_)
    · refine Zwp 5 rfl ?_; refine YT rfl rfl rfl h (fun _ h => ?_) (fun _ h => ?_)
      · refine Zwp 5 rfl ?_; refine YT rfl rfl rfl h (fun _ h => ?_) (fun _ h => ?_)
        · refine Zwc 6 rfl ?_; refine A.condB rfl h (fun _ h => ?_) (fun _ h => ?_)
          · refine Zcb 6 rfl ?_; refine headK.r ?_; cases h; cases hG; exact ⟨rfl, trivial⟩
          · refine Zcb 1 rfl ?_; cases h; exact Zh hG [] [(900000, (5, 1))] rfl rfl (Ze rfl rfl (Ze rfl rfl (Ze rfl rfl trivial))) (Zc rfl rfl trivial)
        · refine Zpb 7 rfl ?_; cases h; exact Zh hG [] [(900000, (5, 1))] rfl rfl (Ze rfl rfl (Ze rfl rfl (Ze rfl rfl trivial))) (Zc rfl rfl trivial)
      · refine Zpb 12 rfl ?_; cases h; exact Zh hG [] [(900000, (5, 1))] rfl rfl (Ze rfl rfl (Ze rfl rfl (Ze rfl rfl trivial))) (Zc rfl rfl trivial)
    · refine Zpb 17 rfl ?_; cases h; exact Zh hG [] [(900000, (5, 1))] rfl rfl (Ze rfl rfl (Ze rfl rfl (Ze rfl rfl trivial))) (Zc rfl rfl trivial)
  · intro s1 r2 h hG; refine Zcp 7 rfl ?_; refine Y1 rfl ?_; refine bindK h fun y3 hy3 h => ?_; refine W.call rfl (ref21_Message_fn hy3) ?_; refine Zwc 4 rfl ?_; refine A.condB rfl h (fun _ h => ?_) (fun _ h => ?_)
    · refine Zcb 7 rfl ?_; cases h; cases hG; exact ⟨rfl, trivial⟩
    · refine Zcp 7 rfl ?_; refine Y1 rfl ?_; refine bindK h fun x4 hx4 h => ?_; refine W.chk rfl (elemB hx4) ?_; refine W.elem rfl (elemG hx4) ?_; refine W.chk rfl rfl ?_; refine W.det (.fp [.v (.int .i64 x4.Author), .v (.int .i64 x4.Seq), .fz (List.map (encI .i64) x4.Causes), .v (.int .i64 x4.Kind), .v (.int .i64 x4.Group), .v (.int .i64 x4.Target), .v (.int .i64 x4.Quote), .v (.int .i64 x4.Who), .v (.int .i64 x4.N), .v (.string x4.Text), .fz (List.map (encI .i64) x4.Files), .v (.int .i64 x4.Step)]) _ rfl ?_; refine Zo (.agg (api_Event.av x4)) rfl rfl ?_; refine Zm (.lp 6 2 0) (Mem.add (Mem.add (Mem.add _ 196614 (.rows 1 (List.map (encI .i64) ([] : List Int)) false)) 720902 (.rows 1 (List.map (encI .i64) ([] : List Int)) false)) 6 (.box [VI 0, VI 0, .row 196614 2 0, VI 0, VI 0, VI 0, VI 0, VI 0, VI 0, VS (ByteArray.mk #[]), .row 720902 2 0, VI 0])) rfl rfl ?_; refine Zm (.tup []) (Mem.set _ 6 2 (some (.box (api_Event.av x4)))) rfl rfl ?_; refine Zpp 10 rfl ?_; refine YT rfl rfl rfl h (fun _ h => ?_) (fun _ h => ?_)
      · refine Zwp 4 rfl ?_; refine YF rfl rfl rfl h (fun _ h => ?_) (fun _ h => ?_)
        · refine Zpb 10 rfl ?_; cases h; cases hG; exact ⟨rfl, trivial⟩
        · refine Zwb 11 rfl ?_; cases h; cases hG; exact ⟨rfl, trivial⟩
      · refine Zpb 14 rfl ?_; cases h; cases hG; exact ⟨rfl, trivial⟩
noncomputable def ref21_about_L1 (many_ : Int) (texts_ : (List ByteArray)) (id_ : Int) (kind_ : Int) (on_ : Int) (s3 : Int × (List api_Item)) : Option ((Int × (List api_Item)) ⊕ (((List api_Item)) ⊕ ((List api_Item)))) :=
  (bif (decide (s3.1 < many_)) then
    (bif (decide (s3.1 < (texts_.length : Int))) then
      (getI texts_ s3.1).bind fun x46 =>
      (chkO (decide (s3.2.length + [(api_Item.mk id_ s3.1 many_ kind_ on_ s3.1 (-1 : Int) (-1 : Int) (0 : Int) x46 ([] : List Int))].length ≤ 1000000))).bind fun _ =>
      some (.inl ((IntKind.i64.wrap (s3.1 + (1 : Int))), (s3.2 ++ [(api_Item.mk id_ s3.1 many_ kind_ on_ s3.1 (-1 : Int) (-1 : Int) (0 : Int) x46 ([] : List Int))])))
    else
      (chkO (decide (s3.2.length + [(api_Item.mk id_ s3.1 many_ kind_ on_ s3.1 (-1 : Int) (-1 : Int) (0 : Int) (ByteArray.mk #[]) ([] : List Int))].length ≤ 1000000))).bind fun _ =>
      some (.inl ((IntKind.i64.wrap (s3.1 + (1 : Int))), (s3.2 ++ [(api_Item.mk id_ s3.1 many_ kind_ on_ s3.1 (-1 : Int) (-1 : Int) (0 : Int) (ByteArray.mk #[]) ([] : List Int))]))))
  else
    some (.inr (.inl s3.2)))
noncomputable def ref21_about (id_ : Int) (kind_ : Int) (texts_ : (List ByteArray)) (many_ : Int) (on_ : Int) : Option ((List api_Item)) :=
  (seqF (A := (List api_Item)) (
    loopF (ref21_about_L1 many_ texts_ id_ kind_ on_) ((0 : Int), ([] : List api_Item)))
  fun s2 =>
    some s2)
theorem ref21_about_fn {dr : Prop} {id_ : Int} {kind_ : Int} {texts_ : (List ByteArray)} {many_ : Int} {on_ : Int} {r : (List api_Item)} (h : ref21_about id_ kind_ texts_ many_ on_ = some r) : Fn dr Tryz.prog 32 [VI id_, VI kind_, VF (List.map encS texts_), VI many_, VI on_] (.ow 11 (List.map api_Item.enc r)) := by
  refine Fn.of_AW (dr := dr) (F := FnX dr Tryz.prog) (base := 0) (js := [9]) mixed tok noeqs (fun _ _ _ h => h) Tryz.call32 Tryz.func32 rfl Tryz.ntmps32 (by rw [Tryz.results32]) (by simp) ?_; have hG : (fun x => x = r) r := rfl; unfold ref21_about at h; refine Zap 2 rfl ?_; refine Zm (.row 10 1 0) (Mem.add _ 10 (.rows 11 (List.map api_Item.enc ([] : List api_Item)) false)) rfl rfl ?_; refine Zpp 4 rfl ?_; refine Zm (.row 11 1 0) (Mem.add _ 11 (.rows 11 (List.map api_Item.enc ([] : List api_Item)) false)) rfl rfl ?_; refine Zpc 2 rfl ?_; refine A.join (fun (s2 : (List api_Item)) => [(11, .row 900000 1 s2.length)]) (fun s2 => [(900000, .rows 11 (List.map api_Item.enc s2) false)]) _ h hG rfl ?_ ?_
  · intro J f h hG; refine Zac 6 rfl ?_; refine A.loop (fun (s3 : Int × (List api_Item)) => [(0, VI id_), (1, VI kind_), (2, VF (List.map encS texts_)), (3, VI many_), (4, VI on_), (11, .row 900000 1 s3.2.length), (12, VI s3.1)]) (fun s3 => [(900000, .rows 11 (List.map api_Item.enc s3.2) false)]) _ h hG (Zf [] [(900000, (11, 1))] rfl rfl (Ze rfl rfl (Ze rfl rfl (Ze rfl rfl (Ze rfl rfl (Ze rfl rfl (Ze rfl rfl (Ze rfl rfl trivial))))))) (Zc rfl rfl trivial)) ?_; intro J s3 f h hG; unfold ref21_about_L1 at h; refine Zac 8 rfl ?_; refine A.condB rfl h (fun _ h => ?_) (fun _ h => ?_)
    · refine Zcp 14 rfl ?_; refine Y1 rfl ?_; refine W.len rfl ?_; refine Zpc 3 rfl ?_; refine A.condB rfl h (fun _ h => ?_) (fun _ h => ?_)
      · refine Zcp 3 rfl ?_; refine Y1 rfl ?_; refine bindK h fun x46 hx46 h => ?_; refine W.chk rfl (elemB hx46) ?_; refine W.elem rfl (elemG hx46) ?_; refine W.chk rfl rfl ?_; refine W.det (.fp [.v (.string x46)]) _ rfl ?_; refine Zpp 5 rfl ?_; refine Zo (.row 900000 1 s3.2.length) rfl rfl ?_; refine Zpp 7 rfl ?_; refine Zo (.agg [VI id_, VI s3.1, VI many_, VI kind_, VI on_, VI s3.1, VI (-1), VI (-1), VI 0, VS x46, .nl]) rfl rfl ?_; refine Zm (.row 36 2 1) (Mem.add _ 36 (.rows 11 (List.map api_Item.enc [(api_Item.mk id_ s3.1 many_ kind_ on_ s3.1 (-1 : Int) (-1 : Int) (0 : Int) x46 ([] : List Int))]) false)) rfl rfl ?_; refine Y1 rfl ?_; refine chkK h fun g47 h => ?_; refine W.chk rfl (appChk (fun _ => rfl) g47) ?_; refine W.app rfl rfl ?_; refine Zo (.row 900000 2 (s3.2 ++ [(api_Item.mk id_ s3.1 many_ kind_ on_ s3.1 (-1 : Int) (-1 : Int) (0 : Int) x46 ([] : List Int))]).length) rfl rfl ?_; refine Zpb 8 rfl ?_; cases h; exact Zh hG [] [(900000, (900000, 2))] rfl rfl (Ze rfl rfl (Ze rfl rfl (Ze rfl rfl (Ze rfl rfl (Ze rfl rfl (Ze rfl rfl (Ze rfl rfl trivial))))))) (Zc rfl rfl trivial)
      · refine Zcp 3 rfl ?_; refine Zo (.row 900000 1 s3.2.length) rfl rfl ?_; refine Zpp 7 rfl ?_; refine Zo (.agg [VI id_, VI s3.1, VI many_, VI kind_, VI on_, VI s3.1, VI (-1), VI (-1), VI 0, VS (ByteArray.mk #[]), .nl]) rfl rfl ?_; refine Zm (.row 36 2 1) (Mem.add _ 36 (.rows 11 (List.map api_Item.enc [(api_Item.mk id_ s3.1 many_ kind_ on_ s3.1 (-1 : Int) (-1 : Int) (0 : Int) (ByteArray.mk #[]) ([] : List Int))]) false)) rfl rfl ?_; refine Y1 rfl ?_; refine chkK h fun g48 h => ?_; refine W.chk rfl (appChk (fun _ => rfl) g48) ?_; refine W.app rfl rfl ?_; refine Zo (.row 900000 2 (s3.2 ++ [(api_Item.mk id_ s3.1 many_ kind_ on_ s3.1 (-1 : Int) (-1 : Int) (0 : Int) (ByteArray.mk #[]) ([] : List Int))]).length) rfl rfl ?_; refine Zpb 8 rfl ?_; cases h; exact Zh hG [] [(900000, (900000, 2))] rfl rfl (Ze rfl rfl (Ze rfl rfl (Ze rfl rfl (Ze rfl rfl (Ze rfl rfl (Ze rfl rfl (Ze rfl rfl trivial))))))) (Zc rfl rfl trivial)
    · refine Zcb 2 rfl ?_; refine headK.e ?_; refine Zob 1 rfl ?_; cases h; exact Zh hG [] [(900000, (900000, 1))] rfl rfl (Ze rfl rfl trivial) (Zc rfl rfl trivial)
  · intro s2 r2 h hG; refine Zcp 2 rfl ?_; refine Zo (.row 900000 1 s2.length) rfl rfl ?_; refine Zo (.row 900000 1 s2.length) rfl rfl ?_; refine Zpb 3 rfl ?_; cases h; cases hG; exact ⟨rfl, rfl, trivial⟩
noncomputable def ref21_Forth (p_ : api_Profile) (ways_ : (List api_Way)) (events_ : (List api_Event)) (bad_ : (List Int)) (id_ : Int) : Option ((List api_Item) × Int) :=
  (ref21_Same p_ ways_).bind fun y2 =>
  (bif (!y2) then
    some (([] : List api_Item), (1 : Int))
  else
    (bif (decide (id_ < (0 : Int))) then
      some (([] : List api_Item), (4 : Int))
    else
      (bif (decide ((events_.length : Int) ≤ id_)) then
        some (([] : List api_Item), (4 : Int))
      else
        (getI events_ id_).bind fun x3 =>
        (bif (x3.Kind == (0 : Int)) then
          (ref21_post p_ ways_ events_ bad_ id_).bind fun y5 =>
          some (y5, (0 : Int))
        else
          (ref21_Act events_ id_).bind fun y7 =>
          (bif (!y7) then
            some (([] : List api_Item), (0 : Int))
          else
            (ref21_post p_ ways_ events_ bad_ x3.Target).bind fun y8 =>
            (ref21_place p_ events_ x3.Target).bind fun y9 =>
            (bif (x3.Kind == (1 : Int)) then
              (getI ways_ (2 : Int)).bind fun x51 =>
              (bif (x51.How != (0 : Int)) then
                (ref21_line events_ x3.Target).bind fun y52 =>
                (chkO (decide ((ByteArray.mk #[101, 100, 105, 116, 58, 32]).size + y52.size ≤ 1000000000))).bind fun _ =>
                (chkO (decide (((ByteArray.mk #[101, 100, 105, 116, 58, 32]) ++ y52).size + (ByteArray.mk #[10]).size ≤ 1000000000))).bind fun _ =>
                (chkO (decide ((((ByteArray.mk #[101, 100, 105, 116, 58, 32]) ++ y52) ++ (ByteArray.mk #[10])).size + x3.Text.size ≤ 1000000000))).bind fun _ =>
                (ref21_Listed x3.Files ([] : List Int)).bind fun y56 =>
                (chkO (decide (((((ByteArray.mk #[101, 100, 105, 116, 58, 32]) ++ y52) ++ (ByteArray.mk #[10])) ++ x3.Text).size + y56.size ≤ 1000000000))).bind fun _ =>
                (ref10_Parts (((((ByteArray.mk #[101, 100, 105, 116, 58, 32]) ++ y52) ++ (ByteArray.mk #[10])) ++ x3.Text) ++ y56) p_.Size p_.Parts).bind fun y58 =>
                (ref21_items id_ (0 : Int) y58 y9).bind fun y59 =>
                some (y59, (0 : Int))
              else
                (ref21_Say p_ ways_ events_ bad_ x3.Target x3.Text x3.Files).bind fun y60 =>
                (ref10_Parts y60 p_.Size ((y8.length : Nat) : Int)).bind fun y61 =>
                (ref21_about id_ (1 : Int) y61 ((y8.length : Nat) : Int) x3.Target).bind fun y62 =>
                (ref21_Shown p_ x3.Files bad_).bind fun y63 =>
                (chkO (decide (0 ≤ (0 : Int)) && decide ((0 : Int) < ((y62.length : Nat) : Int)))).bind fun _ =>
                (getI y62 (0 : Int)).bind fun x65 =>
                some ((List.set y62 (0 : Int).toNat (api_Item.mk x65.Event x65.Part x65.Of x65.Kind x65.On x65.OnPart x65.Quote x65.Who x65.N x65.Text y63)), (0 : Int)))
            else
              (bif (x3.Kind == (2 : Int)) then
                (getI ways_ (3 : Int)).bind fun x68 =>
                (bif (x68.How == (0 : Int)) then
                  (ref21_about id_ (2 : Int) ([] : List ByteArray) ((y8.length : Nat) : Int) x3.Target).bind fun y69 =>
                  some (y69, (0 : Int))
                else
                  (bif (x68.How == (2 : Int)) then
                    (ref21_about id_ (1 : Int) [(ByteArray.mk #[40, 100, 101, 108, 101, 116, 101, 100, 41])] ((y8.length : Nat) : Int) x3.Target).bind fun y71 =>
                    some (y71, (0 : Int))
                  else
                    (ref10_Parts (ByteArray.mk #[97, 32, 109, 101, 115, 115, 97, 103, 101, 32, 119, 97, 115, 32, 100, 101, 108, 101, 116, 101, 100]) p_.Size p_.Parts).bind fun y72 =>
                    (ref21_items id_ (0 : Int) y72 y9).bind fun y73 =>
                    some (y73, (0 : Int))))
              else
                (ref10_Decimal x3.N).bind fun y74 =>
                (chkO (decide ((ByteArray.mk #[114, 101, 97, 99, 116, 105, 111, 110, 32]).size + y74.size ≤ 1000000000))).bind fun _ =>
                (bif (x3.Kind == (4 : Int)) then
                  (chkO (decide (((ByteArray.mk #[114, 101, 97, 99, 116, 105, 111, 110, 32]) ++ y74).size + (ByteArray.mk #[32, 116, 97, 107, 101, 110, 32, 98, 97, 99, 107]).size ≤ 1000000000))).bind fun _ =>
                  (getI ways_ (4 : Int)).bind fun x81 =>
                  (bif (x81.How != (0 : Int)) then
                    (ref10_Parts (((ByteArray.mk #[114, 101, 97, 99, 116, 105, 111, 110, 32]) ++ y74) ++ (ByteArray.mk #[32, 116, 97, 107, 101, 110, 32, 98, 97, 99, 107])) p_.Size p_.Parts).bind fun y82 =>
                    (ref21_items id_ (0 : Int) y82 y9).bind fun y83 =>
                    some (y83, (0 : Int))
                  else
                    some ([(api_Item.mk id_ (0 : Int) (1 : Int) (4 : Int) x3.Target (0 : Int) (-1 : Int) (-1 : Int) x3.N (ByteArray.mk #[]) ([] : List Int))], (0 : Int)))
                else
                  (getI ways_ (4 : Int)).bind fun x87 =>
                  (bif (x87.How != (0 : Int)) then
                    (ref10_Parts ((ByteArray.mk #[114, 101, 97, 99, 116, 105, 111, 110, 32]) ++ y74) p_.Size p_.Parts).bind fun y88 =>
                    (ref21_items id_ (0 : Int) y88 y9).bind fun y89 =>
                    some (y89, (0 : Int))
                  else
                    some ([(api_Item.mk id_ (0 : Int) (1 : Int) (3 : Int) x3.Target (0 : Int) (-1 : Int) (-1 : Int) x3.N (ByteArray.mk #[]) ([] : List Int))], (0 : Int)))))))))))
theorem ref21_Forth_fn {dr : Prop} {p_ : api_Profile} {ways_ : (List api_Way)} {events_ : (List api_Event)} {bad_ : (List Int)} {id_ : Int} {r : (List api_Item) × Int} (h : ref21_Forth p_ ways_ events_ bad_ id_ = some r) : Fn dr Tryz.prog 9 [.agg (api_Profile.av p_), VF (List.map api_Way.enc ways_), VF (List.map api_Event.enc events_), VF (List.map (encI .i64) bad_), VI id_] (.tup [.ow 11 (List.map api_Item.enc r.1), VI r.2]) := by
  refine Fn.of_AW (dr := dr) (F := FnX dr Tryz.prog) (base := 0) (js := []) mixed tok noeqs (fun _ _ _ h => h) Tryz.call9 Tryz.func9 rfl Tryz.ntmps9 (by rw [Tryz.results9]) (by simp) ?_; have hG : (fun x => x = r) r := rfl; unfold ref21_Forth at h; refine Zap 2 rfl ?_; refine Zm (.lp 5 1 0) (Mem.add _ 5 (.box (api_Profile.av p_))) rfl rfl ?_; refine Zm (.row 10 1 0) (Mem.add _ 10 (.rows 11 (List.map api_Item.enc ([] : List api_Item)) false)) rfl rfl ?_; refine Zpp 6 rfl ?_; refine Zo (.agg (api_Profile.av p_)) rfl rfl ?_; refine Zpp 1 rfl ?_; refine Y1 rfl ?_; refine bindK h fun y2 hy2 h => ?_; refine W.call rfl (ref21_Same_fn hy2) ?_; refine Zwc 4 rfl ?_; refine A.condB rfl h (fun _ h => ?_) (fun _ h => ?_)
  · refine Zcp 2 rfl ?_; refine Zm (.row 10 2 0) (Mem.add _ 10 (.rows 11 (List.map api_Item.enc ([] : List api_Item)) false)) rfl rfl ?_; refine Zpb 5 rfl ?_; cases h; cases hG; exact ⟨rfl, rfl, rfl, trivial⟩
  · refine Zcp 8 rfl ?_; refine YF rfl rfl rfl h (fun _ h => ?_) (fun _ h => ?_)
    · refine Zpp 9 rfl ?_; refine Zm (.row 10 2 0) (Mem.add _ 10 (.rows 11 (List.map api_Item.enc ([] : List api_Item)) false)) rfl rfl ?_; refine Zpb 5 rfl ?_; cases h; cases hG; exact ⟨rfl, rfl, rfl, trivial⟩
    · refine Zwp 2 rfl ?_; refine Y2 rfl rfl rfl ?_; refine W.len rfl ?_; refine Zpc 4 rfl ?_; refine A.condB rfl h (fun _ h => ?_) (fun _ h => ?_)
      · refine Zcp 2 rfl ?_; refine Zm (.row 10 2 0) (Mem.add _ 10 (.rows 11 (List.map api_Item.enc ([] : List api_Item)) false)) rfl rfl ?_; refine Zpb 5 rfl ?_; cases h; cases hG; exact ⟨rfl, rfl, rfl, trivial⟩
      · refine Zcp 6 rfl ?_; refine Y1 rfl ?_; refine bindK h fun x3 hx3 h => ?_; refine W.chk rfl (elemB hx3) ?_; refine W.elem rfl (elemG hx3) ?_; refine W.chk rfl rfl ?_; refine W.det (.fp [.v (.int .i64 x3.Author), .v (.int .i64 x3.Seq), .fz (List.map (encI .i64) x3.Causes), .v (.int .i64 x3.Kind), .v (.int .i64 x3.Group), .v (.int .i64 x3.Target), .v (.int .i64 x3.Quote), .v (.int .i64 x3.Who), .v (.int .i64 x3.N), .v (.string x3.Text), .fz (List.map (encI .i64) x3.Files), .v (.int .i64 x3.Step)]) _ rfl ?_; refine Zo (.agg (api_Event.av x3)) rfl rfl ?_; refine Zm (.lp 12 1 0) (Mem.add (Mem.add (Mem.add _ 196620 (.rows 1 (List.map (encI .i64) ([] : List Int)) false)) 720908 (.rows 1 (List.map (encI .i64) ([] : List Int)) false)) 12 (.box [VI 0, VI 0, .row 196620 1 0, VI 0, VI 0, VI 0, VI 0, VI 0, VI 0, VS (ByteArray.mk #[]), .row 720908 1 0, VI 0])) rfl rfl ?_; refine Zm (.tup []) (Mem.set _ 12 1 (some (.box (api_Event.av x3)))) rfl rfl ?_; refine Zpc 10 rfl ?_; refine A.condB rfl h (fun _ h => ?_) (fun _ h => ?_)
        · refine Zcp 2 rfl ?_; refine Zo (.agg (api_Profile.av p_)) rfl rfl ?_; refine Zpp 4 rfl ?_; refine Y1 rfl ?_; refine bindK h fun y5 hy5 h => ?_; refine W.call rfl (ref21_post_fn hy5) ?_; refine W.v (.row 43 1 (List.map api_Item.enc y5).length) (.row 43 1 y5.length) (Mem.add _ 43 (.rows 11 (List.map api_Item.enc y5) false)) rfl (by simp only [List.length_map]) ?_; refine Zo (.row 43 1 y5.length) rfl rfl ?_; refine Zpb 5 rfl ?_; cases h; cases hG; exact ⟨rfl, rfl, rfl, trivial⟩
        · refine Zcp 7 rfl ?_; refine Y1 rfl ?_; refine bindK h fun y7 hy7 h => ?_; refine W.call rfl (ref21_Act_fn hy7) ?_; refine Zwc 4 rfl ?_; refine A.condB rfl h (fun _ h => ?_) (fun _ h => ?_)
          · refine Zcp 2 rfl ?_; refine Zm (.row 10 2 0) (Mem.add _ 10 (.rows 11 (List.map api_Item.enc ([] : List api_Item)) false)) rfl rfl ?_; refine Zpb 5 rfl ?_; cases h; cases hG; exact ⟨rfl, rfl, rfl, trivial⟩
          · refine Zcp 4 rfl ?_; refine Zo (.agg (api_Profile.av p_)) rfl rfl ?_; refine Zpp 5 rfl ?_; refine Y1 rfl ?_; refine bindK h fun y8 hy8 h => ?_; refine W.call rfl (ref21_post_fn hy8) ?_; refine W.v (.row 54 1 (List.map api_Item.enc y8).length) (.row 54 1 y8.length) (Mem.add _ 54 (.rows 11 (List.map api_Item.enc y8) false)) rfl (by simp only [List.length_map]) ?_; refine Zpp 6 rfl ?_; refine Zo (.agg (api_Profile.av p_)) rfl rfl ?_; refine Zpp 3 rfl ?_; refine Y1 rfl ?_; refine bindK h fun y9 hy9 h => ?_; refine W.call rfl (ref21_place_fn hy9) ?_; refine Zwc 18 rfl ?_; refine A.condB rfl h (fun _ h => ?_) (fun _ h => ?_)
            · refine Zcp 4 rfl ?_; refine Y1 rfl ?_; refine bindK h fun x51 hx51 h => ?_; refine W.chk rfl (elemB hx51) ?_; refine W.elem rfl (elemG hx51) ?_; refine W.chk rfl rfl ?_; refine W.det (.fp [.v (.int .i64 x51.How), .v (.int .i64 x51.Finds)]) _ rfl ?_; refine Zo (.fp [.v (.int .i64 x51.How), .v (.int .i64 x51.Finds)]) rfl rfl ?_; refine Zpc 4 rfl ?_; refine A.condB rfl h (fun _ h => ?_) (fun _ h => ?_)
              · refine Zcc 1 rfl ?_; refine A.regionD (by kernel_rfl) ?_; refine Zpp 3 rfl ?_; refine Y1 rfl ?_; refine bindK h fun y52 hy52 h => ?_; refine W.call rfl (ref21_line_fn hy52) ?_; refine Zwp 1 rfl ?_; refine Y1 rfl ?_; refine chkK h fun g53 h => ?_; refine W.chk rfl (of_decide_eq_true g53) ?_; refine Zwp 1 rfl ?_; refine Y1 rfl ?_; refine chkK h fun g54 h => ?_; refine W.chk rfl (of_decide_eq_true g54) ?_; refine Zwp 3 rfl ?_; refine Y1 rfl ?_; refine chkK h fun g55 h => ?_; refine W.chk rfl (of_decide_eq_true g55) ?_; refine Zwp 3 rfl ?_; refine Y1 rfl ?_; refine bindK h fun y56 hy56 h => ?_; refine W.call rfl (ref21_Listed_fn hy56) ?_; refine Zwp 1 rfl ?_; refine Y1 rfl ?_; refine chkK h fun g57 h => ?_; refine W.chk rfl (of_decide_eq_true g57) ?_; refine Zwp 12 rfl ?_; refine Y1 rfl ?_; refine bindK h fun y58 hy58 h => ?_; refine W.call rfl (ref10_Parts_fn hy58) ?_; refine W.v (.row 89 1 (List.map encS y58).length) (.row 89 1 y58.length) (Mem.add _ 89 (.rows 1 (List.map encS y58) false)) rfl (by simp only [List.length_map]) ?_; refine Zpp 1 rfl ?_; refine Y1 rfl ?_; refine bindK h fun y59 hy59 h => ?_; refine W.call rfl (ref21_items_fn hy59) ?_; refine W.v (.row 91 1 (List.map api_Item.enc y59).length) (.row 91 1 y59.length) (Mem.add (Mem.set _ 89 1 (some (.rows 1 (List.map encS y58) true))) 91 (.rows 11 (List.map api_Item.enc y59) false)) rfl (by simp only [List.length_map]) ?_; refine Zo (.row 91 1 y59.length) rfl rfl ?_; refine Zpb 7 rfl ?_; cases h; cases hG; exact ⟨rfl, rfl, rfl, trivial⟩
              · refine Zcc 3 rfl ?_; refine A.regionD (by kernel_rfl) ?_; refine Zpp 1 rfl ?_; refine Zo (.agg (api_Profile.av p_)) rfl rfl ?_; refine Zpp 9 rfl ?_; refine Y1 rfl ?_; refine bindK h fun y60 hy60 h => ?_; refine W.call rfl (ref21_Say_fn hy60) ?_; refine Zwp 4 rfl ?_; refine Y1 rfl ?_; refine bindK h fun y61 hy61 h => ?_; refine W.call rfl (ref10_Parts_fn hy61) ?_; refine W.v (.row 107 1 (List.map encS y61).length) (.row 107 1 y61.length) (Mem.add _ 107 (.rows 1 (List.map encS y61) false)) rfl (by simp only [List.length_map]) ?_; refine Zpp 3 rfl ?_; refine Y1 rfl ?_; refine bindK h fun y62 hy62 h => ?_; refine W.call rfl (ref21_about_fn hy62) ?_; refine W.v (.row 111 1 (List.map api_Item.enc y62).length) (.row 111 1 y62.length) (Mem.add (Mem.set _ 107 1 (some (.rows 1 (List.map encS y61) true))) 111 (.rows 11 (List.map api_Item.enc y62) false)) rfl (by simp only [List.length_map]) ?_; refine Zo (.row 111 1 y62.length) rfl rfl ?_; refine Zpp 4 rfl ?_; refine Zo (.row 111 1 y62.length) rfl rfl ?_; refine Zo (.agg (api_Profile.av p_)) rfl rfl ?_; refine Zpp 3 rfl ?_; refine Y1 rfl ?_; refine bindK h fun y63 hy63 h => ?_; refine W.call rfl (ref21_Shown_fn hy63) ?_; refine W.v (.row 117 1 (List.map (encI .i64) y63).length) (.row 117 1 y63.length) (Mem.add _ 117 (.rows 1 (List.map (encI .i64) y63) false)) rfl (by simp only [List.length_map]) ?_; refine Y1 rfl ?_; refine chkK h fun g64 h => ?_; refine W.chk rfl (by first | (simp; done) | simpa using g64) ?_; refine W.det (.rp 111 1 (0 : Int).toNat 0) _ rfl ?_; refine Zo (.rp 111 1 (0 : Int).toNat 10) rfl rfl ?_; refine Y1 rfl ?_; refine bindK h fun x65 hx65 h => ?_; refine W.elem rfl (elemG hx65) ?_; refine W.set (api_Item.mk x65.Event x65.Part x65.Of x65.Kind x65.On x65.OnPart x65.Quote x65.Who x65.N x65.Text y63) rfl rfl ?_; refine Zpp 4 rfl ?_; refine Zo (.row 111 1 y62.length) rfl rfl ?_; refine Zo (.row 111 1 y62.length) rfl rfl ?_; refine Zpb 6 rfl ?_; cases h; cases hG; exact ⟨rfl, rfl, rfl, trivial⟩
            · refine Zcc 6 rfl ?_; refine A.condB rfl h (fun _ h => ?_) (fun _ h => ?_)
              · refine Zcp 4 rfl ?_; refine Y1 rfl ?_; refine bindK h fun x68 hx68 h => ?_; refine W.chk rfl (elemB hx68) ?_; refine W.elem rfl (elemG hx68) ?_; refine W.chk rfl rfl ?_; refine W.det (.fp [.v (.int .i64 x68.How), .v (.int .i64 x68.Finds)]) _ rfl ?_; refine Zo (.fp [.v (.int .i64 x68.How), .v (.int .i64 x68.Finds)]) rfl rfl ?_; refine Zpc 4 rfl ?_; refine A.condB rfl h (fun _ h => ?_) (fun _ h => ?_)
                · refine Zcp 6 rfl ?_; refine Y1 rfl ?_; refine bindK h fun y69 hy69 h => ?_; refine W.call rfl (ref21_about_fn hy69) ?_; refine W.v (.row 132 1 (List.map api_Item.enc y69).length) (.row 132 1 y69.length) (Mem.add _ 132 (.rows 11 (List.map api_Item.enc y69) false)) rfl (by simp only [List.length_map]) ?_; refine Zo (.row 132 1 y69.length) rfl rfl ?_; refine Zpb 7 rfl ?_; cases h; cases hG; exact ⟨rfl, rfl, rfl, trivial⟩
                · refine Zcp 6 rfl ?_; refine Y1 rfl ?_; refine W.chk rfl (elemB hx68) ?_; refine W.elem rfl (elemG hx68) ?_; refine W.chk rfl rfl ?_; refine W.det (.fp [.v (.int .i64 x68.How), .v (.int .i64 x68.Finds)]) _ rfl ?_; refine Zo (.fp [.v (.int .i64 x68.How), .v (.int .i64 x68.Finds)]) rfl rfl ?_; refine Zpc 4 rfl ?_; refine A.condB rfl h (fun _ h => ?_) (fun _ h => ?_)
                  · refine Zcp 3 rfl ?_; refine Zm (.row 139 1 1) (Mem.add _ 139 (.rows 1 (List.map encS [(ByteArray.mk #[40, 100, 101, 108, 101, 116, 101, 100, 41])]) false)) rfl rfl ?_; refine Zpp 3 rfl ?_; refine Y1 rfl ?_; refine bindK h fun y71 hy71 h => ?_; refine W.call rfl (ref21_about_fn hy71) ?_; refine W.v (.row 143 1 (List.map api_Item.enc y71).length) (.row 143 1 y71.length) (Mem.add (Mem.set _ 139 1 (some (.rows 1 (List.map encS [(ByteArray.mk #[40, 100, 101, 108, 101, 116, 101, 100, 41])]) true))) 143 (.rows 11 (List.map api_Item.enc y71) false)) rfl (by simp only [List.length_map]) ?_; refine Zo (.row 143 1 y71.length) rfl rfl ?_; refine Zpb 7 rfl ?_; cases h; cases hG; exact ⟨rfl, rfl, rfl, trivial⟩
                  · refine Zcp 9 rfl ?_; refine Y1 rfl ?_; refine bindK h fun y72 hy72 h => ?_; refine W.call rfl (ref10_Parts_fn hy72) ?_; refine W.v (.row 149 1 (List.map encS y72).length) (.row 149 1 y72.length) (Mem.add _ 149 (.rows 1 (List.map encS y72) false)) rfl (by simp only [List.length_map]) ?_; refine Zpp 1 rfl ?_; refine Y1 rfl ?_; refine bindK h fun y73 hy73 h => ?_; refine W.call rfl (ref21_items_fn hy73) ?_; refine W.v (.row 151 1 (List.map api_Item.enc y73).length) (.row 151 1 y73.length) (Mem.add (Mem.set _ 149 1 (some (.rows 1 (List.map encS y72) true))) 151 (.rows 11 (List.map api_Item.enc y73) false)) rfl (by simp only [List.length_map]) ?_; refine Zo (.row 151 1 y73.length) rfl rfl ?_; refine Zpb 6 rfl ?_; cases h; cases hG; exact ⟨rfl, rfl, rfl, trivial⟩
              · refine Zcp 7 rfl ?_; refine Y1 rfl ?_; refine bindK h fun y74 hy74 h => ?_; refine W.call rfl (ref10_Decimal_fn hy74) ?_; refine Zwp 1 rfl ?_; refine Y1 rfl ?_; refine chkK h fun g75 h => ?_; refine W.chk rfl (of_decide_eq_true g75) ?_; refine Zwc 17 rfl ?_; refine A.condB rfl h (fun _ h => ?_) (fun _ h => ?_)
                · refine Zcp 3 rfl ?_; refine Y1 rfl ?_; refine chkK h fun g77 h => ?_; refine W.chk rfl (of_decide_eq_true g77) ?_; refine Zwp 12 rfl ?_; refine Y1 rfl ?_; refine bindK h fun x81 hx81 h => ?_; refine W.chk rfl (elemB hx81) ?_; refine W.elem rfl (elemG hx81) ?_; refine W.chk rfl rfl ?_; refine W.det (.fp [.v (.int .i64 x81.How), .v (.int .i64 x81.Finds)]) _ rfl ?_; refine Zo (.fp [.v (.int .i64 x81.How), .v (.int .i64 x81.Finds)]) rfl rfl ?_; refine Zpc 4 rfl ?_; refine A.condB rfl h (fun _ h => ?_) (fun _ h => ?_)
                  · refine Zcp 8 rfl ?_; refine Y1 rfl ?_; refine bindK h fun y82 hy82 h => ?_; refine W.call rfl (ref10_Parts_fn hy82) ?_; refine W.v (.row 172 1 (List.map encS y82).length) (.row 172 1 y82.length) (Mem.add _ 172 (.rows 1 (List.map encS y82) false)) rfl (by simp only [List.length_map]) ?_; refine Zpp 1 rfl ?_; refine Y1 rfl ?_; refine bindK h fun y83 hy83 h => ?_; refine W.call rfl (ref21_items_fn hy83) ?_; refine W.v (.row 174 1 (List.map api_Item.enc y83).length) (.row 174 1 y83.length) (Mem.add (Mem.set _ 172 1 (some (.rows 1 (List.map encS y82) true))) 174 (.rows 11 (List.map api_Item.enc y83) false)) rfl (by simp only [List.length_map]) ?_; refine Zo (.row 174 1 y83.length) rfl rfl ?_; refine Zpb 5 rfl ?_; cases h; cases hG; exact ⟨rfl, rfl, rfl, trivial⟩
                  · refine Zcp 10 rfl ?_; refine Zo (.agg [VI id_, VI 0, VI 1, VI 4, VI x3.Target, VI 0, VI (-1), VI (-1), VI x3.N, VS (ByteArray.mk #[]), .nl]) rfl rfl ?_; refine Zm (.row 182 1 1) (Mem.add _ 182 (.rows 11 (List.map api_Item.enc [(api_Item.mk id_ (0 : Int) (1 : Int) (4 : Int) x3.Target (0 : Int) (-1 : Int) (-1 : Int) x3.N (ByteArray.mk #[]) ([] : List Int))]) false)) rfl rfl ?_; refine Zo (.row 182 1 1) rfl rfl ?_; refine Zpb 4 rfl ?_; cases h; cases hG; exact ⟨rfl, rfl, rfl, trivial⟩
                · refine Zcp 6 rfl ?_; refine Y1 rfl ?_; refine bindK h fun x87 hx87 h => ?_; refine W.chk rfl (elemB hx87) ?_; refine W.elem rfl (elemG hx87) ?_; refine W.chk rfl rfl ?_; refine W.det (.fp [.v (.int .i64 x87.How), .v (.int .i64 x87.Finds)]) _ rfl ?_; refine Zo (.fp [.v (.int .i64 x87.How), .v (.int .i64 x87.Finds)]) rfl rfl ?_; refine Zpc 4 rfl ?_; refine A.condB rfl h (fun _ h => ?_) (fun _ h => ?_)
                  · refine Zcp 8 rfl ?_; refine Y1 rfl ?_; refine bindK h fun y88 hy88 h => ?_; refine W.call rfl (ref10_Parts_fn hy88) ?_; refine W.v (.row 172 1 (List.map encS y88).length) (.row 172 1 y88.length) (Mem.add _ 172 (.rows 1 (List.map encS y88) false)) rfl (by simp only [List.length_map]) ?_; refine Zpp 1 rfl ?_; refine Y1 rfl ?_; refine bindK h fun y89 hy89 h => ?_; refine W.call rfl (ref21_items_fn hy89) ?_; refine W.v (.row 174 1 (List.map api_Item.enc y89).length) (.row 174 1 y89.length) (Mem.add (Mem.set _ 172 1 (some (.rows 1 (List.map encS y88) true))) 174 (.rows 11 (List.map api_Item.enc y89) false)) rfl (by simp only [List.length_map]) ?_; refine Zo (.row 174 1 y89.length) rfl rfl ?_; refine Zpb 5 rfl ?_; cases h; cases hG; exact ⟨rfl, rfl, rfl, trivial⟩
                  · refine Zcp 10 rfl ?_; refine Zo (.agg [VI id_, VI 0, VI 1, VI 3, VI x3.Target, VI 0, VI (-1), VI (-1), VI x3.N, VS (ByteArray.mk #[]), .nl]) rfl rfl ?_; refine Zm (.row 182 1 1) (Mem.add _ 182 (.rows 11 (List.map api_Item.enc [(api_Item.mk id_ (0 : Int) (1 : Int) (3 : Int) x3.Target (0 : Int) (-1 : Int) (-1 : Int) x3.N (ByteArray.mk #[]) ([] : List Int))]) false)) rfl rfl ?_; refine Zo (.row 182 1 1) rfl rfl ?_; refine Zpb 4 rfl ?_; cases h; cases hG; exact ⟨rfl, rfl, rfl, trivial⟩
noncomputable def ref21_SameItems_L1 (a_ : (List api_Item)) (b_ : (List api_Item)) (s3 : Int) : Option ((Int) ⊕ ((Unit) ⊕ (Bool))) :=
  (bif (decide (s3 < (a_.length : Int))) then
    (getI a_ s3).bind fun x34 =>
    (getI b_ s3).bind fun x35 =>
    (ref21_SameItem x34 x35).bind fun y36 =>
    (bif (!y36) then
      some (.inr (.inr false))
    else
      some (.inl (IntKind.i64.wrap (s3 + (1 : Int)))))
  else
    some (.inr (.inl ())))
noncomputable def ref21_SameItems (a_ : (List api_Item)) (b_ : (List api_Item)) : Option (Bool) :=
  (bif ((a_.length : Int) != (b_.length : Int)) then
    some false
  else
    (seqF (A := Unit) (
      loopF (ref21_SameItems_L1 a_ b_) (0 : Int))
    fun s2 =>
      some true))
theorem ref21_SameItems_fn {dr : Prop} {a_ : (List api_Item)} {b_ : (List api_Item)} {r : Bool} (h : ref21_SameItems a_ b_ = some r) : Fn dr Tryz.prog 10 [VF (List.map api_Item.enc a_), VF (List.map api_Item.enc b_)] (VB r) := by
  refine Fn.of_AW (dr := dr) (F := FnX dr Tryz.prog) (base := 0) (js := [8]) mixed tok noeqs (fun _ _ _ h => h) Tryz.call10 Tryz.func10 rfl Tryz.ntmps10 (by rw [Tryz.results10]) (by simp) ?_; have hG : (fun x => x = r) r := rfl; unfold ref21_SameItems at h; refine Zap 9 rfl ?_; refine Y1 rfl ?_; refine W.len rfl ?_; refine Zpp 1 rfl ?_; refine Y1 rfl ?_; refine W.len rfl ?_; refine Zpc 3 rfl ?_; refine A.condB rfl h (fun _ h => ?_) (fun _ h => ?_)
  · refine Zcb 7 rfl ?_; cases h; cases hG; exact ⟨rfl, trivial⟩
  · refine Zcc 2 rfl ?_; refine A.join (fun (s2 : Unit) => []) (fun s2 => []) _ h hG rfl ?_ ?_
    · intro J f h hG; refine Zac 6 rfl ?_; refine A.loop (fun (s3 : Int) => [(0, VF (List.map api_Item.enc a_)), (1, VF (List.map api_Item.enc b_)), (5, VI s3)]) (fun s3 => []) _ h hG (Zf [] [] rfl rfl (Ze rfl rfl (Ze rfl rfl (Ze rfl rfl trivial))) trivial) ?_; intro J s3 f h hG; unfold ref21_SameItems_L1 at h; refine Zap 5 rfl ?_; refine Y1 rfl ?_; refine W.len rfl ?_; refine Zpc 3 rfl ?_; refine A.condB rfl h (fun _ h => ?_) (fun _ h => ?_)
      · refine Zcc 5 rfl ?_; refine A.regionD (by kernel_rfl) ?_; refine Zpp 2 rfl ?_; refine Y1 rfl ?_; refine bindK h fun x34 hx34 h => ?_; refine W.chk rfl (elemB hx34) ?_; refine W.elem rfl (elemG hx34) ?_; refine W.chk rfl rfl ?_; refine W.det (.fp [.v (.int .i64 x34.Event), .v (.int .i64 x34.Part), .v (.int .i64 x34.Of), .v (.int .i64 x34.Kind), .v (.int .i64 x34.On), .v (.int .i64 x34.OnPart), .v (.int .i64 x34.Quote), .v (.int .i64 x34.Who), .v (.int .i64 x34.N), .v (.string x34.Text), .fz (List.map (encI .i64) x34.Files)]) _ rfl ?_; refine Zo (.agg (api_Item.av x34)) rfl rfl ?_; refine Zpp 2 rfl ?_; refine Y1 rfl ?_; refine bindK h fun x35 hx35 h => ?_; refine W.chk rfl (elemB hx35) ?_; refine W.elem rfl (elemG hx35) ?_; refine W.chk rfl rfl ?_; refine W.det (.fp [.v (.int .i64 x35.Event), .v (.int .i64 x35.Part), .v (.int .i64 x35.Of), .v (.int .i64 x35.Kind), .v (.int .i64 x35.On), .v (.int .i64 x35.OnPart), .v (.int .i64 x35.Quote), .v (.int .i64 x35.Who), .v (.int .i64 x35.N), .v (.string x35.Text), .fz (List.map (encI .i64) x35.Files)]) _ rfl ?_; refine Zo (.agg (api_Item.av x35)) rfl rfl ?_; refine Y1 rfl ?_; refine bindK h fun y36 hy36 h => ?_; refine W.call rfl (ref21_SameItem_fn hy36) ?_; refine Zwc 4 rfl ?_; refine A.condB rfl h (fun _ h => ?_) (fun _ h => ?_)
        · refine Zcb 8 rfl ?_; refine headK.r ?_; refine Zob 1 rfl ?_; refine headK.r ?_; cases h; cases hG; exact ⟨rfl, trivial⟩
        · refine Zcb 8 rfl ?_; cases h; exact Zh hG [] [] rfl rfl (Ze rfl rfl (Ze rfl rfl (Ze rfl rfl trivial))) trivial
      · refine Zcb 2 rfl ?_; refine headK.e ?_; refine Zob 1 rfl ?_; cases h; exact Zh hG [] [] rfl rfl trivial trivial
    · intro s2 r2 h hG; refine Zcb 6 rfl ?_; cases h; cases hG; exact ⟨rfl, trivial⟩
noncomputable def forth_Many (p_ : api_Profile) (l_ : (List api_Way)) (events_ : (List api_Event)) (bad_ : (List Int)) (id_ : Int) : Option (Int) :=
  (forth_Forth p_ l_ events_ bad_ id_).bind fun y1 =>
  some ((y1.1.length : Nat) : Int)
theorem forth_Many_fn {dr : Prop} {p_ : api_Profile} {l_ : (List api_Way)} {events_ : (List api_Event)} {bad_ : (List Int)} {id_ : Int} {r : Int} (h : forth_Many p_ l_ events_ bad_ id_ = some r) : Fn dr Tryz.prog 11 [.agg (api_Profile.av p_), VF (List.map api_Way.enc l_), VF (List.map api_Event.enc events_), VF (List.map (encI .i64) bad_), VI id_] (VI r) := by
  refine Fn.of_AW (dr := dr) (F := FnX dr Tryz.prog) (base := 0) (js := []) mixed tok noeqs (fun _ _ _ h => h) Tryz.call11 Tryz.func11 rfl Tryz.ntmps11 (by rw [Tryz.results11]) (by simp) ?_; have hG : (fun x => x = r) r := rfl; unfold forth_Many at h; refine Zap 2 rfl ?_; refine Zm (.lp 5 1 0) (Mem.add _ 5 (.box (api_Profile.av p_))) rfl rfl ?_; refine Zpp 5 rfl ?_; refine Zo (.agg (api_Profile.av p_)) rfl rfl ?_; refine Zpp 4 rfl ?_; refine Y1 rfl ?_; refine bindK h fun y1 hy1 h => ?_; refine W.call rfl (forth_Forth_fn hy1) ?_; refine W.v (.tup [.row 1048595 1 (List.map api_Item.enc y1.1).length, VI y1.2]) (.tup [.row 1048595 1 y1.1.length, VI y1.2]) (Mem.add _ 1048595 (.rows 11 (List.map api_Item.enc y1.1) false)) rfl (by simp only [List.length_map]) ?_; refine Zo (.tup [.row 1048595 1 y1.1.length, VI y1.2]) rfl rfl ?_; refine Zo (.row 1048595 1 y1.1.length) rfl rfl ?_; refine Zpp 1 rfl ?_; refine Zo (.row 1048595 1 y1.1.length) rfl rfl ?_; refine Zpp 5 rfl ?_; refine Zo (.row 1048595 1 y1.1.length) rfl rfl ?_; refine Zpb 5 rfl ?_; cases h; cases hG; exact ⟨rfl, trivial⟩
end Go.Proofs.YtljdbikodogeiaaGreatDoor

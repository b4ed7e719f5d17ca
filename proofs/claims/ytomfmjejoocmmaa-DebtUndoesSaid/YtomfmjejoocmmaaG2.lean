/-
  Plain programs of functions, and that the functions do what they say. Printed by wip/tools/gen.py.
-/
import Derived.Test.YtomfmjejoocmmaaG1
namespace Go.Proofs.Ytomfmjejoocmmaa
open Go.RowKit
attribute [local irreducible] IntKind.wrap AW runL Step.wp
set_option linter.unusedVariables false
set_option maxHeartbeats 4000000
set_option maxRecDepth 100000
noncomputable def ref44_Right_L1 (l_ : (List api_Debt)) (s3 : Int) : Option ((Int) ⊕ ((Unit) ⊕ (Bool))) :=
  (bif (decide (s3 < (l_.length : Int))) then
    (getI l_ s3).bind fun x93 =>
    (ref44_fine x93).bind fun y94 =>
    (bif (!y94) then
      some (.inr (.inr false))
    else
      (bif (decide ((0 : Int) < s3)) then
        (getI l_ (if (IntKind.i64.wrap (s3 - (1 : Int))) < (0 : Int) then (0 : Int) else (IntKind.i64.wrap (s3 - (1 : Int))))).bind fun x95 =>
        (ref44_less x95 x93).bind fun y96 =>
        (bif (!y96) then
          some (.inr (.inr false))
        else
          some (.inl (IntKind.i64.wrap (s3 + (1 : Int)))))
      else
        some (.inl (IntKind.i64.wrap (s3 + (1 : Int))))))
  else
    some (.inr (.inl ())))
noncomputable def ref44_Right (l_ : (List api_Debt)) : Option (Bool) :=
  (seqF (A := Unit) (
    loopF (ref44_Right_L1 l_) (0 : Int))
  fun s2 =>
    some true)
theorem ref44_Right_fn {dr : Prop} {l_ : (List api_Debt)} {r : Bool} (h : ref44_Right l_ = some r) : Fn dr Try.prog 27 [VF (List.map api_Debt.enc l_)] (VB r) := by
  refine Fn.of_AW (dr := dr) (F := FnX dr Try.prog) (base := 0) (js := [6]) mixed tok noeqs (fun _ _ _ h => h) Try.call27 Try.func27 rfl Try.ntmps27 (by rw [Try.results27]) (by simp) ?_; have hG : (fun x => x = r) r := rfl; unfold ref44_Right at h; refine Zac 5 rfl ?_; refine A.join (fun (s2 : Unit) => []) (fun s2 => []) _ h hG rfl ?_ ?_
  · intro J f h hG; refine Zac 6 rfl ?_; refine A.loop (fun (s3 : Int) => [(0, VF (List.map api_Debt.enc l_)), (3, VI s3)]) (fun s3 => []) _ h hG (Zf [] [] rfl rfl (Ze rfl rfl (Ze rfl rfl trivial)) trivial) ?_; intro J s3 f h hG; unfold ref44_Right_L1 at h; refine Zap 5 rfl ?_; refine Y1 rfl ?_; refine W.len rfl ?_; refine Zpc 3 rfl ?_; refine A.condB rfl h (fun _ h => ?_) (fun _ h => ?_)
    · refine Zcc 5 rfl ?_; refine A.regionD (by kernel_rfl) ?_; refine Zpp 2 rfl ?_; refine Y1 rfl ?_; refine bindK h fun x93 hx93 h => ?_; refine W.chk rfl (elemB hx93) ?_; refine W.elem rfl (elemG hx93) ?_; refine W.chk rfl rfl ?_; refine W.det (.fp [.v (.int .i64 x93.Event), .v (.int .i64 x93.Net)]) _ rfl ?_; refine Zo (.agg (api_Debt.av x93)) rfl rfl ?_; refine Y1 rfl ?_; refine bindK h fun y94 hy94 h => ?_; refine W.call rfl (ref44_fine_fn hy94) ?_; refine Zwp 3 rfl ?_; refine YF rfl rfl rfl h (fun _ h => ?_) (fun _ h => ?_)
      · refine Zpb 27 rfl ?_; refine headK.r ?_; refine Zob 1 rfl ?_; refine headK.r ?_; cases h; cases hG; exact ⟨rfl, trivial⟩
      · refine Zwp 3 rfl ?_; refine YT rfl rfl rfl h (fun _ h => ?_) (fun _ h => ?_)
        · refine Zwp 4 rfl ?_; refine Y2 rfl rfl rfl ?_; refine bindK h fun x95 hx95 h => ?_; refine W.chk rfl (elemB hx95) ?_; refine W.elem rfl (elemG hx95) ?_; refine W.chk rfl rfl ?_; refine W.det (.fp [.v (.int .i64 x95.Event), .v (.int .i64 x95.Net)]) _ rfl ?_; refine Zu (.agg (api_Debt.av x95)) rfl rfl rfl rfl ?_; refine Zpp 2 rfl ?_; refine Y2 rfl rfl rfl ?_; refine W.chk rfl (elemB hx93) ?_; refine W.elem rfl (elemG hx93) ?_; refine W.chk rfl rfl ?_; refine W.det (.fp [.v (.int .i64 x93.Event), .v (.int .i64 x93.Net)]) _ rfl ?_; refine Zu (.agg (api_Debt.av x93)) rfl rfl rfl rfl ?_; refine Y2 rfl rfl rfl ?_; refine bindK h fun y96 hy96 h => ?_; refine W.call rfl (ref44_less_fn hy96) ?_; refine Zwc 6 rfl ?_; refine A.condB rfl h (fun _ h => ?_) (fun _ h => ?_)
          · refine Zcb 8 rfl ?_; refine headK.r ?_; refine Zob 1 rfl ?_; refine headK.r ?_; cases h; cases hG; exact ⟨rfl, trivial⟩
          · refine Zcb 8 rfl ?_; cases h; exact Zh hG [] [] rfl rfl (Ze rfl rfl (Ze rfl rfl trivial)) trivial
        · refine Zpb 24 rfl ?_; cases h; exact Zh hG [] [] rfl rfl (Ze rfl rfl (Ze rfl rfl trivial)) trivial
    · refine Zcb 2 rfl ?_; refine headK.e ?_; refine Zob 1 rfl ?_; cases h; exact Zh hG [] [] rfl rfl trivial trivial
  · intro s2 r2 h hG; refine Zcb 6 rfl ?_; cases h; cases hG; exact ⟨rfl, trivial⟩
noncomputable def ref44_Has_L1 (l_ : (List api_Debt)) (d_ : api_Debt) (s3 : Int) : Option ((Int) ⊕ ((Unit) ⊕ (Bool))) :=
  (bif (decide (s3 < (l_.length : Int))) then
    (getI l_ s3).bind fun x12 =>
    (bif ((x12.Event == d_.Event) && ((x12.Net == d_.Net) && true)) then
      some (.inr (.inr true))
    else
      some (.inl (IntKind.i64.wrap (s3 + (1 : Int)))))
  else
    some (.inr (.inl ())))
noncomputable def ref44_Has (l_ : (List api_Debt)) (d_ : api_Debt) : Option (Bool) :=
  (seqF (A := Unit) (
    loopF (ref44_Has_L1 l_ d_) (0 : Int))
  fun s2 =>
    some false)
theorem ref44_Has_fn {dr : Prop} {l_ : (List api_Debt)} {d_ : api_Debt} {r : Bool} (h : ref44_Has l_ d_ = some r) : Fn dr Try.prog 20 [VF (List.map api_Debt.enc l_), .agg (api_Debt.av d_)] (VB r) := by
  refine Fn.of_AW (dr := dr) (F := FnX dr Try.prog) (base := 0) (js := [6]) mixed tok noeqs (fun _ _ _ h => h) Try.call20 Try.func20 rfl Try.ntmps20 (by rw [Try.results20]) (by simp) ?_; have hG : (fun x => x = r) r := rfl; unfold ref44_Has at h; refine Zap 2 rfl ?_; refine Zm (.lp 3 1 0) (Mem.add _ 3 (.box (api_Debt.av d_))) rfl rfl ?_; refine Zpc 3 rfl ?_; refine A.join (fun (s2 : Unit) => []) (fun s2 => []) _ h hG rfl ?_ ?_
  · intro J f h hG; refine Zac 6 rfl ?_; refine A.loop (fun (s3 : Int) => [(0, VF (List.map api_Debt.enc l_)), (3, .lp 900000 1 0), (5, VI s3)]) (fun s3 => [(900000, .box (api_Debt.av d_))]) _ h hG (Zf [] [(900000, (3, 1))] rfl rfl (Ze rfl rfl (Ze rfl rfl (Ze rfl rfl trivial))) (Zc rfl rfl trivial)) ?_; intro J s3 f h hG; unfold ref44_Has_L1 at h; refine Zap 5 rfl ?_; refine Y1 rfl ?_; refine W.len rfl ?_; refine Zpc 3 rfl ?_; refine A.condB rfl h (fun _ h => ?_) (fun _ h => ?_)
    · refine Zcc 5 rfl ?_; refine A.regionD (by kernel_rfl) ?_; refine Zpp 2 rfl ?_; refine Y1 rfl ?_; refine bindK h fun x12 hx12 h => ?_; refine W.chk rfl (elemB hx12) ?_; refine W.elem rfl (elemG hx12) ?_; refine W.chk rfl rfl ?_; refine W.det (.fp [.v (.int .i64 x12.Event), .v (.int .i64 x12.Net)]) _ rfl ?_; refine Zo (.agg (api_Debt.av x12)) rfl rfl ?_; refine Zo (.agg (api_Debt.av d_)) rfl rfl ?_; refine Zpc 3 rfl ?_; refine A.condB rfl h (fun _ h => ?_) (fun _ h => ?_)
      · refine Zcb 8 rfl ?_; refine headK.r ?_; refine Zob 1 rfl ?_; refine headK.r ?_; cases h; cases hG; exact ⟨rfl, trivial⟩
      · refine Zcb 8 rfl ?_; cases h; exact Zh hG [] [(900000, (900000, 1))] rfl rfl (Ze rfl rfl (Ze rfl rfl (Ze rfl rfl trivial))) (Zc rfl rfl trivial)
    · refine Zcb 2 rfl ?_; refine headK.e ?_; refine Zob 1 rfl ?_; cases h; exact Zh hG [] [] rfl rfl trivial trivial
  · intro s2 r2 h hG; refine Zcb 6 rfl ?_; cases h; cases hG; exact ⟨rfl, trivial⟩
noncomputable def ref44_put_L1 (l_ : (List api_Debt)) (d_ : api_Debt) (s3 : Bool × Int × (List api_Debt)) : Option ((Bool × Int × (List api_Debt)) ⊕ ((Bool × (List api_Debt)) ⊕ ((List api_Debt)))) :=
  (bif (decide (s3.2.1 < (l_.length : Int))) then
    (bif (!s3.1) then
      (getI l_ s3.2.1).bind fun x162 =>
      (ref44_less d_ x162).bind fun y163 =>
      (bif y163 then
        (chkO (decide (s3.2.2.length + [d_].length ≤ 1000000))).bind fun _ =>
        (chkO (decide ((s3.2.2 ++ [d_]).length + [x162].length ≤ 1000000))).bind fun _ =>
        some (.inl (true, (IntKind.i64.wrap (s3.2.1 + (1 : Int))), ((s3.2.2 ++ [d_]) ++ [x162])))
      else
        (chkO (decide (s3.2.2.length + [x162].length ≤ 1000000))).bind fun _ =>
        some (.inl (s3.1, (IntKind.i64.wrap (s3.2.1 + (1 : Int))), (s3.2.2 ++ [x162]))))
    else
      (getI l_ s3.2.1).bind fun x167 =>
      (chkO (decide (s3.2.2.length + [x167].length ≤ 1000000))).bind fun _ =>
      some (.inl (s3.1, (IntKind.i64.wrap (s3.2.1 + (1 : Int))), (s3.2.2 ++ [x167]))))
  else
    some (.inr (.inl (s3.1, s3.2.2))))
noncomputable def ref44_put (l_ : (List api_Debt)) (d_ : api_Debt) : Option ((List api_Debt)) :=
  (seqF (A := Bool × (List api_Debt)) (
    loopF (ref44_put_L1 l_ d_) (false, (0 : Int), ([] : List api_Debt)))
  fun s2 =>
    (bif (!s2.1) then
      (chkO (decide (s2.2.length + [d_].length ≤ 1000000))).bind fun _ =>
      some (s2.2 ++ [d_])
    else
      some s2.2))
theorem ref44_put_fn {dr : Prop} {l_ : (List api_Debt)} {d_ : api_Debt} {r : (List api_Debt)} (h : ref44_put l_ d_ = some r) : Fn dr Try.prog 29 [VF (List.map api_Debt.enc l_), .agg (api_Debt.av d_)] (.ow 2 (List.map api_Debt.enc r)) := by
  refine Fn.of_AW (dr := dr) (F := FnX dr Try.prog) (base := 0) (js := [10]) mixed tok noeqs (fun _ _ _ h => h) Try.call29 Try.func29 rfl Try.ntmps29 (by rw [Try.results29]) (by simp) ?_; have hG : (fun x => x = r) r := rfl; unfold ref44_put at h; refine Zap 2 rfl ?_; refine Zm (.lp 3 1 0) (Mem.add _ 3 (.box (api_Debt.av d_))) rfl rfl ?_; refine Zm (.row 4 1 0) (Mem.add _ 4 (.rows 2 (List.map api_Debt.enc ([] : List api_Debt)) false)) rfl rfl ?_; refine Zpp 4 rfl ?_; refine Zm (.row 5 1 0) (Mem.add _ 5 (.rows 2 (List.map api_Debt.enc ([] : List api_Debt)) false)) rfl rfl ?_; refine Zpc 7 rfl ?_; refine A.join (fun (s2 : Bool × (List api_Debt)) => [(3, .lp 900000 1 0), (5, .row 900001 1 s2.2.length), (6, VB s2.1)]) (fun s2 => [(900000, .box (api_Debt.av d_)), (900001, .rows 2 (List.map api_Debt.enc s2.2) false)]) _ h hG rfl ?_ ?_
  · intro J f h hG; refine Zac 6 rfl ?_; refine A.loop (fun (s3 : Bool × Int × (List api_Debt)) => [(0, VF (List.map api_Debt.enc l_)), (3, .lp 900000 1 0), (5, .row 900001 1 s3.2.2.length), (6, VB s3.1), (7, VI s3.2.1)]) (fun s3 => [(900000, .box (api_Debt.av d_)), (900001, .rows 2 (List.map api_Debt.enc s3.2.2) false)]) _ h hG (Zf [] [(900000, (3, 1)), (900001, (5, 1))] rfl rfl (Ze rfl rfl (Ze rfl rfl (Ze rfl rfl (Ze rfl rfl (Ze rfl rfl trivial))))) (Zc rfl rfl (Zc rfl rfl trivial))) ?_; intro J s3 f h hG; unfold ref44_put_L1 at h; refine Zap 5 rfl ?_; refine Y1 rfl ?_; refine W.len rfl ?_; refine Zpc 3 rfl ?_; refine A.condB rfl h (fun _ h => ?_) (fun _ h => ?_)
    · refine Zcc 6 rfl ?_; refine A.regionD (by kernel_rfl) ?_; refine Zpp 3 rfl ?_; refine YT rfl rfl rfl h (fun _ h => ?_) (fun _ h => ?_)
      · refine W.det (.agg (api_Debt.av d_)) _ rfl ?_; refine Zpp 2 rfl ?_; refine Y2 rfl rfl rfl ?_; refine bindK h fun x162 hx162 h => ?_; refine W.chk rfl (elemB hx162) ?_; refine W.elem rfl (elemG hx162) ?_; refine W.chk rfl rfl ?_; refine W.det (.fp [.v (.int .i64 x162.Event), .v (.int .i64 x162.Net)]) _ rfl ?_; refine Zu (.agg (api_Debt.av x162)) rfl rfl rfl rfl ?_; refine Y2 rfl rfl rfl ?_; refine bindK h fun y163 hy163 h => ?_; refine W.call rfl (ref44_less_fn hy163) ?_; refine Zwc 4 rfl ?_; refine A.condB rfl h (fun _ h => ?_) (fun _ h => ?_)
        · refine Zcp 2 rfl ?_; refine Zo (.row 900001 1 s3.2.2.length) rfl rfl ?_; refine Zo (.agg (api_Debt.av d_)) rfl rfl ?_; refine Zm (.row 26 2 1) (Mem.add _ 26 (.rows 2 (List.map api_Debt.enc [d_]) false)) rfl rfl ?_; refine Y1 rfl ?_; refine chkK h fun g164 h => ?_; refine W.chk rfl (appChk (fun _ => rfl) g164) ?_; refine W.app rfl rfl ?_; refine Zo (.row 900001 2 (s3.2.2 ++ [d_]).length) rfl rfl ?_; refine Zpp 7 rfl ?_; refine Zo (.row 900001 2 (s3.2.2 ++ [d_]).length) rfl rfl ?_; refine Zpp 2 rfl ?_; refine Y1 rfl ?_; refine W.chk rfl (elemB hx162) ?_; refine W.elem rfl (elemG hx162) ?_; refine W.chk rfl rfl ?_; refine W.det (.fp [.v (.int .i64 x162.Event), .v (.int .i64 x162.Net)]) _ rfl ?_; refine Zo (.agg (api_Debt.av x162)) rfl rfl ?_; refine Zm (.row 33 2 1) (Mem.add _ 33 (.rows 2 (List.map api_Debt.enc [x162]) false)) rfl rfl ?_; refine Y1 rfl ?_; refine chkK h fun g165 h => ?_; refine W.chk rfl (appChk (fun _ => rfl) g165) ?_; refine W.app rfl rfl ?_; refine Zo (.row 900001 3 ((s3.2.2 ++ [d_]) ++ [x162]).length) rfl rfl ?_; refine Zpb 8 rfl ?_; cases h; exact Zh hG [] [(900000, (900000, 1)), (900001, (900001, 3))] rfl rfl (Ze rfl rfl (Ze rfl rfl (Ze rfl rfl (Ze rfl rfl (Ze rfl rfl trivial))))) (Zc rfl rfl (Zc rfl rfl trivial))
        · refine Zcp 3 rfl ?_; refine Zo (.row 900001 1 s3.2.2.length) rfl rfl ?_; refine Zpp 2 rfl ?_; refine Y1 rfl ?_; refine W.chk rfl (elemB hx162) ?_; refine W.elem rfl (elemG hx162) ?_; refine W.chk rfl rfl ?_; refine W.det (.fp [.v (.int .i64 x162.Event), .v (.int .i64 x162.Net)]) _ rfl ?_; refine Zo (.agg (api_Debt.av x162)) rfl rfl ?_; refine Zm (.row 33 2 1) (Mem.add _ 33 (.rows 2 (List.map api_Debt.enc [x162]) false)) rfl rfl ?_; refine Y1 rfl ?_; refine chkK h fun g166 h => ?_; refine W.chk rfl (appChk (fun _ => rfl) g166) ?_; refine W.app rfl rfl ?_; refine Zo (.row 900001 2 (s3.2.2 ++ [x162]).length) rfl rfl ?_; refine Zpb 8 rfl ?_; cases h; exact Zh hG [] [(900000, (900000, 1)), (900001, (900001, 2))] rfl rfl (Ze rfl rfl (Ze rfl rfl (Ze rfl rfl (Ze rfl rfl (Ze rfl rfl trivial))))) (Zc rfl rfl (Zc rfl rfl trivial))
      · refine Zpp 12 rfl ?_; refine Zo (.row 900001 1 s3.2.2.length) rfl rfl ?_; refine Zpp 2 rfl ?_; refine Y1 rfl ?_; refine bindK h fun x167 hx167 h => ?_; refine W.chk rfl (elemB hx167) ?_; refine W.elem rfl (elemG hx167) ?_; refine W.chk rfl rfl ?_; refine W.det (.fp [.v (.int .i64 x167.Event), .v (.int .i64 x167.Net)]) _ rfl ?_; refine Zo (.agg (api_Debt.av x167)) rfl rfl ?_; refine Zm (.row 33 2 1) (Mem.add _ 33 (.rows 2 (List.map api_Debt.enc [x167]) false)) rfl rfl ?_; refine Y1 rfl ?_; refine chkK h fun g168 h => ?_; refine W.chk rfl (appChk (fun _ => rfl) g168) ?_; refine W.app rfl rfl ?_; refine Zo (.row 900001 2 (s3.2.2 ++ [x167]).length) rfl rfl ?_; refine Zpb 8 rfl ?_; cases h; exact Zh hG [] [(900000, (900000, 1)), (900001, (900001, 2))] rfl rfl (Ze rfl rfl (Ze rfl rfl (Ze rfl rfl (Ze rfl rfl (Ze rfl rfl trivial))))) (Zc rfl rfl (Zc rfl rfl trivial))
    · refine Zcb 2 rfl ?_; refine headK.e ?_; refine Zob 1 rfl ?_; cases h; exact Zh hG [] [(900000, (900000, 1)), (900001, (900001, 1))] rfl rfl (Ze rfl rfl (Ze rfl rfl (Ze rfl rfl trivial))) (Zc rfl rfl (Zc rfl rfl trivial))
  · intro s2 r2 h hG; refine Zcc 7 rfl ?_; refine A.condB rfl h (fun _ h => ?_) (fun _ h => ?_)
    · refine Zcp 1 rfl ?_; refine Zo (.row 900001 1 s2.2.length) rfl rfl ?_; refine Zo (.agg (api_Debt.av d_)) rfl rfl ?_; refine Zm (.row 39 2 1) (Mem.add _ 39 (.rows 2 (List.map api_Debt.enc [d_]) false)) rfl rfl ?_; refine Y1 rfl ?_; refine chkK h fun g170 h => ?_; refine W.chk rfl (appChk (fun _ => rfl) g170) ?_; refine W.app rfl rfl ?_; refine Zo (.row 900001 2 (s2.2 ++ [d_]).length) rfl rfl ?_; refine Zpp 4 rfl ?_; refine Zo (.row 900001 2 (s2.2 ++ [d_]).length) rfl rfl ?_; refine Zo (.row 900001 2 (s2.2 ++ [d_]).length) rfl rfl ?_; refine Zpb 3 rfl ?_; cases h; cases hG; exact ⟨rfl, rfl, trivial⟩
    · refine Zcp 4 rfl ?_; refine Zo (.row 900001 1 s2.2.length) rfl rfl ?_; refine Zo (.row 900001 1 s2.2.length) rfl rfl ?_; refine Zpb 3 rfl ?_; cases h; cases hG; exact ⟨rfl, rfl, trivial⟩
noncomputable def ref44_Add (l_ : (List api_Debt)) (d_ : api_Debt) : Option ((List api_Debt) × Int) :=
  (ref44_Right l_).bind fun y7 =>
  (bif (!y7) then
    some (([] : List api_Debt), (1 : Int))
  else
    (ref44_fine d_).bind fun y8 =>
    (bif (!y8) then
      some (([] : List api_Debt), (1 : Int))
    else
      (ref44_Has l_ d_).bind fun y10 =>
      (bif y10 then
        some (([] : List api_Debt), (5 : Int))
      else
        (ref44_put l_ d_).bind fun y11 =>
        some (y11, (0 : Int)))))
theorem ref44_Add_fn {dr : Prop} {l_ : (List api_Debt)} {d_ : api_Debt} {r : (List api_Debt) × Int} (h : ref44_Add l_ d_ = some r) : Fn dr Try.prog 10 [VF (List.map api_Debt.enc l_), .agg (api_Debt.av d_)] (.tup [.ow 2 (List.map api_Debt.enc r.1), VI r.2]) := by
  refine Fn.of_AW (dr := dr) (F := FnX dr Try.prog) (base := 0) (js := []) mixed tok noeqs (fun _ _ _ h => h) Try.call10 Try.func10 rfl Try.ntmps10 (by rw [Try.results10]) (by simp) ?_; have hG : (fun x => x = r) r := rfl; unfold ref44_Add at h; refine Zap 2 rfl ?_; refine Zm (.lp 3 1 0) (Mem.add _ 3 (.box (api_Debt.av d_))) rfl rfl ?_; refine Zm (.row 4 1 0) (Mem.add _ 4 (.rows 2 (List.map api_Debt.enc ([] : List api_Debt)) false)) rfl rfl ?_; refine Zpp 7 rfl ?_; refine Y1 rfl ?_; refine bindK h fun y7 hy7 h => ?_; refine W.call rfl (ref44_Right_fn hy7) ?_; refine Zwp 3 rfl ?_; refine YF rfl rfl rfl h (fun _ h => ?_) (fun _ h => ?_)
  · refine Zpp 8 rfl ?_; refine Zm (.row 4 2 0) (Mem.add _ 4 (.rows 2 (List.map api_Debt.enc ([] : List api_Debt)) false)) rfl rfl ?_; refine Zpb 5 rfl ?_; cases h; cases hG; exact ⟨rfl, rfl, rfl, trivial⟩
  · refine W.det (.agg (api_Debt.av d_)) _ rfl ?_; refine Y2 rfl rfl rfl ?_; refine bindK h fun y8 hy8 h => ?_; refine W.call rfl (ref44_fine_fn hy8) ?_; refine Zwc 5 rfl ?_; refine A.condB rfl h (fun _ h => ?_) (fun _ h => ?_)
    · refine Zcp 2 rfl ?_; refine Zm (.row 4 2 0) (Mem.add _ 4 (.rows 2 (List.map api_Debt.enc ([] : List api_Debt)) false)) rfl rfl ?_; refine Zpb 5 rfl ?_; cases h; cases hG; exact ⟨rfl, rfl, rfl, trivial⟩
    · refine Zcp 6 rfl ?_; refine Zo (.agg (api_Debt.av d_)) rfl rfl ?_; refine Y1 rfl ?_; refine bindK h fun y10 hy10 h => ?_; refine W.call rfl (ref44_Has_fn hy10) ?_; refine Zwc 3 rfl ?_; refine A.condB rfl h (fun _ h => ?_) (fun _ h => ?_)
      · refine Zcp 2 rfl ?_; refine Zm (.row 4 2 0) (Mem.add _ 4 (.rows 2 (List.map api_Debt.enc ([] : List api_Debt)) false)) rfl rfl ?_; refine Zpb 5 rfl ?_; cases h; cases hG; exact ⟨rfl, rfl, rfl, trivial⟩
      · refine Zcp 5 rfl ?_; refine Zo (.agg (api_Debt.av d_)) rfl rfl ?_; refine Y1 rfl ?_; refine bindK h fun y11 hy11 h => ?_; refine W.call rfl (ref44_put_fn hy11) ?_; refine W.v (.row 19 1 (List.map api_Debt.enc y11).length) (.row 19 1 y11.length) (Mem.add _ 19 (.rows 2 (List.map api_Debt.enc y11) false)) rfl (by simp only [List.length_map]) ?_; refine Zo (.row 19 1 y11.length) rfl rfl ?_; refine Zpb 4 rfl ?_; cases h; cases hG; exact ⟨rfl, rfl, rfl, trivial⟩
noncomputable def ref44_Confirm_L1 (l_ : (List api_Debt)) (d_ : api_Debt) (s3 : Int × (List api_Debt)) : Option ((Int × (List api_Debt)) ⊕ (((List api_Debt)) ⊕ ((List api_Debt) × Int))) :=
  (bif (decide (s3.1 < (l_.length : Int))) then
    (getI l_ s3.1).bind fun x33 =>
    (bif (!((x33.Event == d_.Event) && ((x33.Net == d_.Net) && true))) then
      (chkO (decide (s3.2.length + [x33].length ≤ 1000000))).bind fun _ =>
      some (.inl ((IntKind.i64.wrap (s3.1 + (1 : Int))), (s3.2 ++ [x33])))
    else
      some (.inl ((IntKind.i64.wrap (s3.1 + (1 : Int))), s3.2)))
  else
    some (.inr (.inl s3.2)))
noncomputable def ref44_Confirm (l_ : (List api_Debt)) (d_ : api_Debt) : Option ((List api_Debt) × Int) :=
  (ref44_Right l_).bind fun y7 =>
  (bif (!y7) then
    some (([] : List api_Debt), (1 : Int))
  else
    (ref44_fine d_).bind fun y8 =>
    (bif (!y8) then
      some (([] : List api_Debt), (1 : Int))
    else
      (ref44_Has l_ d_).bind fun y10 =>
      (bif (!y10) then
        some (([] : List api_Debt), (4 : Int))
      else
        (seqF (A := (List api_Debt)) (
          loopF (ref44_Confirm_L1 l_ d_) ((0 : Int), ([] : List api_Debt)))
        fun s2 =>
          some (s2, (0 : Int))))))
theorem ref44_Confirm_fn {dr : Prop} {l_ : (List api_Debt)} {d_ : api_Debt} {r : (List api_Debt) × Int} (h : ref44_Confirm l_ d_ = some r) : Fn dr Try.prog 12 [VF (List.map api_Debt.enc l_), .agg (api_Debt.av d_)] (.tup [.ow 2 (List.map api_Debt.enc r.1), VI r.2]) := by
  refine Fn.of_AW (dr := dr) (F := FnX dr Try.prog) (base := 0) (js := [11]) mixed tok noeqs (fun _ _ _ h => h) Try.call12 Try.func12 rfl Try.ntmps12 (by rw [Try.results12]) (by simp) ?_; have hG : (fun x => x = r) r := rfl; unfold ref44_Confirm at h; refine Zap 2 rfl ?_; refine Zm (.lp 3 1 0) (Mem.add _ 3 (.box (api_Debt.av d_))) rfl rfl ?_; refine Zm (.row 4 1 0) (Mem.add _ 4 (.rows 2 (List.map api_Debt.enc ([] : List api_Debt)) false)) rfl rfl ?_; refine Zpp 7 rfl ?_; refine Y1 rfl ?_; refine bindK h fun y7 hy7 h => ?_; refine W.call rfl (ref44_Right_fn hy7) ?_; refine Zwp 3 rfl ?_; refine YF rfl rfl rfl h (fun _ h => ?_) (fun _ h => ?_)
  · refine Zpp 8 rfl ?_; refine Zm (.row 4 2 0) (Mem.add _ 4 (.rows 2 (List.map api_Debt.enc ([] : List api_Debt)) false)) rfl rfl ?_; refine Zpb 5 rfl ?_; cases h; cases hG; exact ⟨rfl, rfl, rfl, trivial⟩
  · refine W.det (.agg (api_Debt.av d_)) _ rfl ?_; refine Y2 rfl rfl rfl ?_; refine bindK h fun y8 hy8 h => ?_; refine W.call rfl (ref44_fine_fn hy8) ?_; refine Zwc 5 rfl ?_; refine A.condB rfl h (fun _ h => ?_) (fun _ h => ?_)
    · refine Zcp 2 rfl ?_; refine Zm (.row 4 2 0) (Mem.add _ 4 (.rows 2 (List.map api_Debt.enc ([] : List api_Debt)) false)) rfl rfl ?_; refine Zpb 5 rfl ?_; cases h; cases hG; exact ⟨rfl, rfl, rfl, trivial⟩
    · refine Zcp 6 rfl ?_; refine Zo (.agg (api_Debt.av d_)) rfl rfl ?_; refine Y1 rfl ?_; refine bindK h fun y10 hy10 h => ?_; refine W.call rfl (ref44_Has_fn hy10) ?_; refine Zwc 4 rfl ?_; refine A.condB rfl h (fun _ h => ?_) (fun _ h => ?_)
      · refine Zcp 2 rfl ?_; refine Zm (.row 4 2 0) (Mem.add _ 4 (.rows 2 (List.map api_Debt.enc ([] : List api_Debt)) false)) rfl rfl ?_; refine Zpb 5 rfl ?_; cases h; cases hG; exact ⟨rfl, rfl, rfl, trivial⟩
      · refine Zcp 4 rfl ?_; refine Zm (.row 6 1 0) (Mem.add _ 6 (.rows 2 (List.map api_Debt.enc ([] : List api_Debt)) false)) rfl rfl ?_; refine Zpc 2 rfl ?_; refine A.join (fun (s2 : (List api_Debt)) => [(6, .row 900000 1 s2.length)]) (fun s2 => [(900000, .rows 2 (List.map api_Debt.enc s2) false)]) _ h hG rfl ?_ ?_
        · intro J f h hG; refine Zac 6 rfl ?_; refine A.loop (fun (s3 : Int × (List api_Debt)) => [(0, VF (List.map api_Debt.enc l_)), (3, .lp 900000 1 0), (6, .row 900001 1 s3.2.length), (7, VI s3.1)]) (fun s3 => [(900000, .box (api_Debt.av d_)), (900001, .rows 2 (List.map api_Debt.enc s3.2) false)]) _ h hG (Zf [] [(900000, (3, 1)), (900001, (6, 1))] rfl rfl (Ze rfl rfl (Ze rfl rfl (Ze rfl rfl (Ze rfl rfl trivial)))) (Zc rfl rfl (Zc rfl rfl trivial))) ?_; intro J s3 f h hG; unfold ref44_Confirm_L1 at h; refine Zap 5 rfl ?_; refine Y1 rfl ?_; refine W.len rfl ?_; refine Zpc 3 rfl ?_; refine A.condB rfl h (fun _ h => ?_) (fun _ h => ?_)
          · refine Zcc 5 rfl ?_; refine A.regionD (by kernel_rfl) ?_; refine Zpp 2 rfl ?_; refine Y1 rfl ?_; refine bindK h fun x33 hx33 h => ?_; refine W.chk rfl (elemB hx33) ?_; refine W.elem rfl (elemG hx33) ?_; refine W.chk rfl rfl ?_; refine W.det (.fp [.v (.int .i64 x33.Event), .v (.int .i64 x33.Net)]) _ rfl ?_; refine Zo (.agg (api_Debt.av x33)) rfl rfl ?_; refine Zo (.agg (api_Debt.av d_)) rfl rfl ?_; refine Zpc 3 rfl ?_; refine A.condB rfl h (fun _ h => ?_) (fun _ h => ?_)
            · refine Zcp 1 rfl ?_; refine Zo (.row 900001 1 s3.2.length) rfl rfl ?_; refine Zpp 2 rfl ?_; refine Y1 rfl ?_; refine W.chk rfl (elemB hx33) ?_; refine W.elem rfl (elemG hx33) ?_; refine W.chk rfl rfl ?_; refine W.det (.fp [.v (.int .i64 x33.Event), .v (.int .i64 x33.Net)]) _ rfl ?_; refine Zo (.agg (api_Debt.av x33)) rfl rfl ?_; refine Zm (.row 37 2 1) (Mem.add _ 37 (.rows 2 (List.map api_Debt.enc [x33]) false)) rfl rfl ?_; refine Y1 rfl ?_; refine chkK h fun g34 h => ?_; refine W.chk rfl (appChk (fun _ => rfl) g34) ?_; refine W.app rfl rfl ?_; refine Zo (.row 900001 2 (s3.2 ++ [x33]).length) rfl rfl ?_; refine Zpb 8 rfl ?_; cases h; exact Zh hG [] [(900000, (900000, 1)), (900001, (900001, 2))] rfl rfl (Ze rfl rfl (Ze rfl rfl (Ze rfl rfl (Ze rfl rfl trivial)))) (Zc rfl rfl (Zc rfl rfl trivial))
            · refine Zcb 8 rfl ?_; cases h; exact Zh hG [] [(900000, (900000, 1)), (900001, (900001, 1))] rfl rfl (Ze rfl rfl (Ze rfl rfl (Ze rfl rfl (Ze rfl rfl trivial)))) (Zc rfl rfl (Zc rfl rfl trivial))
          · refine Zcb 2 rfl ?_; refine headK.e ?_; refine Zob 1 rfl ?_; cases h; exact Zh hG [] [(900000, (900001, 1))] rfl rfl (Ze rfl rfl trivial) (Zc rfl rfl trivial)
        · intro s2 r2 h hG; refine Zcp 2 rfl ?_; refine Zo (.row 900000 1 s2.length) rfl rfl ?_; refine Zo (.row 900000 1 s2.length) rfl rfl ?_; refine Zpb 4 rfl ?_; cases h; cases hG; exact ⟨rfl, rfl, rfl, trivial⟩
noncomputable def ref14_Net (account_ : Int) : Option (Int) :=
  (bif (decide (account_ < (0 : Int))) then
    some (-1 : Int)
  else
    (bif (decide ((1999 : Int) < account_)) then
      some (-1 : Int)
    else
      some (Int.tmod account_ (12 : Int))))
theorem ref14_Net_fn {dr : Prop} {account_ : Int} {r : Int} (h : ref14_Net account_ = some r) : Fn dr Try.prog 48 [VI account_] (VI r) := by
  refine Fn.of_AW (dr := dr) (F := FnX dr Try.prog) (base := 0) (js := []) mixed tok noeqs (fun _ _ _ h => h) Try.call48 Try.func48 rfl Try.ntmps48 (by rw [Try.results48]) (by simp) ?_; have hG : (fun x => x = r) r := rfl; unfold ref14_Net at h; refine Zap 11 rfl ?_; refine YF rfl rfl rfl h (fun _ h => ?_) (fun _ h => ?_)
  · refine Zpb 12 rfl ?_; cases h; cases hG; exact ⟨rfl, trivial⟩
  · refine Zwc 5 rfl ?_; refine A.condB rfl h (fun _ h => ?_) (fun _ h => ?_)
    · refine Zcb 7 rfl ?_; cases h; cases hG; exact ⟨rfl, trivial⟩
    · refine Zcp 5 rfl ?_; refine Y1 rfl ?_; refine W.chk rfl (by decide) ?_; refine Zwb 5 rfl ?_; cases h; cases hG; exact ⟨rfl, trivial⟩
noncomputable def ref44_about (events_ : (List api_Event)) (id_ : Int) (message_ : Int) : Option (Bool) :=
  (bif (decide (id_ < (0 : Int))) then
    some false
  else
    (bif (decide ((events_.length : Int) ≤ id_)) then
      some false
    else
      (bif (id_ == message_) then
        some true
      else
        (getI events_ id_).bind fun x1 =>
        (bif (x1.Target == message_) then
          some true
        else
          some (x1.Quote == message_)))))
theorem ref44_about_fn {dr : Prop} {events_ : (List api_Event)} {id_ : Int} {message_ : Int} {r : Bool} (h : ref44_about events_ id_ message_ = some r) : Fn dr Try.prog 49 [VF (List.map api_Event.enc events_), VI id_, VI message_] (VB r) := by
  refine Fn.of_AW (dr := dr) (F := FnX dr Try.prog) (base := 0) (js := []) mixed tok noeqs (fun _ _ _ h => h) Try.call49 Try.func49 rfl Try.ntmps49 (by rw [Try.results49]) (by simp) ?_; have hG : (fun x => x = r) r := rfl; unfold ref44_about at h; refine Zap 11 rfl ?_; refine YF rfl rfl rfl h (fun _ h => ?_) (fun _ h => ?_)
  · refine Zpb 14 rfl ?_; cases h; cases hG; exact ⟨rfl, trivial⟩
  · refine Zwp 2 rfl ?_; refine Y2 rfl rfl rfl ?_; refine W.len rfl ?_; refine Zpc 4 rfl ?_; refine A.condB rfl h (fun _ h => ?_) (fun _ h => ?_)
    · refine Zcb 7 rfl ?_; cases h; cases hG; exact ⟨rfl, trivial⟩
    · refine Zcp 8 rfl ?_; refine YF rfl rfl rfl h (fun _ h => ?_) (fun _ h => ?_)
      · refine Zpb 20 rfl ?_; cases h; cases hG; exact ⟨rfl, trivial⟩
      · refine Zwp 2 rfl ?_; refine Y2 rfl rfl rfl ?_; refine bindK h fun x1 hx1 h => ?_; refine W.chk rfl (elemB hx1) ?_; refine W.elem rfl (elemG hx1) ?_; refine W.chk rfl rfl ?_; refine W.det (.fp [.v (.int .i64 x1.Author), .v (.int .i64 x1.Seq), .fz (List.map (encI .i64) x1.Causes), .v (.int .i64 x1.Kind), .v (.int .i64 x1.Group), .v (.int .i64 x1.Target), .v (.int .i64 x1.Quote), .v (.int .i64 x1.Who), .v (.int .i64 x1.N), .v (.string x1.Text), .fz (List.map (encI .i64) x1.Files), .v (.int .i64 x1.Step)]) _ rfl ?_; refine Zu (.fp [.v (.int .i64 x1.Target), .v (.int .i64 x1.Quote), .v (.int .i64 x1.Who), .v (.int .i64 x1.N), .v (.string x1.Text), .fz (List.map (encI .i64) x1.Files), .v (.int .i64 x1.Step)]) rfl rfl rfl rfl ?_; refine Zpp 5 rfl ?_; refine YF rfl rfl rfl h (fun _ h => ?_) (fun _ h => ?_)
        · refine Zpb 11 rfl ?_; cases h; cases hG; exact ⟨rfl, trivial⟩
        · refine Zwp 2 rfl ?_; refine Y2 rfl rfl rfl ?_; refine W.chk rfl (elemB hx1) ?_; refine W.elem rfl (elemG hx1) ?_; refine W.chk rfl rfl ?_; refine W.det (.fp [.v (.int .i64 x1.Author), .v (.int .i64 x1.Seq), .fz (List.map (encI .i64) x1.Causes), .v (.int .i64 x1.Kind), .v (.int .i64 x1.Group), .v (.int .i64 x1.Target), .v (.int .i64 x1.Quote), .v (.int .i64 x1.Who), .v (.int .i64 x1.N), .v (.string x1.Text), .fz (List.map (encI .i64) x1.Files), .v (.int .i64 x1.Step)]) _ rfl ?_; refine Zu (.fp [.v (.int .i64 x1.Quote), .v (.int .i64 x1.Who), .v (.int .i64 x1.N), .v (.string x1.Text), .fz (List.map (encI .i64) x1.Files), .v (.int .i64 x1.Step)]) rfl rfl rfl rfl ?_; refine Zpb 8 rfl ?_; cases h; cases hG; exact ⟨rfl, trivial⟩
noncomputable def ref44_may_L1 (p_ : (List api_Event)) (p2_ : Int) (p4_ : Int) (s3 : Int) : Option ((Int) ⊕ ((Unit) ⊕ (Bool))) :=
  (bif (decide (s3 < (p_.length : Int))) then
    (bif (s3 == p2_) then
      (getI p_ s3).bind fun x92 =>
      (ref14_Net x92.Author).bind fun y93 =>
      (bif (y93 == p4_) then
        some (.inr (.inr true))
      else
        some (.inl (IntKind.i64.wrap (s3 + (1 : Int)))))
    else
      (getI p_ s3).bind fun x94 =>
      (bif (x94.Kind == (1 : Int)) then
        (bif (x94.Target == p2_) then
          (ref14_Net x94.Author).bind fun y96 =>
          (bif (y96 == p4_) then
            some (.inr (.inr true))
          else
            some (.inl (IntKind.i64.wrap (s3 + (1 : Int)))))
        else
          some (.inl (IntKind.i64.wrap (s3 + (1 : Int)))))
      else
        some (.inl (IntKind.i64.wrap (s3 + (1 : Int))))))
  else
    some (.inr (.inl ())))
noncomputable def ref44_may_L2 (p1_ : (List api_Sent)) (p4_ : Int) (p3_ : Int) (p_ : (List api_Event)) (p2_ : Int) (s6 : Int) : Option ((Int) ⊕ ((Unit) ⊕ (Bool))) :=
  (bif (decide (s6 < (p1_.length : Int))) then
    (getI p1_ s6).bind fun x143 =>
    (bif (x143.Net == p4_) then
      (bif (decide (x143.Step ≤ p3_)) then
        (ref44_about p_ x143.Event p2_).bind fun y144 =>
        (bif y144 then
          some (.inr (.inr true))
        else
          some (.inl (IntKind.i64.wrap (s6 + (1 : Int)))))
      else
        some (.inl (IntKind.i64.wrap (s6 + (1 : Int)))))
    else
      some (.inl (IntKind.i64.wrap (s6 + (1 : Int)))))
  else
    some (.inr (.inl ())))
noncomputable def ref44_may (p_ : (List api_Event)) (p1_ : (List api_Sent)) (p2_ : Int) (p3_ : Int) (p4_ : Int) : Option (Bool) :=
  (seqF (A := Unit) (
    loopF (ref44_may_L1 p_ p2_ p4_) (0 : Int))
  fun s2 =>
    (seqF (A := Unit) (
      loopF (ref44_may_L2 p1_ p4_ p3_ p_ p2_) (0 : Int))
    fun s5 =>
      some false))
theorem ref44_may_fn {dr : Prop} {p_ : (List api_Event)} {p1_ : (List api_Sent)} {p2_ : Int} {p3_ : Int} {p4_ : Int} {r : Bool} (h : ref44_may p_ p1_ p2_ p3_ p4_ = some r) : Fn dr Try.prog 35 [VF (List.map api_Event.enc p_), VF (List.map api_Sent.enc p1_), VI p2_, VI p3_, VI p4_] (VB r) := by
  refine Fn.of_AW (dr := dr) (F := FnX dr Try.prog) (base := 0) (js := [7, 12]) mixed tok noeqs (fun _ _ _ h => h) Try.call35 Try.func35 rfl Try.ntmps35 (by rw [Try.results35]) (by simp) ?_; have hG : (fun x => x = r) r := rfl; unfold ref44_may at h; refine Zac 5 rfl ?_; refine A.join (fun (s2 : Unit) => [(0, VF (List.map api_Event.enc p_)), (1, VF (List.map api_Sent.enc p1_)), (2, VI p2_), (3, VI p3_), (4, VI p4_)]) (fun s2 => []) _ h hG rfl ?_ ?_
  · intro J f h hG; refine Zac 6 rfl ?_; refine A.loop (fun (s3 : Int) => [(0, VF (List.map api_Event.enc p_)), (1, VF (List.map api_Sent.enc p1_)), (2, VI p2_), (3, VI p3_), (4, VI p4_), (11, VI s3)]) (fun s3 => []) _ h hG (Zf [] [] rfl rfl (Ze rfl rfl (Ze rfl rfl (Ze rfl rfl (Ze rfl rfl (Ze rfl rfl (Ze rfl rfl trivial)))))) trivial) ?_; intro J s3 f h hG; unfold ref44_may_L1 at h; refine Zap 5 rfl ?_; refine Y1 rfl ?_; refine W.len rfl ?_; refine Zpc 3 rfl ?_; refine A.condB rfl h (fun _ h => ?_) (fun _ h => ?_)
    · refine Zcp 10 rfl ?_; refine YF rfl rfl rfl h (fun _ h => ?_) (fun _ h => ?_)
      · refine Zpp 24 rfl ?_; refine Y2 rfl rfl rfl ?_; refine bindK h fun x92 hx92 h => ?_; refine W.chk rfl (elemB hx92) ?_; refine W.elem rfl (elemG hx92) ?_; refine W.chk rfl rfl ?_; refine W.det (.fp [.v (.int .i64 x92.Author), .v (.int .i64 x92.Seq), .fz (List.map (encI .i64) x92.Causes), .v (.int .i64 x92.Kind), .v (.int .i64 x92.Group), .v (.int .i64 x92.Target), .v (.int .i64 x92.Quote), .v (.int .i64 x92.Who), .v (.int .i64 x92.N), .v (.string x92.Text), .fz (List.map (encI .i64) x92.Files), .v (.int .i64 x92.Step)]) _ rfl ?_; refine Zu (.fp [.v (.int .i64 x92.Author), .v (.int .i64 x92.Seq), .fz (List.map (encI .i64) x92.Causes), .v (.int .i64 x92.Kind), .v (.int .i64 x92.Group), .v (.int .i64 x92.Target), .v (.int .i64 x92.Quote), .v (.int .i64 x92.Who), .v (.int .i64 x92.N), .v (.string x92.Text), .fz (List.map (encI .i64) x92.Files), .v (.int .i64 x92.Step)]) rfl rfl rfl rfl ?_; refine Zpp 1 rfl ?_; refine Y2 rfl rfl rfl ?_; refine bindK h fun y93 hy93 h => ?_; refine W.call rfl (ref14_Net_fn hy93) ?_; refine Zwc 6 rfl ?_; refine A.condB rfl h (fun _ h => ?_) (fun _ h => ?_)
        · refine Zcb 8 rfl ?_; refine headK.r ?_; refine Zob 1 rfl ?_; refine headK.r ?_; cases h; cases hG; exact ⟨rfl, trivial⟩
        · refine Zcb 8 rfl ?_; cases h; exact Zh hG [] [] rfl rfl (Ze rfl rfl (Ze rfl rfl (Ze rfl rfl (Ze rfl rfl (Ze rfl rfl (Ze rfl rfl trivial)))))) trivial
      · refine Zwp 2 rfl ?_; refine Y2 rfl rfl rfl ?_; refine bindK h fun x94 hx94 h => ?_; refine W.chk rfl (elemB hx94) ?_; refine W.elem rfl (elemG hx94) ?_; refine W.chk rfl rfl ?_; refine W.det (.fp [.v (.int .i64 x94.Author), .v (.int .i64 x94.Seq), .fz (List.map (encI .i64) x94.Causes), .v (.int .i64 x94.Kind), .v (.int .i64 x94.Group), .v (.int .i64 x94.Target), .v (.int .i64 x94.Quote), .v (.int .i64 x94.Who), .v (.int .i64 x94.N), .v (.string x94.Text), .fz (List.map (encI .i64) x94.Files), .v (.int .i64 x94.Step)]) _ rfl ?_; refine Zu (.fp [.v (.int .i64 x94.Kind), .v (.int .i64 x94.Group), .v (.int .i64 x94.Target), .v (.int .i64 x94.Quote), .v (.int .i64 x94.Who), .v (.int .i64 x94.N), .v (.string x94.Text), .fz (List.map (encI .i64) x94.Files), .v (.int .i64 x94.Step)]) rfl rfl rfl rfl ?_; refine Zpp 3 rfl ?_; refine YT rfl rfl rfl h (fun _ h => ?_) (fun _ h => ?_)
        · refine Zwp 2 rfl ?_; refine Y2 rfl rfl rfl ?_; refine W.chk rfl (elemB hx94) ?_; refine W.elem rfl (elemG hx94) ?_; refine W.chk rfl rfl ?_; refine W.det (.fp [.v (.int .i64 x94.Author), .v (.int .i64 x94.Seq), .fz (List.map (encI .i64) x94.Causes), .v (.int .i64 x94.Kind), .v (.int .i64 x94.Group), .v (.int .i64 x94.Target), .v (.int .i64 x94.Quote), .v (.int .i64 x94.Who), .v (.int .i64 x94.N), .v (.string x94.Text), .fz (List.map (encI .i64) x94.Files), .v (.int .i64 x94.Step)]) _ rfl ?_; refine Zu (.fp [.v (.int .i64 x94.Target), .v (.int .i64 x94.Quote), .v (.int .i64 x94.Who), .v (.int .i64 x94.N), .v (.string x94.Text), .fz (List.map (encI .i64) x94.Files), .v (.int .i64 x94.Step)]) rfl rfl rfl rfl ?_; refine Zpp 12 rfl ?_; refine YT rfl rfl rfl h (fun _ h => ?_) (fun _ h => ?_)
          · refine Zwp 2 rfl ?_; refine Y2 rfl rfl rfl ?_; refine W.chk rfl (elemB hx94) ?_; refine W.elem rfl (elemG hx94) ?_; refine W.chk rfl rfl ?_; refine W.det (.fp [.v (.int .i64 x94.Author), .v (.int .i64 x94.Seq), .fz (List.map (encI .i64) x94.Causes), .v (.int .i64 x94.Kind), .v (.int .i64 x94.Group), .v (.int .i64 x94.Target), .v (.int .i64 x94.Quote), .v (.int .i64 x94.Who), .v (.int .i64 x94.N), .v (.string x94.Text), .fz (List.map (encI .i64) x94.Files), .v (.int .i64 x94.Step)]) _ rfl ?_; refine Zu (.fp [.v (.int .i64 x94.Author), .v (.int .i64 x94.Seq), .fz (List.map (encI .i64) x94.Causes), .v (.int .i64 x94.Kind), .v (.int .i64 x94.Group), .v (.int .i64 x94.Target), .v (.int .i64 x94.Quote), .v (.int .i64 x94.Who), .v (.int .i64 x94.N), .v (.string x94.Text), .fz (List.map (encI .i64) x94.Files), .v (.int .i64 x94.Step)]) rfl rfl rfl rfl ?_; refine Zpp 1 rfl ?_; refine Y2 rfl rfl rfl ?_; refine bindK h fun y96 hy96 h => ?_; refine W.call rfl (ref14_Net_fn hy96) ?_; refine Zwc 6 rfl ?_; refine A.condB rfl h (fun _ h => ?_) (fun _ h => ?_)
            · refine Zcb 8 rfl ?_; refine headK.r ?_; refine Zob 1 rfl ?_; refine headK.r ?_; cases h; cases hG; exact ⟨rfl, trivial⟩
            · refine Zcb 8 rfl ?_; cases h; exact Zh hG [] [] rfl rfl (Ze rfl rfl (Ze rfl rfl (Ze rfl rfl (Ze rfl rfl (Ze rfl rfl (Ze rfl rfl trivial)))))) trivial
          · refine Zpb 19 rfl ?_; cases h; exact Zh hG [] [] rfl rfl (Ze rfl rfl (Ze rfl rfl (Ze rfl rfl (Ze rfl rfl (Ze rfl rfl (Ze rfl rfl trivial)))))) trivial
        · refine Zpb 35 rfl ?_; cases h; exact Zh hG [] [] rfl rfl (Ze rfl rfl (Ze rfl rfl (Ze rfl rfl (Ze rfl rfl (Ze rfl rfl (Ze rfl rfl trivial)))))) trivial
    · refine Zcb 2 rfl ?_; refine headK.e ?_; refine Zob 1 rfl ?_; cases h; exact Zh hG [] [] rfl rfl (Ze rfl rfl (Ze rfl rfl (Ze rfl rfl (Ze rfl rfl (Ze rfl rfl trivial))))) trivial
  · intro s2 r2 h hG; refine A.join (fun (s5 : Unit) => []) (fun s5 => []) _ h hG rfl ?_ ?_
    · intro J f h hG; refine Zac 6 rfl ?_; refine A.loop (fun (s6 : Int) => [(0, VF (List.map api_Event.enc p_)), (1, VF (List.map api_Sent.enc p1_)), (2, VI p2_), (3, VI p3_), (4, VI p4_), (13, VI s6)]) (fun s6 => []) _ h hG (Zf [] [] rfl rfl (Ze rfl rfl (Ze rfl rfl (Ze rfl rfl (Ze rfl rfl (Ze rfl rfl (Ze rfl rfl trivial)))))) trivial) ?_; intro J s6 f h hG; unfold ref44_may_L2 at h; refine Zap 5 rfl ?_; refine Y1 rfl ?_; refine W.len rfl ?_; refine Zpc 3 rfl ?_; refine A.condB rfl h (fun _ h => ?_) (fun _ h => ?_)
      · refine Zcp 8 rfl ?_; refine Y1 rfl ?_; refine bindK h fun x143 hx143 h => ?_; refine W.chk rfl (elemB hx143) ?_; refine W.elem rfl (elemG hx143) ?_; refine W.chk rfl rfl ?_; refine W.det (.fp [.v (.int .i64 x143.Event), .v (.int .i64 x143.Net), .v (.int .i64 x143.Step)]) _ rfl ?_; refine Zo (.fp [.v (.int .i64 x143.Net), .v (.int .i64 x143.Step)]) rfl rfl ?_; refine Zpp 4 rfl ?_; refine YT rfl rfl rfl h (fun _ h => ?_) (fun _ h => ?_)
        · refine Zwp 2 rfl ?_; refine Y2 rfl rfl rfl ?_; refine W.chk rfl (elemB hx143) ?_; refine W.elem rfl (elemG hx143) ?_; refine W.chk rfl rfl ?_; refine W.det (.fp [.v (.int .i64 x143.Event), .v (.int .i64 x143.Net), .v (.int .i64 x143.Step)]) _ rfl ?_; refine Zu (.fp [.v (.int .i64 x143.Step)]) rfl rfl rfl rfl ?_; refine Zpp 5 rfl ?_; refine YT rfl rfl rfl h (fun _ h => ?_) (fun _ h => ?_)
          · refine Zwp 3 rfl ?_; refine Y2 rfl rfl rfl ?_; refine W.chk rfl (elemB hx143) ?_; refine W.elem rfl (elemG hx143) ?_; refine W.chk rfl rfl ?_; refine W.det (.fp [.v (.int .i64 x143.Event), .v (.int .i64 x143.Net), .v (.int .i64 x143.Step)]) _ rfl ?_; refine Zu (.fp [.v (.int .i64 x143.Event), .v (.int .i64 x143.Net), .v (.int .i64 x143.Step)]) rfl rfl rfl rfl ?_; refine Zpp 2 rfl ?_; refine Y2 rfl rfl rfl ?_; refine bindK h fun y144 hy144 h => ?_; refine W.call rfl (ref44_about_fn hy144) ?_; refine Zwc 4 rfl ?_; refine A.condB rfl h (fun _ h => ?_) (fun _ h => ?_)
            · refine Zcb 8 rfl ?_; refine headK.r ?_; refine Zob 1 rfl ?_; refine headK.r ?_; cases h; cases hG; exact ⟨rfl, trivial⟩
            · refine Zcb 8 rfl ?_; cases h; exact Zh hG [] [] rfl rfl (Ze rfl rfl (Ze rfl rfl (Ze rfl rfl (Ze rfl rfl (Ze rfl rfl (Ze rfl rfl trivial)))))) trivial
          · refine Zpb 19 rfl ?_; cases h; exact Zh hG [] [] rfl rfl (Ze rfl rfl (Ze rfl rfl (Ze rfl rfl (Ze rfl rfl (Ze rfl rfl (Ze rfl rfl trivial)))))) trivial
        · refine Zpb 28 rfl ?_; cases h; exact Zh hG [] [] rfl rfl (Ze rfl rfl (Ze rfl rfl (Ze rfl rfl (Ze rfl rfl (Ze rfl rfl (Ze rfl rfl trivial)))))) trivial
      · refine Zcb 2 rfl ?_; refine headK.e ?_; refine Zob 1 rfl ?_; cases h; exact Zh hG [] [] rfl rfl trivial trivial
    · intro s5 r2 h hG; refine Zcb 6 rfl ?_; cases h; cases hG; exact ⟨rfl, trivial⟩
noncomputable def ref44_Asked_L1 (events_ : (List api_Event)) (sent_ : (List api_Sent)) (message_ : Int) (step_ : Int) (s3 : Int × (List Int)) : Option ((Int × (List Int)) ⊕ (((List Int)) ⊕ ((List Int)))) :=
  (bif (decide (s3.1 < (12 : Int))) then
    (ref44_may events_ sent_ message_ step_ s3.1).bind fun y25 =>
    (bif y25 then
      (chkO (decide (s3.2.length + [s3.1].length ≤ 1000000))).bind fun _ =>
      some (.inl ((IntKind.i64.wrap (s3.1 + (1 : Int))), (s3.2 ++ [s3.1])))
    else
      some (.inl ((IntKind.i64.wrap (s3.1 + (1 : Int))), s3.2)))
  else
    some (.inr (.inl s3.2)))
noncomputable def ref44_Asked (events_ : (List api_Event)) (sent_ : (List api_Sent)) (message_ : Int) (step_ : Int) : Option ((List Int)) :=
  (bif (decide (message_ < (0 : Int))) then
    some ([] : List Int)
  else
    (bif (decide ((events_.length : Int) ≤ message_)) then
      some ([] : List Int)
    else
      (getI events_ message_).bind fun x2 =>
      (bif (x2.Kind != (0 : Int)) then
        some ([] : List Int)
      else
        (seqF (A := (List Int)) (
          loopF (ref44_Asked_L1 events_ sent_ message_ step_) ((0 : Int), ([] : List Int)))
        fun s2 =>
          some s2))))
theorem ref44_Asked_fn {dr : Prop} {events_ : (List api_Event)} {sent_ : (List api_Sent)} {message_ : Int} {step_ : Int} {r : (List Int)} (h : ref44_Asked events_ sent_ message_ step_ = some r) : Fn dr Try.prog 16 [VF (List.map api_Event.enc events_), VF (List.map api_Sent.enc sent_), VI message_, VI step_] (.ow 1 (List.map (encI .i64) r)) := by
  refine Fn.of_AW (dr := dr) (F := FnX dr Try.prog) (base := 0) (js := [11]) mixed tok noeqs (fun _ _ _ h => h) Try.call16 Try.func16 rfl Try.ntmps16 (by rw [Try.results16]) (by simp) ?_; have hG : (fun x => x = r) r := rfl; unfold ref44_Asked at h; refine Zap 2 rfl ?_; refine Zm (.row 8 1 0) (Mem.add _ 8 (.rows 1 (List.map (encI .i64) ([] : List Int)) false)) rfl rfl ?_; refine Zpp 8 rfl ?_; refine YF rfl rfl rfl h (fun _ h => ?_) (fun _ h => ?_)
  · refine Zpp 9 rfl ?_; refine Zm (.row 8 2 0) (Mem.add _ 8 (.rows 1 (List.map (encI .i64) ([] : List Int)) false)) rfl rfl ?_; refine Zpb 4 rfl ?_; cases h; cases hG; exact ⟨rfl, rfl, trivial⟩
  · refine Zwp 2 rfl ?_; refine Y2 rfl rfl rfl ?_; refine W.len rfl ?_; refine Zpc 4 rfl ?_; refine A.condB rfl h (fun _ h => ?_) (fun _ h => ?_)
    · refine Zcp 2 rfl ?_; refine Zm (.row 8 2 0) (Mem.add _ 8 (.rows 1 (List.map (encI .i64) ([] : List Int)) false)) rfl rfl ?_; refine Zpb 4 rfl ?_; cases h; cases hG; exact ⟨rfl, rfl, trivial⟩
    · refine Zcp 7 rfl ?_; refine Y1 rfl ?_; refine bindK h fun x2 hx2 h => ?_; refine W.chk rfl (elemB hx2) ?_; refine W.elem rfl (elemG hx2) ?_; refine W.chk rfl rfl ?_; refine W.det (.fp [.v (.int .i64 x2.Author), .v (.int .i64 x2.Seq), .fz (List.map (encI .i64) x2.Causes), .v (.int .i64 x2.Kind), .v (.int .i64 x2.Group), .v (.int .i64 x2.Target), .v (.int .i64 x2.Quote), .v (.int .i64 x2.Who), .v (.int .i64 x2.N), .v (.string x2.Text), .fz (List.map (encI .i64) x2.Files), .v (.int .i64 x2.Step)]) _ rfl ?_; refine Zo (.fp [.v (.int .i64 x2.Kind), .v (.int .i64 x2.Group), .v (.int .i64 x2.Target), .v (.int .i64 x2.Quote), .v (.int .i64 x2.Who), .v (.int .i64 x2.N), .v (.string x2.Text), .fz (List.map (encI .i64) x2.Files), .v (.int .i64 x2.Step)]) rfl rfl ?_; refine Zpc 4 rfl ?_; refine A.condB rfl h (fun _ h => ?_) (fun _ h => ?_)
      · refine Zcp 2 rfl ?_; refine Zm (.row 8 2 0) (Mem.add _ 8 (.rows 1 (List.map (encI .i64) ([] : List Int)) false)) rfl rfl ?_; refine Zpb 4 rfl ?_; cases h; cases hG; exact ⟨rfl, rfl, trivial⟩
      · refine Zcp 4 rfl ?_; refine Zm (.row 9 1 0) (Mem.add _ 9 (.rows 1 (List.map (encI .i64) ([] : List Int)) false)) rfl rfl ?_; refine Zpc 2 rfl ?_; refine A.join (fun (s2 : (List Int)) => [(9, .row 900000 1 s2.length)]) (fun s2 => [(900000, .rows 1 (List.map (encI .i64) s2) false)]) _ h hG rfl ?_ ?_
        · intro J f h hG; refine Zac 6 rfl ?_; refine A.loop (fun (s3 : Int × (List Int)) => [(0, VF (List.map api_Event.enc events_)), (1, VF (List.map api_Sent.enc sent_)), (2, VI message_), (3, VI step_), (9, .row 900000 1 s3.2.length), (10, VI s3.1)]) (fun s3 => [(900000, .rows 1 (List.map (encI .i64) s3.2) false)]) _ h hG (Zf [] [(900000, (9, 1))] rfl rfl (Ze rfl rfl (Ze rfl rfl (Ze rfl rfl (Ze rfl rfl (Ze rfl rfl (Ze rfl rfl trivial)))))) (Zc rfl rfl trivial)) ?_; intro J s3 f h hG; unfold ref44_Asked_L1 at h; refine Zac 7 rfl ?_; refine A.condB rfl h (fun _ h => ?_) (fun _ h => ?_)
          · refine Zcp 11 rfl ?_; refine Y1 rfl ?_; refine bindK h fun y25 hy25 h => ?_; refine W.call rfl (ref44_may_fn hy25) ?_; refine Zwc 3 rfl ?_; refine A.condB rfl h (fun _ h => ?_) (fun _ h => ?_)
            · refine Zcp 1 rfl ?_; refine Zo (.row 900000 1 s3.2.length) rfl rfl ?_; refine Zpp 1 rfl ?_; refine Zm (.row 37 2 1) (Mem.add _ 37 (.rows 1 (List.map (encI .i64) [s3.1]) false)) rfl rfl ?_; refine Y1 rfl ?_; refine chkK h fun g26 h => ?_; refine W.chk rfl (appChk (fun _ => rfl) g26) ?_; refine W.app rfl rfl ?_; refine Zo (.row 900000 2 (s3.2 ++ [s3.1]).length) rfl rfl ?_; refine Zpb 8 rfl ?_; cases h; exact Zh hG [] [(900000, (900000, 2))] rfl rfl (Ze rfl rfl (Ze rfl rfl (Ze rfl rfl (Ze rfl rfl (Ze rfl rfl (Ze rfl rfl trivial)))))) (Zc rfl rfl trivial)
            · refine Zcb 8 rfl ?_; cases h; exact Zh hG [] [(900000, (900000, 1))] rfl rfl (Ze rfl rfl (Ze rfl rfl (Ze rfl rfl (Ze rfl rfl (Ze rfl rfl (Ze rfl rfl trivial)))))) (Zc rfl rfl trivial)
          · refine Zcb 2 rfl ?_; refine headK.e ?_; refine Zob 1 rfl ?_; cases h; exact Zh hG [] [(900000, (900000, 1))] rfl rfl (Ze rfl rfl trivial) (Zc rfl rfl trivial)
        · intro s2 r2 h hG; refine Zcp 2 rfl ?_; refine Zo (.row 900000 1 s2.length) rfl rfl ?_; refine Zo (.row 900000 1 s2.length) rfl rfl ?_; refine Zpb 3 rfl ?_; cases h; cases hG; exact ⟨rfl, rfl, trivial⟩
noncomputable def ref44_Open_L1 (y552 : (List Int)) (orders_ : (List api_Order)) (s12 : (Int × (List api_Debt))) (done_ : (List api_Debt)) (s21 : Int × (List api_Debt)) : Option ((Int × (List api_Debt)) ⊕ (((List api_Debt)) ⊕ ((Int × (List api_Debt)) ⊕ (((List api_Debt)) ⊕ ((List api_Debt)))))) :=
  (bif (decide (s21.1 < ((y552.length : Nat) : Int))) then
    (getI orders_ s12.1).bind fun x593 =>
    (chkO (decide (0 ≤ s21.1) && decide (s21.1 < ((y552.length : Nat) : Int)))).bind fun _ =>
    (getI y552 s21.1).bind fun x595 =>
    (ref44_Has done_ (api_Debt.mk x593.Event x595)).bind fun y598 =>
    (bif (!y598) then
      (ref44_Has s21.2 (api_Debt.mk x593.Event x595)).bind fun y599 =>
      (bif (!y599) then
        (ref44_put s21.2 (api_Debt.mk x593.Event x595)).bind fun y600 =>
        some (.inl ((IntKind.i64.wrap (s21.1 + (1 : Int))), y600))
      else
        some (.inl ((IntKind.i64.wrap (s21.1 + (1 : Int))), s21.2)))
    else
      some (.inl ((IntKind.i64.wrap (s21.1 + (1 : Int))), s21.2)))
  else
    some (.inr (.inl s21.2)))
noncomputable def ref44_Open_L2 (orders_ : (List api_Order)) (events_ : (List api_Event)) (sent_ : (List api_Sent)) (done_ : (List api_Debt)) (s12 : Int × (List api_Debt)) : Option ((Int × (List api_Debt)) ⊕ (((List api_Debt)) ⊕ ((List api_Debt)))) :=
  (bif (decide (s12.1 < (orders_.length : Int))) then
    (seqF (A := (List api_Debt)) (
      (getI orders_ s12.1).bind fun x551 =>
      (ref44_Asked events_ sent_ x551.Event x551.Step).bind fun y552 =>
      loopF (ref44_Open_L1 y552 orders_ s12 done_) ((0 : Int), s12.2))
    fun s20 =>
      some (.inl ((IntKind.i64.wrap (s12.1 + (1 : Int))), s20)))
  else
    some (.inr (.inl s12.2)))
noncomputable def ref44_Open (events_ : (List api_Event)) (sent_ : (List api_Sent)) (orders_ : (List api_Order)) (done_ : (List api_Debt)) : Option ((List api_Debt)) :=
  (seqF (A := (List api_Debt)) (
    loopF (ref44_Open_L2 orders_ events_ sent_ done_) ((0 : Int), ([] : List api_Debt)))
  fun s11 =>
    some s11)
theorem ref44_Open_fn {dr : Prop} {events_ : (List api_Event)} {sent_ : (List api_Sent)} {orders_ : (List api_Order)} {done_ : (List api_Debt)} {r : (List api_Debt)} (h : ref44_Open events_ sent_ orders_ done_ = some r) : Fn dr Try.prog 18 [VF (List.map api_Event.enc events_), VF (List.map api_Sent.enc sent_), VF (List.map api_Order.enc orders_), VF (List.map api_Debt.enc done_)] (.ow 2 (List.map api_Debt.enc r)) := by
  refine Fn.of_AW (dr := dr) (F := FnX dr Try.prog) (base := 0) (js := [4, 12]) mixed tok noeqs (fun _ _ _ h => h) Try.call18 Try.func18 rfl Try.ntmps18 (by rw [Try.results18]) (by simp) ?_; have hG : (fun x => x = r) r := rfl; unfold ref44_Open at h; refine Zap 2 rfl ?_; refine Zm (.row 8 1 0) (Mem.add _ 8 (.rows 2 (List.map api_Debt.enc ([] : List api_Debt)) false)) rfl rfl ?_; refine Zpp 4 rfl ?_; refine Zm (.row 9 1 0) (Mem.add _ 9 (.rows 2 (List.map api_Debt.enc ([] : List api_Debt)) false)) rfl rfl ?_; refine Zpc 2 rfl ?_; refine A.join (fun (s11 : (List api_Debt)) => [(9, .row 900000 1 s11.length)]) (fun s11 => [(900000, .rows 2 (List.map api_Debt.enc s11) false)]) _ h hG rfl ?_ ?_
  · intro J f h hG; refine Zac 6 rfl ?_; refine A.loop (fun (s12 : Int × (List api_Debt)) => [(0, VF (List.map api_Event.enc events_)), (1, VF (List.map api_Sent.enc sent_)), (2, VF (List.map api_Order.enc orders_)), (3, VF (List.map api_Debt.enc done_)), (9, .row 900000 1 s12.2.length), (10, VI s12.1)]) (fun s12 => [(900000, .rows 2 (List.map api_Debt.enc s12.2) false)]) _ h hG (Zf [] [(900000, (9, 1))] rfl rfl (Ze rfl rfl (Ze rfl rfl (Ze rfl rfl (Ze rfl rfl (Ze rfl rfl (Ze rfl rfl trivial)))))) (Zc rfl rfl trivial)) ?_; intro J s12 f h hG; unfold ref44_Open_L2 at h; refine Zap 5 rfl ?_; refine Y1 rfl ?_; refine W.len rfl ?_; refine Zpc 3 rfl ?_; refine A.condB rfl h (fun _ h => ?_) (fun _ h => ?_)
    · refine Zcc 2 rfl ?_; refine A.join (fun (s20 : (List api_Debt)) => [(0, VF (List.map api_Event.enc events_)), (1, VF (List.map api_Sent.enc sent_)), (2, VF (List.map api_Order.enc orders_)), (3, VF (List.map api_Debt.enc done_)), (9, .row 900000 1 s20.length), (10, VI s12.1)]) (fun s20 => [(900000, .rows 2 (List.map api_Debt.enc s20) false)]) _ h hG rfl ?_ ?_
      · intro J f h hG; refine Zac 2 rfl ?_; refine A.regionD (by kernel_rfl) ?_; refine Zpp 4 rfl ?_; refine Y1 rfl ?_; refine bindK h fun x551 hx551 h => ?_; refine W.chk rfl (elemB hx551) ?_; refine W.elem rfl (elemG hx551) ?_; refine W.chk rfl rfl ?_; refine W.det (.fp [.v (.int .i64 x551.Kind), .v (.int .i64 x551.Event), .v (.int .i64 x551.By), .v (.int .i64 x551.Step)]) _ rfl ?_; refine Zo (.fp [.v (.int .i64 x551.Event), .v (.int .i64 x551.By), .v (.int .i64 x551.Step)]) rfl rfl ?_; refine Zpp 3 rfl ?_; refine Y1 rfl ?_; refine W.chk rfl (elemB hx551) ?_; refine W.elem rfl (elemG hx551) ?_; refine W.chk rfl rfl ?_; refine W.det (.fp [.v (.int .i64 x551.Kind), .v (.int .i64 x551.Event), .v (.int .i64 x551.By), .v (.int .i64 x551.Step)]) _ rfl ?_; refine Zo (.fp [.v (.int .i64 x551.Step)]) rfl rfl ?_; refine Zpp 1 rfl ?_; refine Y1 rfl ?_; refine bindK h fun y552 hy552 h => ?_; refine W.call rfl (ref44_Asked_fn hy552) ?_; refine W.v (.row 32 2 (List.map (encI .i64) y552).length) (.row 32 2 y552.length) (Mem.add _ 32 (.rows 1 (List.map (encI .i64) y552) false)) rfl (by simp only [List.length_map]) ?_; refine Zo (.row 32 2 y552.length) rfl rfl ?_; refine Zpc 8 rfl ?_; refine A.loop (fun (s21 : Int × (List api_Debt)) => [(0, VF (List.map api_Event.enc events_)), (1, VF (List.map api_Sent.enc sent_)), (2, VF (List.map api_Order.enc orders_)), (3, VF (List.map api_Debt.enc done_)), (9, .row 900000 1 s21.2.length), (10, VI s12.1), (11, .row 900001 1 y552.length), (12, VI s21.1)]) (fun s21 => [(900000, .rows 2 (List.map api_Debt.enc s21.2) false), (900001, .rows 1 (List.map (encI .i64) y552) false)]) _ h hG (Zf [] [(900000, (900000, 1)), (900001, (32, 2))] rfl rfl (Ze rfl rfl (Ze rfl rfl (Ze rfl rfl (Ze rfl rfl (Ze rfl rfl (Ze rfl rfl (Ze rfl rfl (Ze rfl rfl trivial)))))))) (Zc rfl rfl (Zc rfl rfl trivial))) ?_; intro J s21 f h hG; unfold ref44_Open_L1 at h; refine Zap 4 rfl ?_; refine Zo (.row 900001 1 y552.length) rfl rfl ?_; refine Zpc 4 rfl ?_; refine A.condB rfl h (fun _ h => ?_) (fun _ h => ?_)
        · refine Zcc 5 rfl ?_; refine A.regionD (by kernel_rfl) ?_; refine Zpp 2 rfl ?_; refine Y1 rfl ?_; refine bindK h fun x593 hx593 h => ?_; refine W.chk rfl (elemB hx593) ?_; refine W.elem rfl (elemG hx593) ?_; refine W.chk rfl rfl ?_; refine W.det (.fp [.v (.int .i64 x593.Kind), .v (.int .i64 x593.Event), .v (.int .i64 x593.By), .v (.int .i64 x593.Step)]) _ rfl ?_; refine Zo (.fp [.v (.int .i64 x593.Event), .v (.int .i64 x593.By), .v (.int .i64 x593.Step)]) rfl rfl ?_; refine Zpp 1 rfl ?_; refine Zo (.row 900001 1 y552.length) rfl rfl ?_; refine Zpp 1 rfl ?_; refine Y1 rfl ?_; refine chkK h fun g594 h => ?_; refine W.chk rfl (by simpa using g594) ?_; refine W.det (.rp 900001 1 s21.1.toNat 0) _ rfl ?_; refine Y1 rfl ?_; refine bindK h fun x595 hx595 h => ?_; refine W.elem rfl (elemG hx595) ?_; refine Zwp 1 rfl ?_; refine Zo (.agg [VI x593.Event, VI x595]) rfl rfl ?_; refine Zm (.lp 13 2 0) (Mem.add _ 13 (.box [VI 0, VI 0])) rfl rfl ?_; refine Zm (.tup []) (Mem.set _ 13 2 (some (.box [VI x593.Event, VI x595]))) rfl rfl ?_; refine Zpp 5 rfl ?_; refine Zo (.agg [VI x593.Event, VI x595]) rfl rfl ?_; refine Y1 rfl ?_; refine bindK h fun y598 hy598 h => ?_; refine W.call rfl (ref44_Has_fn hy598) ?_; refine Zwp 3 rfl ?_; refine YT rfl rfl rfl h (fun _ h => ?_) (fun _ h => ?_)
          · refine W.det (.row 900000 1 s21.2.length) _ rfl ?_; refine Zu (.agg [VI x593.Event, VI x595]) rfl rfl rfl rfl ?_; refine Y2 rfl rfl rfl ?_; refine bindK h fun y599 hy599 h => ?_; refine W.call rfl (ref44_Has_fn hy599) ?_; refine Zwc 5 rfl ?_; refine A.condB rfl h (fun _ h => ?_) (fun _ h => ?_)
            · refine Zcp 1 rfl ?_; refine Zo (.row 900000 1 s21.2.length) rfl rfl ?_; refine Zo (.agg [VI x593.Event, VI x595]) rfl rfl ?_; refine Y1 rfl ?_; refine bindK h fun y600 hy600 h => ?_; refine W.call rfl (ref44_put_fn hy600) ?_; refine W.v (.row 61 2 (List.map api_Debt.enc y600).length) (.row 61 2 y600.length) (Mem.add (Mem.set _ 900000 1 (some (.rows 2 (List.map api_Debt.enc s21.2) true))) 61 (.rows 2 (List.map api_Debt.enc y600) false)) rfl (by simp only [List.length_map]) ?_; refine Zo (.row 61 2 y600.length) rfl rfl ?_; refine Zpb 8 rfl ?_; cases h; exact Zh hG [] [(900000, (61, 2)), (900001, (900001, 1))] rfl rfl (Ze rfl rfl (Ze rfl rfl (Ze rfl rfl (Ze rfl rfl (Ze rfl rfl (Ze rfl rfl (Ze rfl rfl (Ze rfl rfl trivial)))))))) (Zc rfl rfl (Zc rfl rfl trivial))
            · refine Zcb 8 rfl ?_; cases h; exact Zh hG [] [(900000, (900000, 1)), (900001, (900001, 1))] rfl rfl (Ze rfl rfl (Ze rfl rfl (Ze rfl rfl (Ze rfl rfl (Ze rfl rfl (Ze rfl rfl (Ze rfl rfl (Ze rfl rfl trivial)))))))) (Zc rfl rfl (Zc rfl rfl trivial))
          · refine Zpb 15 rfl ?_; cases h; exact Zh hG [] [(900000, (900000, 1)), (900001, (900001, 1))] rfl rfl (Ze rfl rfl (Ze rfl rfl (Ze rfl rfl (Ze rfl rfl (Ze rfl rfl (Ze rfl rfl (Ze rfl rfl (Ze rfl rfl trivial)))))))) (Zc rfl rfl (Zc rfl rfl trivial))
        · refine Zcb 2 rfl ?_; refine headK.e ?_; refine Zob 2 rfl ?_; cases h; exact Zh hG [] [(900000, (900000, 1))] rfl rfl (Ze rfl rfl (Ze rfl rfl (Ze rfl rfl (Ze rfl rfl (Ze rfl rfl (Ze rfl rfl trivial)))))) (Zc rfl rfl trivial)
      · intro s20 r2 h hG; refine Zcb 5 rfl ?_; cases h; exact Zh hG [] [(900000, (900000, 1))] rfl rfl (Ze rfl rfl (Ze rfl rfl (Ze rfl rfl (Ze rfl rfl (Ze rfl rfl (Ze rfl rfl trivial)))))) (Zc rfl rfl trivial)
    · refine Zcb 2 rfl ?_; refine headK.e ?_; refine Zob 1 rfl ?_; cases h; exact Zh hG [] [(900000, (900000, 1))] rfl rfl (Ze rfl rfl trivial) (Zc rfl rfl trivial)
  · intro s11 r2 h hG; refine Zcp 2 rfl ?_; refine Zo (.row 900000 1 s11.length) rfl rfl ?_; refine Zo (.row 900000 1 s11.length) rfl rfl ?_; refine Zpb 3 rfl ?_; cases h; cases hG; exact ⟨rfl, rfl, trivial⟩
end Go.Proofs.Ytomfmjejoocmmaa

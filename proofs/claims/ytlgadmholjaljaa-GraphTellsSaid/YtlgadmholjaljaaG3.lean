/-
  Plain programs of functions, and that the functions do what they say. Printed by wip/tools/gen.py.
-/
import Derived.Test.YtlgadmholjaljaaG2
namespace Go.Proofs.Ytlgadmholjaljaa
open Go.RowKit
attribute [local irreducible] IntKind.wrap AW runL Step.wp
set_option linter.unusedVariables false
set_option maxHeartbeats 4000000
set_option maxRecDepth 100000
noncomputable def ref07_Graph_Parents (g_ : linguaref07_Graph) (id_ : Int) : Option ((List Int)) :=
  (ref07_Graph_At g_ id_).bind fun y1 =>
  (bif (decide (y1 < (0 : Int))) then
    some ([] : List Int)
  else
    (getI g_.L y1).bind fun x2 =>
    some x2.Parents)
noncomputable def ref07_Graph_Parents_z (g_ : linguaref07_Graph) (id_ : Int) : Option ((List Int)) :=
  (ref07_Graph_At g_ id_).bind fun y1 =>
  (bif (decide (y1 < (0 : Int))) then
    some ([] : List Int)
  else
    (getI g_.L y1).bind fun x2 =>
    some x2.Parents)
theorem ref07_Graph_Parents_fn {dr : Prop} {g_ : linguaref07_Graph} {id_ : Int} {r : (List Int)} (h : ref07_Graph_Parents g_ id_ = some r) : FnO dr Try.prog 33 [.ib [VF (List.map api_Node.enc g_.L)]] [.lp 1000001 1 0, VI id_] (.hp [VF (List.map (encI .i64) r), .nl]) := by
  refine FnO.of_AW (dr := dr) (F := FnX dr Try.prog) (base := 0) (jl := []) mixed tok noeqs (fun _ _ _ h => h) Try.call33 Try.func33 rfl Try.ntmps33 (by rw [Try.results33]) (by simp) (by simp) ?_; have hG : (fun x => x = r) r := rfl; unfold ref07_Graph_Parents at h; refine Zap 2 rfl ?_; refine Zm (.row 4 1 0) (Mem.add _ 4 (.rows 1 (List.map (encI .i64) ([] : List Int)) false)) rfl rfl ?_; refine Zpp 6 rfl ?_; refine Y1 rfl ?_; refine bindK h fun y1 hy1 h => ?_; refine W.call rfl (Fn.toO (ref07_Graph_At_fn hy1) trivial rfl) ?_; refine Zwc 11 rfl ?_; refine A.condB rfl h (fun _ h => ?_) (fun _ h => ?_)
  · refine Zcp 2 rfl ?_; refine Zm (.row 4 2 0) (Mem.add _ 4 (.rows 1 (List.map (encI .i64) ([] : List Int)) false)) rfl rfl ?_; refine Zpb 4 rfl ?_; cases h; cases hG; exact ⟨[], [], ⟨⟨rfl, trivial⟩, trivial⟩, rfl, rfl, trivial⟩
  · refine Zcp 5 rfl ?_; refine Zo (.lp 1000001 1 0) rfl rfl ?_; refine Zpp 3 rfl ?_; refine Y1 rfl ?_; refine bindK h fun x2 hx2 h => ?_; refine W.chk rfl (elemB hx2) ?_; refine W.elem rfl (elemG hx2) ?_; refine W.chk rfl rfl ?_; refine W.det (.fp [.v (.int .i64 x2.Id), .fz (List.map (encI .i64) x2.Parents)]) _ rfl ?_; refine Zo (.fp [.fz (List.map (encI .i64) x2.Parents)]) rfl rfl ?_; refine Zpb 5 rfl ?_; cases h; cases hG; exact ⟨[], [], ⟨⟨rfl, trivial⟩, trivial⟩, rfl, rfl, trivial⟩
theorem ref07_Graph_Parents_z_fn {dr : Prop} {g_ : linguaref07_Graph} {id_ : Int} {r : (List Int)} (h : ref07_Graph_Parents_z g_ id_ = some r) : Fn dr Try.prog 33 [.fp [.fz (List.map api_Node.enc g_.L)], VI id_] (VF (List.map (encI .i64) r)) := by
  refine Fn.of_AW (dr := dr) (F := FnX dr Try.prog) (base := 0) (js := []) mixed tok noeqs (fun _ _ _ h => h) Try.call33 Try.func33 rfl Try.ntmps33 (by rw [Try.results33]) (by simp) ?_; have hG : (fun x => x = r) r := rfl; unfold ref07_Graph_Parents_z at h; refine Zap 2 rfl ?_; refine Zm (.row 4 1 0) (Mem.add _ 4 (.rows 1 (List.map (encI .i64) ([] : List Int)) false)) rfl rfl ?_; refine Zpp 4 rfl ?_; refine Zo (.fp [.fz (List.map api_Node.enc g_.L)]) rfl rfl ?_; refine Zpp 1 rfl ?_; refine Y1 rfl ?_; refine bindK h fun y1 hy1 h => ?_; refine W.call rfl (Fn.toO (ref07_Graph_At_fn hy1) trivial rfl) ?_; refine Zwc 11 rfl ?_; refine A.condB rfl h (fun _ h => ?_) (fun _ h => ?_)
  · refine Zcp 2 rfl ?_; refine Zm (.row 4 2 0) (Mem.add _ 4 (.rows 1 (List.map (encI .i64) ([] : List Int)) false)) rfl rfl ?_; refine Zpb 4 rfl ?_; cases h; cases hG; exact ⟨rfl, trivial⟩
  · refine Zcp 4 rfl ?_; refine Zo (.fp [.fz (List.map api_Node.enc g_.L)]) rfl rfl ?_; refine Zo (.fp [.fz (List.map api_Node.enc g_.L)]) rfl rfl ?_; refine Zo (.fp [.fz (List.map api_Node.enc g_.L)]) rfl rfl ?_; refine Zpp 2 rfl ?_; refine Y1 rfl ?_; refine bindK h fun x2 hx2 h => ?_; refine W.chk rfl (elemB hx2) ?_; refine W.elem rfl (elemG hx2) ?_; refine W.chk rfl rfl ?_; refine W.det (.fp [.v (.int .i64 x2.Id), .fz (List.map (encI .i64) x2.Parents)]) _ rfl ?_; refine Zo (.fp [.fz (List.map (encI .i64) x2.Parents)]) rfl rfl ?_; refine Zpb 5 rfl ?_; cases h; cases hG; exact ⟨rfl, trivial⟩
noncomputable def ref07_Graph_Down_L1 (s18 : (Int × (List Bool))) (g_ : linguaref07_Graph) (s33 : Int × (List Bool)) : Option ((Int × (List Bool)) ⊕ (((List Bool)) ⊕ ((Int × (List Bool)) ⊕ (((List Bool)) ⊕ ((List Int)))))) :=
  (chkO (decide (0 ≤ s18.1) && decide (s18.1 < ((s33.2.length : Nat) : Int)))).bind fun _ =>
  (getI s33.2 s18.1).bind fun x592 =>
  (bif x592 then
    (getI g_.L s18.1).bind fun x593 =>
    (bif (decide (s33.1 < (x593.Parents.length : Int))) then
      (getI x593.Parents s33.1).bind fun x598 =>
      (ref07_Graph_At g_ x598).bind fun y599 =>
      (chkO (decide (0 ≤ (if y599 < (0 : Int) then (0 : Int) else y599)) && decide ((if y599 < (0 : Int) then (0 : Int) else y599) < ((s33.2.length : Nat) : Int)))).bind fun _ =>
      (getI s33.2 (if y599 < (0 : Int) then (0 : Int) else y599)).bind fun x601 =>
      some (.inl ((IntKind.i64.wrap (s33.1 + (1 : Int))), (List.set s33.2 (if y599 < (0 : Int) then (0 : Int) else y599).toNat true)))
    else
      some (.inr (.inl s33.2)))
  else
    some (.inr (.inl s33.2)))
noncomputable def ref07_Graph_Down_L2 (g_ : linguaref07_Graph) (ids_ : (List Int)) (s18 : Int × (List Bool)) : Option ((Int × (List Bool)) ⊕ (((List Bool)) ⊕ ((List Int)))) :=
  (bif (decide ((0 : Int) ≤ s18.1)) then
    (seqF (A := (List Bool)) (
      (seqF (A := (List Bool)) (
        (getI g_.L s18.1).bind fun x556 =>
        (ref07_Has ids_ x556.Id).bind fun y557 =>
        (bif y557 then
          (chkO (decide (0 ≤ s18.1) && decide (s18.1 < ((s18.2.length : Nat) : Int)))).bind fun _ =>
          (getI s18.2 s18.1).bind fun x559 =>
          some (.inl (List.set s18.2 s18.1.toNat true))
        else
          some (.inl s18.2)))
      fun s32 =>
        loopF (ref07_Graph_Down_L1 s18 g_) ((0 : Int), s32)))
    fun s31 =>
      some (.inl ((IntKind.i64.wrap (s18.1 - (1 : Int))), s31)))
  else
    some (.inr (.inl s18.2)))
noncomputable def ref07_Graph_Down_L3 (g_ : linguaref07_Graph) (s17 : ((List Bool))) (s36 : Int × (List Int)) : Option ((Int × (List Int)) ⊕ (((List Int)) ⊕ ((List Int)))) :=
  (bif (decide (s36.1 < (g_.L.length : Int))) then
    (chkO (decide (0 ≤ s36.1) && decide (s36.1 < ((s17.length : Nat) : Int)))).bind fun _ =>
    (getI s17 s36.1).bind fun x647 =>
    (bif x647 then
      (getI g_.L s36.1).bind fun x648 =>
      (chkO (decide (s36.2.length + [x648.Id].length ≤ 1000000))).bind fun _ =>
      some (.inl ((IntKind.i64.wrap (s36.1 + (1 : Int))), (s36.2 ++ [x648.Id])))
    else
      some (.inl ((IntKind.i64.wrap (s36.1 + (1 : Int))), s36.2)))
  else
    some (.inr (.inl s36.2)))
noncomputable def ref07_Graph_Down (g_ : linguaref07_Graph) (ids_ : (List Int)) : Option ((List Int)) :=
  (chkO (decide (0 ≤ (g_.L.length : Int)) && decide ((g_.L.length : Int) ≤ 1000000))).bind fun _ =>
  (seqF (A := (List Bool)) (
    loopF (ref07_Graph_Down_L2 g_ ids_) ((IntKind.i64.wrap ((g_.L.length : Int) - (1 : Int))), (List.replicate (g_.L.length : Int).toNat false)))
  fun s17 =>
    (seqF (A := (List Int)) (
      loopF (ref07_Graph_Down_L3 g_ s17) ((0 : Int), ([] : List Int)))
    fun s35 =>
      some s35))
theorem ref07_Graph_Down_fn {dr : Prop} {g_ : linguaref07_Graph} {ids_ : (List Int)} {r : (List Int)} (h : ref07_Graph_Down g_ ids_ = some r) : Fn dr Try.prog 39 [.fp [.fz (List.map api_Node.enc g_.L)], VF (List.map (encI .i64) ids_)] (.ow 1 (List.map (encI .i64) r)) := by
  refine Fn.of_AW (dr := dr) (F := FnX dr Try.prog) (base := 0) (js := [4, 7, 12, 18]) mixed tok noeqs (fun _ _ _ h => h) Try.call39 Try.func39 rfl Try.ntmps39 (by rw [Try.results39]) (by simp) ?_; have hG : (fun x => x = r) r := rfl; unfold ref07_Graph_Down at h; refine Zap 2 rfl ?_; refine Zm (.row 4 1 0) (Mem.add _ 4 (.rows 1 (List.map (encI .i64) ([] : List Int)) false)) rfl rfl ?_; refine Zpp 4 rfl ?_; refine Zo (.fp [.fz (List.map api_Node.enc g_.L)]) rfl rfl ?_; refine Zo (.fp [.fz (List.map api_Node.enc g_.L)]) rfl rfl ?_; refine Zo (.fp [.fz (List.map api_Node.enc g_.L)]) rfl rfl ?_; refine Zpp 1 rfl ?_; refine Y1 rfl ?_; refine W.len rfl ?_; refine Y1 rfl ?_; refine chkK h fun g1 h => ?_; refine W.chk rfl (by simpa using g1) ?_; refine W.rows (g_.L.length : Int).toNat (List.replicate (g_.L.length : Int).toNat false).length (List.replicate (g_.L.length : Int).toNat (encB false)) (List.map encB (List.replicate (g_.L.length : Int).toNat false)) rfl List.length_replicate.symm List.map_replicate.symm ?_; refine Zo (.row 16 1 (List.replicate (g_.L.length : Int).toNat false).length) rfl rfl ?_; refine Zpc 2 rfl ?_; refine A.join (fun (s17 : (List Bool)) => [(0, .fp [.fz (List.map api_Node.enc g_.L)]), (5, .row 900000 1 s17.length)]) (fun s17 => [(900000, .rows 1 (List.map encB s17) false)]) _ h hG rfl ?_ ?_
  · intro J f h hG; refine Zap 2 rfl ?_; refine Zo (.fp [.fz (List.map api_Node.enc g_.L)]) rfl rfl ?_; refine Zo (.fp [.fz (List.map api_Node.enc g_.L)]) rfl rfl ?_; refine Zo (.fp [.fz (List.map api_Node.enc g_.L)]) rfl rfl ?_; refine Zpp 1 rfl ?_; refine Y1 rfl ?_; refine W.len rfl ?_; refine Zpc 5 rfl ?_; refine A.loop (fun (s18 : Int × (List Bool)) => [(0, .fp [.fz (List.map api_Node.enc g_.L)]), (1, VF (List.map (encI .i64) ids_)), (5, .row 900000 1 s18.2.length), (6, VI s18.1)]) (fun s18 => [(900000, .rows 1 (List.map encB s18.2) false)]) _ h hG (Zf [] [(900000, (16, 1))] rfl rfl (Ze rfl rfl (Ze rfl rfl (Ze rfl rfl (Ze rfl rfl trivial)))) (Zc rfl rfl trivial)) ?_; intro J s18 f h hG; unfold ref07_Graph_Down_L2 at h; refine Zac 7 rfl ?_; refine A.condB rfl h (fun _ h => ?_) (fun _ h => ?_)
    · refine Zcc 2 rfl ?_; refine A.join (fun (s31 : (List Bool)) => [(0, .fp [.fz (List.map api_Node.enc g_.L)]), (1, VF (List.map (encI .i64) ids_)), (5, .row 900000 1 s31.length), (6, VI s18.1)]) (fun s31 => [(900000, .rows 1 (List.map encB s31) false)]) _ h hG rfl ?_ ?_
      · intro J f h hG; refine Zac 1 rfl ?_; refine A.join (fun (s32 : (List Bool)) => [(0, .fp [.fz (List.map api_Node.enc g_.L)]), (1, VF (List.map (encI .i64) ids_)), (5, .row 900000 1 s32.length), (6, VI s18.1)]) (fun s32 => [(900000, .rows 1 (List.map encB s32) false)]) _ h hG rfl ?_ ?_
        · intro J f h hG; refine Zap 3 rfl ?_; refine Zo (.fp [.fz (List.map api_Node.enc g_.L)]) rfl rfl ?_; refine Zo (.fp [.fz (List.map api_Node.enc g_.L)]) rfl rfl ?_; refine Zo (.fp [.fz (List.map api_Node.enc g_.L)]) rfl rfl ?_; refine Zpp 2 rfl ?_; refine Y1 rfl ?_; refine bindK h fun x556 hx556 h => ?_; refine W.chk rfl (elemB hx556) ?_; refine W.elem rfl (elemG hx556) ?_; refine W.chk rfl rfl ?_; refine W.det (.fp [.v (.int .i64 x556.Id), .fz (List.map (encI .i64) x556.Parents)]) _ rfl ?_; refine Zo (.fp [.v (.int .i64 x556.Id), .fz (List.map (encI .i64) x556.Parents)]) rfl rfl ?_; refine Zpp 1 rfl ?_; refine Y1 rfl ?_; refine bindK h fun y557 hy557 h => ?_; refine W.call rfl (ref07_Has_fn hy557) ?_; refine Zwc 3 rfl ?_; refine A.condB rfl h (fun _ h => ?_) (fun _ h => ?_)
          · refine Zcp 1 rfl ?_; refine Zo (.row 900000 1 s18.2.length) rfl rfl ?_; refine Zpp 1 rfl ?_; refine Y1 rfl ?_; refine chkK h fun g558 h => ?_; refine W.chk rfl (by simpa using g558) ?_; refine W.det (.rp 900000 1 s18.1.toNat 0) _ rfl ?_; refine Y1 rfl ?_; refine bindK h fun x559 hx559 h => ?_; refine W.elem rfl (elemG hx559) ?_; refine W.set true rfl rfl ?_; refine Zpb 1 rfl ?_; cases h; exact Zh hG [] [(900000, (900000, 1))] rfl rfl (Ze rfl rfl (Ze rfl rfl (chkE.c rfl (by simp only [List.length_set]; rfl) (Ze rfl rfl trivial)))) (Zc rfl rfl trivial)
          · refine Zcb 1 rfl ?_; cases h; exact Zh hG [] [(900000, (900000, 1))] rfl rfl (Ze rfl rfl (Ze rfl rfl (Ze rfl rfl (Ze rfl rfl trivial)))) (Zc rfl rfl trivial)
        · intro s32 r2 h hG; refine Zcc 6 rfl ?_; refine A.loop (fun (s33 : Int × (List Bool)) => [(0, .fp [.fz (List.map api_Node.enc g_.L)]), (1, VF (List.map (encI .i64) ids_)), (5, .row 900000 1 s33.2.length), (6, VI s18.1), (7, VI s33.1)]) (fun s33 => [(900000, .rows 1 (List.map encB s33.2) false)]) _ h hG (Zf [] [(900000, (900000, 1))] rfl rfl (Ze rfl rfl (Ze rfl rfl (Ze rfl rfl (Ze rfl rfl (Ze rfl rfl trivial))))) (Zc rfl rfl trivial)) ?_; intro J s33 f h hG; unfold ref07_Graph_Down_L1 at h; refine Zap 3 rfl ?_; refine Zo (.row 900000 1 s33.2.length) rfl rfl ?_; refine Zpp 1 rfl ?_; refine Y1 rfl ?_; refine chkK h fun g591 h => ?_; refine W.chk rfl (by simpa using g591) ?_; refine W.det (.rp 900000 1 s18.1.toNat 0) _ rfl ?_; refine Y1 rfl ?_; refine bindK h fun x592 hx592 h => ?_; refine W.elem rfl (elemG hx592) ?_; refine Zwp 2 rfl ?_; refine YT rfl rfl rfl h (fun _ h => ?_) (fun _ h => ?_)
          · refine Zwp 1 rfl ?_; refine Zu (.fp [.fz (List.map api_Node.enc g_.L)]) rfl rfl rfl rfl ?_; refine Zu (.fp [.fz (List.map api_Node.enc g_.L)]) rfl rfl rfl rfl ?_; refine Zu (.fp [.fz (List.map api_Node.enc g_.L)]) rfl rfl rfl rfl ?_; refine Zpp 2 rfl ?_; refine Y2 rfl rfl rfl ?_; refine bindK h fun x593 hx593 h => ?_; refine W.chk rfl (elemB hx593) ?_; refine W.elem rfl (elemG hx593) ?_; refine W.chk rfl rfl ?_; refine W.det (.fp [.v (.int .i64 x593.Id), .fz (List.map (encI .i64) x593.Parents)]) _ rfl ?_; refine Zu (.fp [.fz (List.map (encI .i64) x593.Parents)]) rfl rfl rfl rfl ?_; refine Zpp 1 rfl ?_; refine Y2 rfl rfl rfl ?_; refine W.len rfl ?_; refine Zpc 4 rfl ?_; refine A.condB rfl h (fun _ h => ?_) (fun _ h => ?_)
            · refine Zcp 6 rfl ?_; refine Zo (.fp [.fz (List.map api_Node.enc g_.L)]) rfl rfl ?_; refine Zo (.fp [.fz (List.map api_Node.enc g_.L)]) rfl rfl ?_; refine Zo (.fp [.fz (List.map api_Node.enc g_.L)]) rfl rfl ?_; refine Zo (.fp [.fz (List.map api_Node.enc g_.L)]) rfl rfl ?_; refine Zpp 2 rfl ?_; refine Y1 rfl ?_; refine W.chk rfl (elemB hx593) ?_; refine W.elem rfl (elemG hx593) ?_; refine W.chk rfl rfl ?_; refine W.det (.fp [.v (.int .i64 x593.Id), .fz (List.map (encI .i64) x593.Parents)]) _ rfl ?_; refine Zo (.fp [.fz (List.map (encI .i64) x593.Parents)]) rfl rfl ?_; refine Zpp 2 rfl ?_; refine Y1 rfl ?_; refine bindK h fun x598 hx598 h => ?_; refine W.chk rfl (elemB hx598) ?_; refine W.elem rfl (elemG hx598) ?_; refine W.chk rfl rfl ?_; refine W.det (.fp [.v (.int .i64 x598)]) _ rfl ?_; refine Zpp 1 rfl ?_; refine Y1 rfl ?_; refine bindK h fun y599 hy599 h => ?_; refine W.call rfl (Fn.toO (ref07_Graph_At_fn hy599) trivial rfl) ?_; refine Zwp 5 rfl ?_; refine Zo (.row 900000 1 s33.2.length) rfl rfl ?_; refine Zpp 2 rfl ?_; refine Y1 rfl ?_; refine chkK h fun g600 h => ?_; refine W.chk rfl (by simpa using g600) ?_; refine W.det (.rp 900000 1 (if y599 < (0 : Int) then (0 : Int) else y599).toNat 0) _ rfl ?_; refine Y1 rfl ?_; refine bindK h fun x601 hx601 h => ?_; refine W.elem rfl (elemG hx601) ?_; refine W.set true rfl rfl ?_; refine Zpb 8 rfl ?_; cases h; exact Zh hG [] [(900000, (900000, 1))] rfl rfl (Ze rfl rfl (Ze rfl rfl (chkE.c rfl (by simp only [List.length_set]; rfl) (Ze rfl rfl (Ze rfl rfl trivial))))) (Zc rfl rfl trivial)
            · refine Zcb 2 rfl ?_; refine headK.e ?_; refine Zob 2 rfl ?_; cases h; exact Zh hG [] [(900000, (900000, 1))] rfl rfl (Ze rfl rfl (Ze rfl rfl (Ze rfl rfl (Ze rfl rfl trivial)))) (Zc rfl rfl trivial)
          · refine Zpb 16 rfl ?_; refine headK.e ?_; refine Zob 2 rfl ?_; cases h; exact Zh hG [] [(900000, (900000, 1))] rfl rfl (Ze rfl rfl (Ze rfl rfl (Ze rfl rfl (Ze rfl rfl trivial)))) (Zc rfl rfl trivial)
      · intro s31 r2 h hG; refine Zcb 5 rfl ?_; cases h; exact Zh hG [] [(900000, (900000, 1))] rfl rfl (Ze rfl rfl (Ze rfl rfl (Ze rfl rfl (Ze rfl rfl trivial)))) (Zc rfl rfl trivial)
    · refine Zcb 2 rfl ?_; refine headK.e ?_; refine Zob 1 rfl ?_; cases h; exact Zh hG [] [(900000, (900000, 1))] rfl rfl (Ze rfl rfl (Ze rfl rfl trivial)) (Zc rfl rfl trivial)
  · intro s17 r2 h hG; refine Zcp 2 rfl ?_; refine Zm (.row 9 2 0) (Mem.add _ 9 (.rows 1 (List.map (encI .i64) ([] : List Int)) false)) rfl rfl ?_; refine Zpc 2 rfl ?_; refine A.join (fun (s35 : (List Int)) => [(9, .row 900000 1 s35.length)]) (fun s35 => [(900000, .rows 1 (List.map (encI .i64) s35) false)]) _ h hG rfl ?_ ?_
    · intro J f h hG; refine Zac 6 rfl ?_; refine A.loop (fun (s36 : Int × (List Int)) => [(0, .fp [.fz (List.map api_Node.enc g_.L)]), (5, .row 900000 1 s17.length), (9, .row 900001 1 s36.2.length), (10, VI s36.1)]) (fun s36 => [(900000, .rows 1 (List.map encB s17) false), (900001, .rows 1 (List.map (encI .i64) s36.2) false)]) _ h hG (Zf [] [(900000, (900000, 1)), (900001, (9, 2))] rfl rfl (Ze rfl rfl (Ze rfl rfl (Ze rfl rfl (Ze rfl rfl trivial)))) (Zc rfl rfl (Zc rfl rfl trivial))) ?_; intro J s36 f h hG; unfold ref07_Graph_Down_L3 at h; refine Zap 4 rfl ?_; refine Zo (.fp [.fz (List.map api_Node.enc g_.L)]) rfl rfl ?_; refine Zo (.fp [.fz (List.map api_Node.enc g_.L)]) rfl rfl ?_; refine Zo (.fp [.fz (List.map api_Node.enc g_.L)]) rfl rfl ?_; refine Zpp 1 rfl ?_; refine Y1 rfl ?_; refine W.len rfl ?_; refine Zpc 3 rfl ?_; refine A.condB rfl h (fun _ h => ?_) (fun _ h => ?_)
      · refine Zcp 6 rfl ?_; refine Zo (.row 900000 1 s17.length) rfl rfl ?_; refine Zpp 1 rfl ?_; refine Y1 rfl ?_; refine chkK h fun g646 h => ?_; refine W.chk rfl (by simpa using g646) ?_; refine W.det (.rp 900000 1 s36.1.toNat 0) _ rfl ?_; refine Y1 rfl ?_; refine bindK h fun x647 hx647 h => ?_; refine W.elem rfl (elemG hx647) ?_; refine Zwc 3 rfl ?_; refine A.condB rfl h (fun _ h => ?_) (fun _ h => ?_)
        · refine Zcp 1 rfl ?_; refine Zo (.row 900001 1 s36.2.length) rfl rfl ?_; refine Zo (.fp [.fz (List.map api_Node.enc g_.L)]) rfl rfl ?_; refine Zo (.fp [.fz (List.map api_Node.enc g_.L)]) rfl rfl ?_; refine Zo (.fp [.fz (List.map api_Node.enc g_.L)]) rfl rfl ?_; refine Zpp 2 rfl ?_; refine Y1 rfl ?_; refine bindK h fun x648 hx648 h => ?_; refine W.chk rfl (elemB hx648) ?_; refine W.elem rfl (elemG hx648) ?_; refine W.chk rfl rfl ?_; refine W.det (.fp [.v (.int .i64 x648.Id), .fz (List.map (encI .i64) x648.Parents)]) _ rfl ?_; refine Zo (.fp [.v (.int .i64 x648.Id), .fz (List.map (encI .i64) x648.Parents)]) rfl rfl ?_; refine Zpp 1 rfl ?_; refine Zm (.row 98 2 1) (Mem.add _ 98 (.rows 1 (List.map (encI .i64) [x648.Id]) false)) rfl rfl ?_; refine Y1 rfl ?_; refine chkK h fun g649 h => ?_; refine W.chk rfl (appChk (fun _ => rfl) g649) ?_; refine W.app rfl rfl ?_; refine Zo (.row 900001 2 (s36.2 ++ [x648.Id]).length) rfl rfl ?_; refine Zpb 8 rfl ?_; cases h; exact Zh hG [] [(900000, (900000, 1)), (900001, (900001, 2))] rfl rfl (Ze rfl rfl (Ze rfl rfl (Ze rfl rfl (Ze rfl rfl trivial)))) (Zc rfl rfl (Zc rfl rfl trivial))
        · refine Zcb 8 rfl ?_; cases h; exact Zh hG [] [(900000, (900000, 1)), (900001, (900001, 1))] rfl rfl (Ze rfl rfl (Ze rfl rfl (Ze rfl rfl (Ze rfl rfl trivial)))) (Zc rfl rfl (Zc rfl rfl trivial))
      · refine Zcb 2 rfl ?_; refine headK.e ?_; refine Zob 1 rfl ?_; cases h; exact Zh hG [] [(900000, (900001, 1))] rfl rfl (Ze rfl rfl trivial) (Zc rfl rfl trivial)
    · intro s35 r2 h hG; refine Zcp 2 rfl ?_; refine Zo (.row 900000 1 s35.length) rfl rfl ?_; refine Zo (.row 900000 1 s35.length) rfl rfl ?_; refine Zpb 3 rfl ?_; cases h; cases hG; exact ⟨rfl, rfl, trivial⟩
noncomputable def ref07_Graph_Past (g_ : linguaref07_Graph) (id_ : Int) : Option ((List Int)) :=
  (ref07_Graph_Parents_z g_ id_).bind fun y1 =>
  (ref07_Graph_Down g_ y1).bind fun y2 =>
  some y2
theorem ref07_Graph_Past_fn {dr : Prop} {g_ : linguaref07_Graph} {id_ : Int} {r : (List Int)} (h : ref07_Graph_Past g_ id_ = some r) : Fn dr Try.prog 34 [.fp [.fz (List.map api_Node.enc g_.L)], VI id_] (.ow 1 (List.map (encI .i64) r)) := by
  refine Fn.of_AW (dr := dr) (F := FnX dr Try.prog) (base := 0) (js := []) mixed tok noeqs (fun _ _ _ h => h) Try.call34 Try.func34 rfl Try.ntmps34 (by rw [Try.results34]) (by simp) ?_; have hG : (fun x => x = r) r := rfl; unfold ref07_Graph_Past at h; refine Zap 2 rfl ?_; refine Zm (.row 4 1 0) (Mem.add _ 4 (.rows 1 (List.map (encI .i64) ([] : List Int)) false)) rfl rfl ?_; refine Zpp 4 rfl ?_; refine Zo (.fp [.fz (List.map api_Node.enc g_.L)]) rfl rfl ?_; refine Zo (.fp [.fz (List.map api_Node.enc g_.L)]) rfl rfl ?_; refine Zpp 1 rfl ?_; refine Y1 rfl ?_; refine bindK h fun y1 hy1 h => ?_; refine W.call rfl (Fn.toO0 (ref07_Graph_Parents_z_fn hy1) rfl rfl) ?_; refine Zwp 1 rfl ?_; refine Y1 rfl ?_; refine bindK h fun y2 hy2 h => ?_; refine W.call rfl (Fn.toO (ref07_Graph_Down_fn hy2) (PlainR.ints _) rfl) ?_; refine W.v (.row 9 1 (List.map (encI .i64) y2).length) (.row 9 1 y2.length) (Mem.add _ 9 (.rows 1 (List.map (encI .i64) y2) false)) rfl (by simp only [List.length_map]) ?_; refine Zo (.row 9 1 y2.length) rfl rfl ?_; refine Zpb 3 rfl ?_; cases h; cases hG; exact ⟨rfl, rfl, trivial⟩
noncomputable def ref07_Graph_Before (g_ : linguaref07_Graph) (a_ : Int) (b_ : Int) : Option (Bool) :=
  (ref07_Graph_Past g_ b_).bind fun y1 =>
  (ref07_Has y1 a_).bind fun y2 =>
  some y2
theorem ref07_Graph_Before_fn {dr : Prop} {g_ : linguaref07_Graph} {a_ : Int} {b_ : Int} {r : Bool} (h : ref07_Graph_Before g_ a_ b_ = some r) : Fn dr Try.prog 32 [.fp [.fz (List.map api_Node.enc g_.L)], VI a_, VI b_] (VB r) := by
  refine Fn.of_AW (dr := dr) (F := FnX dr Try.prog) (base := 0) (js := []) mixed tok noeqs (fun _ _ _ h => h) Try.call32 Try.func32 rfl Try.ntmps32 (by rw [Try.results32]) (by simp) ?_; have hG : (fun x => x = r) r := rfl; unfold ref07_Graph_Before at h; refine Zap 7 rfl ?_; refine Zo (.fp [.fz (List.map api_Node.enc g_.L)]) rfl rfl ?_; refine Zpp 1 rfl ?_; refine Y1 rfl ?_; refine bindK h fun y1 hy1 h => ?_; refine W.call rfl (Fn.toO (ref07_Graph_Past_fn hy1) (PlainR.ints _) rfl) ?_; refine W.v (.row 9 1 (List.map (encI .i64) y1).length) (.row 9 1 y1.length) (Mem.add _ 9 (.rows 1 (List.map (encI .i64) y1) false)) rfl (by simp only [List.length_map]) ?_; refine Zpp 1 rfl ?_; refine Y1 rfl ?_; refine bindK h fun y2 hy2 h => ?_; refine W.call rfl (ref07_Has_fn hy2) ?_; refine Zwb 5 rfl ?_; cases h; cases hG; exact ⟨rfl, trivial⟩
noncomputable def ref07_Graph_Heads_L1 (g_ : linguaref07_Graph) (s24 : (Int × (List Int))) (s45 : Bool × Int) : Option ((Bool × Int) ⊕ ((Bool) ⊕ (((List Int)) ⊕ ((Int × (List Int)) ⊕ (((List Int)) ⊕ ((List Int))))))) :=
  (bif (decide (s45.2 < (g_.L.length : Int))) then
    (bif s45.1 then
      (getI g_.L s45.2).bind fun x436 =>
      (getI g_.L s24.1).bind fun x437 =>
      (ref07_Has x436.Parents x437.Id).bind fun y438 =>
      some (.inl ((!y438), (IntKind.i64.wrap (s45.2 + (1 : Int)))))
    else
      some (.inl (false, (IntKind.i64.wrap (s45.2 + (1 : Int))))))
  else
    some (.inr (.inl s45.1)))
noncomputable def ref07_Graph_Heads_L2 (g_ : linguaref07_Graph) (s24 : Int × (List Int)) : Option ((Int × (List Int)) ⊕ (((List Int)) ⊕ ((List Int)))) :=
  (bif (decide (s24.1 < (g_.L.length : Int))) then
    (seqF (A := (List Int)) (
      (seqF (A := Bool) (
        loopF (ref07_Graph_Heads_L1 g_ s24) (true, (0 : Int)))
      fun s44 =>
        (bif s44 then
          (getI g_.L s24.1).bind fun x439 =>
          (chkO (decide (s24.2.length + [x439.Id].length ≤ 1000000))).bind fun _ =>
          some (.inl (s24.2 ++ [x439.Id]))
        else
          some (.inl s24.2))))
    fun s42 =>
      some (.inl ((IntKind.i64.wrap (s24.1 + (1 : Int))), s42)))
  else
    some (.inr (.inl s24.2)))
noncomputable def ref07_Graph_Heads (g_ : linguaref07_Graph) : Option ((List Int)) :=
  (seqF (A := (List Int)) (
    loopF (ref07_Graph_Heads_L2 g_) ((0 : Int), ([] : List Int)))
  fun s23 =>
    some s23)
theorem ref07_Graph_Heads_fn {dr : Prop} {g_ : linguaref07_Graph} {r : (List Int)} (h : ref07_Graph_Heads g_ = some r) : Fn dr Try.prog 35 [.fp [.fz (List.map api_Node.enc g_.L)]] (.ow 1 (List.map (encI .i64) r)) := by
  refine Fn.of_AW (dr := dr) (F := FnX dr Try.prog) (base := 0) (js := [4, 10, 12]) mixed tok noeqs (fun _ _ _ h => h) Try.call35 Try.func35 rfl Try.ntmps35 (by rw [Try.results35]) (by simp) ?_; have hG : (fun x => x = r) r := rfl; unfold ref07_Graph_Heads at h; refine Zap 2 rfl ?_; refine Zm (.row 2 1 0) (Mem.add _ 2 (.rows 1 (List.map (encI .i64) ([] : List Int)) false)) rfl rfl ?_; refine Zpp 4 rfl ?_; refine Zm (.row 3 1 0) (Mem.add _ 3 (.rows 1 (List.map (encI .i64) ([] : List Int)) false)) rfl rfl ?_; refine Zpc 2 rfl ?_; refine A.join (fun (s23 : (List Int)) => [(3, .row 900000 1 s23.length)]) (fun s23 => [(900000, .rows 1 (List.map (encI .i64) s23) false)]) _ h hG rfl ?_ ?_
  · intro J f h hG; refine Zac 6 rfl ?_; refine A.loop (fun (s24 : Int × (List Int)) => [(0, .fp [.fz (List.map api_Node.enc g_.L)]), (3, .row 900000 1 s24.2.length), (4, VI s24.1)]) (fun s24 => [(900000, .rows 1 (List.map (encI .i64) s24.2) false)]) _ h hG (Zf [] [(900000, (3, 1))] rfl rfl (Ze rfl rfl (Ze rfl rfl (Ze rfl rfl trivial))) (Zc rfl rfl trivial)) ?_; intro J s24 f h hG; unfold ref07_Graph_Heads_L2 at h; refine Zap 4 rfl ?_; refine Zo (.fp [.fz (List.map api_Node.enc g_.L)]) rfl rfl ?_; refine Zo (.fp [.fz (List.map api_Node.enc g_.L)]) rfl rfl ?_; refine Zo (.fp [.fz (List.map api_Node.enc g_.L)]) rfl rfl ?_; refine Zpp 1 rfl ?_; refine Y1 rfl ?_; refine W.len rfl ?_; refine Zpc 3 rfl ?_; refine A.condB rfl h (fun _ h => ?_) (fun _ h => ?_)
    · refine Zcc 2 rfl ?_; refine A.join (fun (s42 : (List Int)) => [(0, .fp [.fz (List.map api_Node.enc g_.L)]), (3, .row 900000 1 s42.length), (4, VI s24.1)]) (fun s42 => [(900000, .rows 1 (List.map (encI .i64) s42) false)]) _ h hG rfl ?_ ?_
      · intro J f h hG; refine Zac 6 rfl ?_; refine A.join (fun (s44 : Bool) => [(0, .fp [.fz (List.map api_Node.enc g_.L)]), (3, .row 900000 1 s24.2.length), (4, VI s24.1), (5, VB s44)]) (fun s44 => [(900000, .rows 1 (List.map (encI .i64) s24.2) false)]) _ h hG rfl ?_ ?_
        · intro J f h hG; refine Zac 6 rfl ?_; refine A.loop (fun (s45 : Bool × Int) => [(0, .fp [.fz (List.map api_Node.enc g_.L)]), (3, .row 900000 1 s24.2.length), (4, VI s24.1), (5, VB s45.1), (6, VI s45.2)]) (fun s45 => [(900000, .rows 1 (List.map (encI .i64) s24.2) false)]) _ h hG (Zf [] [(900000, (900000, 1))] rfl rfl (Ze rfl rfl (Ze rfl rfl (Ze rfl rfl (Ze rfl rfl (Ze rfl rfl trivial))))) (Zc rfl rfl trivial)) ?_; intro J s45 f h hG; unfold ref07_Graph_Heads_L1 at h; refine Zap 4 rfl ?_; refine Zo (.fp [.fz (List.map api_Node.enc g_.L)]) rfl rfl ?_; refine Zo (.fp [.fz (List.map api_Node.enc g_.L)]) rfl rfl ?_; refine Zo (.fp [.fz (List.map api_Node.enc g_.L)]) rfl rfl ?_; refine Zpp 1 rfl ?_; refine Y1 rfl ?_; refine W.len rfl ?_; refine Zpc 3 rfl ?_; refine A.condB rfl h (fun _ h => ?_) (fun _ h => ?_)
          · refine Zcc 4 rfl ?_; refine A.regionD (by kernel_rfl) ?_; refine Zpp 2 rfl ?_; refine YT rfl rfl rfl h (fun _ h => ?_) (fun _ h => ?_)
            · refine W.det (.fp [.fz (List.map api_Node.enc g_.L)]) _ rfl ?_; refine Zu (.fp [.fz (List.map api_Node.enc g_.L)]) rfl rfl rfl rfl ?_; refine Zu (.fp [.fz (List.map api_Node.enc g_.L)]) rfl rfl rfl rfl ?_; refine Zpp 2 rfl ?_; refine Y2 rfl rfl rfl ?_; refine bindK h fun x436 hx436 h => ?_; refine W.chk rfl (elemB hx436) ?_; refine W.elem rfl (elemG hx436) ?_; refine W.chk rfl rfl ?_; refine W.det (.fp [.v (.int .i64 x436.Id), .fz (List.map (encI .i64) x436.Parents)]) _ rfl ?_; refine Zu (.fp [.fz (List.map (encI .i64) x436.Parents)]) rfl rfl rfl rfl ?_; refine Zpp 1 rfl ?_; refine Zu (.fp [.fz (List.map api_Node.enc g_.L)]) rfl rfl rfl rfl ?_; refine Zu (.fp [.fz (List.map api_Node.enc g_.L)]) rfl rfl rfl rfl ?_; refine Zu (.fp [.fz (List.map api_Node.enc g_.L)]) rfl rfl rfl rfl ?_; refine Zpp 2 rfl ?_; refine Y2 rfl rfl rfl ?_; refine bindK h fun x437 hx437 h => ?_; refine W.chk rfl (elemB hx437) ?_; refine W.elem rfl (elemG hx437) ?_; refine W.chk rfl rfl ?_; refine W.det (.fp [.v (.int .i64 x437.Id), .fz (List.map (encI .i64) x437.Parents)]) _ rfl ?_; refine Zu (.fp [.v (.int .i64 x437.Id), .fz (List.map (encI .i64) x437.Parents)]) rfl rfl rfl rfl ?_; refine Zpp 1 rfl ?_; refine Y2 rfl rfl rfl ?_; refine bindK h fun y438 hy438 h => ?_; refine W.call rfl (ref07_Has_fn hy438) ?_; refine Zwb 12 rfl ?_; cases h; exact Zh hG [] [(900000, (900000, 1))] rfl rfl (Ze rfl rfl (Ze rfl rfl (Ze rfl rfl (Ze rfl rfl (Ze rfl rfl trivial))))) (Zc rfl rfl trivial)
            · refine Zpb 27 rfl ?_; cases h; exact Zh hG [] [(900000, (900000, 1))] rfl rfl (Ze rfl rfl (Ze rfl rfl (Ze rfl rfl (Ze rfl rfl (Ze rfl rfl trivial))))) (Zc rfl rfl trivial)
          · refine Zcb 2 rfl ?_; refine headK.e ?_; refine Zob 1 rfl ?_; cases h; exact Zh hG [] [(900000, (900000, 1))] rfl rfl (Ze rfl rfl (Ze rfl rfl (Ze rfl rfl (Ze rfl rfl trivial)))) (Zc rfl rfl trivial)
        · intro s44 r2 h hG; refine Zcc 5 rfl ?_; refine A.condB rfl h (fun _ h => ?_) (fun _ h => ?_)
          · refine Zcp 1 rfl ?_; refine Zo (.row 900000 1 s24.2.length) rfl rfl ?_; refine Zo (.fp [.fz (List.map api_Node.enc g_.L)]) rfl rfl ?_; refine Zo (.fp [.fz (List.map api_Node.enc g_.L)]) rfl rfl ?_; refine Zo (.fp [.fz (List.map api_Node.enc g_.L)]) rfl rfl ?_; refine Zpp 2 rfl ?_; refine Y1 rfl ?_; refine bindK h fun x439 hx439 h => ?_; refine W.chk rfl (elemB hx439) ?_; refine W.elem rfl (elemG hx439) ?_; refine W.chk rfl rfl ?_; refine W.det (.fp [.v (.int .i64 x439.Id), .fz (List.map (encI .i64) x439.Parents)]) _ rfl ?_; refine Zo (.fp [.v (.int .i64 x439.Id), .fz (List.map (encI .i64) x439.Parents)]) rfl rfl ?_; refine Zpp 1 rfl ?_; refine Zm (.row 56 2 1) (Mem.add _ 56 (.rows 1 (List.map (encI .i64) [x439.Id]) false)) rfl rfl ?_; refine Y1 rfl ?_; refine chkK h fun g440 h => ?_; refine W.chk rfl (appChk (fun _ => rfl) g440) ?_; refine W.app rfl rfl ?_; refine Zo (.row 900000 2 (s24.2 ++ [x439.Id]).length) rfl rfl ?_; refine Zpb 2 rfl ?_; cases h; exact Zh hG [] [(900000, (900000, 2))] rfl rfl (Ze rfl rfl (Ze rfl rfl (Ze rfl rfl trivial))) (Zc rfl rfl trivial)
          · refine Zcb 2 rfl ?_; cases h; exact Zh hG [] [(900000, (900000, 1))] rfl rfl (Ze rfl rfl (Ze rfl rfl (Ze rfl rfl trivial))) (Zc rfl rfl trivial)
      · intro s42 r2 h hG; refine Zcb 5 rfl ?_; cases h; exact Zh hG [] [(900000, (900000, 1))] rfl rfl (Ze rfl rfl (Ze rfl rfl (Ze rfl rfl trivial))) (Zc rfl rfl trivial)
    · refine Zcb 2 rfl ?_; refine headK.e ?_; refine Zob 1 rfl ?_; cases h; exact Zh hG [] [(900000, (900000, 1))] rfl rfl (Ze rfl rfl trivial) (Zc rfl rfl trivial)
  · intro s23 r2 h hG; refine Zcp 2 rfl ?_; refine Zo (.row 900000 1 s23.length) rfl rfl ?_; refine Zo (.row 900000 1 s23.length) rfl rfl ?_; refine Zpb 3 rfl ?_; cases h; cases hG; exact ⟨rfl, rfl, trivial⟩
noncomputable def graph_Graph_Restrict_L1 (y15 : (List Int)) (g_ : graph_Graph) (s3 : Int × (List (Int × graph_entry))) : Option ((Int × (List (Int × graph_entry))) ⊕ (((List (Int × graph_entry))) ⊕ (graph_Graph))) :=
  (bif (decide (s3.1 < ((y15.length : Nat) : Int))) then
    (chkO (decide (0 ≤ s3.1) && decide (s3.1 < ((y15.length : Nat) : Int)))).bind fun _ =>
    (getI y15 s3.1).bind fun x27 =>
    some (.inl ((IntKind.i64.wrap (s3.1 + (1 : Int))), (mputT x27 (graph_entry.mk (mgetT x27 g_.nodes (graph_entry.mk ([] : List Int) (0 : Int))).parents (mgetT x27 g_.nodes (graph_entry.mk ([] : List Int) (0 : Int))).level) s3.2)))
  else
    some (.inr (.inl s3.2)))
noncomputable def graph_Graph_Restrict (g_ : graph_Graph) (ids_ : (List Int)) : Option (graph_Graph) :=
  (graph_New).bind fun y1 =>
  (seqF (A := (List (Int × graph_entry))) (
    (graph_Graph_Down g_ ids_).bind fun y15 =>
    loopF (graph_Graph_Restrict_L1 y15 g_) ((0 : Int), y1.nodes))
  fun s2 =>
    some (graph_Graph.mk s2))
theorem graph_Graph_Restrict_fn {g_ : graph_Graph} {ids_ : (List Int)} {r : graph_Graph} (h : graph_Graph_Restrict g_ ids_ = some r) : FnO False Try.prog 36 [.ib [.mp 1000002 1], .im (.i .i64) (mapE (Value.int .i64) (fun x => D.ag (graph_entry.enc x)) g_.nodes)] [.lp 1000001 1 0, VF (List.map (encI .i64) ids_)] (.hp [.lp 1000004 1 0, .nl, .nl, .im (.i .i64) (mapE (Value.int .i64) (fun x => D.ag (graph_entry.enc x)) r.nodes), .ib [.mp 1000003 1]]) := by
  refine FnO.of_AW (dr := False) (F := FnX False Try.prog) (base := 0) (jl := [7]) mixed tok noeqs (fun _ _ _ h => h) Try.call36 Try.func36 rfl Try.ntmps36 (by rw [Try.results36]) (by simp) (by simp) ?_; have hG : (fun x => x = r) r := rfl; unfold graph_Graph_Restrict at h; refine Zap 2 rfl ?_; refine Zo (.d (.v (.pointer none))) rfl rfl ?_; refine Zpp 4 rfl ?_; refine Y1 rfl ?_; refine bindK h fun y1 hy1 h => ?_; refine W.call rfl (graph_New_fn hy1) ?_; refine W.det (.lp 536870920 1 0) (Mem.add (Mem.add _ 268435464 (.mapi (.i .i64) (mapE (Value.int .i64) (fun x => D.ag (graph_entry.enc x)) y1.nodes))) 536870920 (.box [.mp 268435464 1])) rfl ?_; refine Zpc 3 rfl ?_; refine A.join (fun (s2 : (List (Int × graph_entry))) => [(5, .lp 900000 1 0)]) (fun s2 => [(900000, .box [.mp 900003 1]), (1000001, .box [.mp 1000002 1]), (1000002, .mapi (.i .i64) (mapE (Value.int .i64) (fun x => D.ag (graph_entry.enc x)) g_.nodes)), (900003, .mapi (.i .i64) (mapE (Value.int .i64) (fun x => D.ag (graph_entry.enc x)) s2))]) _ h hG rfl ?_ ?_
  · intro J f h hG; refine Zap 4 rfl ?_; refine Y1 rfl ?_; refine bindK h fun y15 hy15 h => ?_; refine W.call rfl (Fn.toO (graph_Graph_Down_fn hy15) (PlainR.ints _) rfl) ?_; refine W.v (.row 11 1 (List.map (encI .i64) y15).length) (.row 11 1 y15.length) (Mem.add _ 11 (.rows 1 (List.map (encI .i64) y15) false)) rfl (by simp only [List.length_map]) ?_; refine Zpc 5 rfl ?_; refine A.loop (fun (s3 : Int × (List (Int × graph_entry))) => [(0, .lp 1000001 1 0), (5, .lp 900001 1 0), (11, .row 900002 1 y15.length), (12, VI ((y15.length : Nat) : Int)), (13, VI s3.1)]) (fun s3 => [(1000001, .box [.mp 1000002 1]), (900001, .box [.mp 900004 1]), (900002, .rows 1 (List.map (encI .i64) y15) false), (1000002, .mapi (.i .i64) (mapE (Value.int .i64) (fun x => D.ag (graph_entry.enc x)) g_.nodes)), (900004, .mapi (.i .i64) (mapE (Value.int .i64) (fun x => D.ag (graph_entry.enc x)) s3.2))]) _ h hG (Zf [] [(900001, (536870920, 1)), (900002, (11, 1)), (900004, (268435464, 1))] rfl rfl (Ze rfl rfl (Ze rfl rfl (Ze rfl rfl (Ze rfl rfl (Ze rfl rfl trivial))))) (Zc rfl rfl (Zc rfl rfl (Zc rfl rfl (Zc rfl rfl (Zc rfl rfl trivial)))))) ?_; intro J s3 f h hG; unfold graph_Graph_Restrict_L1 at h; refine Zac 6 rfl ?_; refine A.condB rfl h (fun _ h => ?_) (fun _ h => ?_)
    · refine Zcp 6 rfl ?_; refine Y1 rfl ?_; refine chkK h fun g26 h => ?_; refine W.chk rfl (by simpa using g26) ?_; refine W.det (.rp 900002 1 s3.1.toNat 0) _ rfl ?_; refine Y1 rfl ?_; refine bindK h fun x27 hx27 h => ?_; refine W.elem rfl (elemG hx27) ?_; refine Zwc 4 rfl ?_; refine A.regionD (by kernel_rfl) ?_; refine Zpp 1 rfl ?_; refine Zo (.lp 900001 1 0) rfl rfl ?_; refine Zpp 1 rfl ?_; refine Zo (.mp 900004 1) rfl rfl ?_; refine Zpp 2 rfl ?_; refine Zo (.lp 1000001 1 0) rfl rfl ?_; refine Zpp 1 rfl ?_; refine Zo (.mp 1000002 1) rfl rfl ?_; refine Zpp 1 rfl ?_; refine Y1 rfl ?_; refine W.look (Value.int .i64) (fun x => D.ag (graph_entry.enc x)) x27 g_.nodes (graph_entry.mk ([] : List Int) (0 : Int)) (fun _ _ => rfl) rfl ?_; refine Y1 rfl ?_; refine W.mput (Value.int .i64) (fun x => D.ag (graph_entry.enc x)) x27 (graph_entry.mk (mgetT x27 g_.nodes (graph_entry.mk ([] : List Int) (0 : Int))).parents (mgetT x27 g_.nodes (graph_entry.mk ([] : List Int) (0 : Int))).level) s3.2 (fun _ _ => rfl) rfl ?_; refine Zpb 7 rfl ?_; cases h; exact Zh hG [] [(900001, (900001, 1)), (900002, (900002, 1)), (900004, (900004, 1))] rfl rfl (Ze rfl rfl (Ze rfl rfl (Ze rfl rfl (Ze rfl rfl (Ze rfl rfl trivial))))) (Zc rfl rfl (Zc rfl rfl (Zc rfl rfl (Zc rfl rfl (Zc rfl rfl trivial)))))
    · refine Zcb 2 rfl ?_; refine headK.e ?_; refine Zob 1 rfl ?_; cases h; exact Zh hG [] [(900000, (900001, 1)), (900003, (900004, 1))] rfl rfl (Ze rfl rfl trivial) (Zc rfl rfl (Zc rfl rfl (Zc rfl rfl (Zc rfl rfl trivial))))
  · intro s2 r2 h hG; refine Zcb 7 rfl ?_; cases h; cases hG; exact ⟨[], [(900003, 1), (900000, 1)], ⟨⟨rfl, trivial⟩, ⟨rfl, rfl⟩, ⟨rfl, rfl⟩, ⟨rfl, trivial⟩, trivial⟩, rfl, rfl⟩
noncomputable def ref07_Graph_Restrict_L1 (g_ : linguaref07_Graph) (y1 : (List Int)) (s3 : Int × (List api_Node)) : Option ((Int × (List api_Node)) ⊕ (((List api_Node)) ⊕ (linguaref07_Graph))) :=
  (bif (decide (s3.1 < (g_.L.length : Int))) then
    (getI g_.L s3.1).bind fun x35 =>
    (ref07_Has y1 x35.Id).bind fun y36 =>
    (bif y36 then
      (chkO (decide (s3.2.length + [x35].length ≤ 1000000))).bind fun _ =>
      some (.inl ((IntKind.i64.wrap (s3.1 + (1 : Int))), (s3.2 ++ [x35])))
    else
      some (.inl ((IntKind.i64.wrap (s3.1 + (1 : Int))), s3.2)))
  else
    some (.inr (.inl s3.2)))
noncomputable def ref07_Graph_Restrict (g_ : linguaref07_Graph) (ids_ : (List Int)) : Option (linguaref07_Graph) :=
  (ref07_Graph_Down g_ ids_).bind fun y1 =>
  (seqF (A := (List api_Node)) (
    loopF (ref07_Graph_Restrict_L1 g_ y1) ((0 : Int), ([] : List api_Node)))
  fun s2 =>
    some (linguaref07_Graph.mk s2))
theorem ref07_Graph_Restrict_fn {dr : Prop} {g_ : linguaref07_Graph} {ids_ : (List Int)} {r : linguaref07_Graph} (h : ref07_Graph_Restrict g_ ids_ = some r) : FnO dr Try.prog 37 [.ib [VF (List.map api_Node.enc g_.L)]] [.lp 1000001 1 0, VF (List.map (encI .i64) ids_)] (.hp [.lp 1000002 1 0, .nl, .ib [VF (List.map api_Node.enc r.L)]]) := by
  refine FnO.of_AW (dr := dr) (F := FnX dr Try.prog) (base := 0) (jl := [8]) mixed tok noeqs (fun _ _ _ h => h) Try.call37 Try.func37 rfl Try.ntmps37 (by rw [Try.results37]) (by simp) (by simp) ?_; have hG : (fun x => x = r) r := rfl; unfold ref07_Graph_Restrict at h; refine Zap 2 rfl ?_; refine Zo (.d (.v (.pointer none))) rfl rfl ?_; refine Zpp 6 rfl ?_; refine Y1 rfl ?_; refine bindK h fun y1 hy1 h => ?_; refine W.call rfl (Fn.toO (ref07_Graph_Down_fn hy1) (PlainR.ints _) rfl) ?_; refine W.v (.row 10 1 (List.map (encI .i64) y1).length) (.row 10 1 y1.length) (Mem.add _ 10 (.rows 1 (List.map (encI .i64) y1) false)) rfl (by simp only [List.length_map]) ?_; refine Zo (.row 10 1 y1.length) rfl rfl ?_; refine Zpp 4 rfl ?_; refine Zo (.agg [.nl]) rfl rfl ?_; refine Zm (.lp 12 1 0) (Mem.add (Mem.add _ 65548 (.rows 2 (List.map api_Node.enc ([] : List api_Node)) false)) 12 (.box [.row 65548 1 0])) rfl rfl ?_; refine Zpc 3 rfl ?_; refine A.join (fun (s2 : (List api_Node)) => [(6, .lp 900000 1 0)]) (fun s2 => [(900000, .box [.row 900002 1 s2.length]), (1000001, .box [VF (List.map api_Node.enc g_.L)]), (900002, .rows 2 (List.map api_Node.enc s2) false)]) _ h hG rfl ?_ ?_
  · intro J f h hG; refine Zac 6 rfl ?_; refine A.loop (fun (s3 : Int × (List api_Node)) => [(0, .lp 1000001 1 0), (5, .row 900001 1 y1.length), (6, .lp 900002 1 0), (7, VI s3.1)]) (fun s3 => [(1000001, .box [VF (List.map api_Node.enc g_.L)]), (900001, .rows 1 (List.map (encI .i64) y1) false), (900002, .box [.row 900003 1 s3.2.length]), (900003, .rows 2 (List.map api_Node.enc s3.2) false)]) _ h hG (Zf [] [(900001, (10, 1)), (900002, (12, 1)), (900003, (65548, 1))] rfl rfl (Ze rfl rfl (Ze rfl rfl (Ze rfl rfl (Ze rfl rfl trivial)))) (Zc rfl rfl (Zc rfl rfl (Zc rfl rfl (Zc rfl rfl trivial))))) ?_; intro J s3 f h hG; unfold ref07_Graph_Restrict_L1 at h; refine Zap 5 rfl ?_; refine Zo (.lp 1000001 1 0) rfl rfl ?_; refine Zpp 2 rfl ?_; refine Y1 rfl ?_; refine W.len rfl ?_; refine Zpc 3 rfl ?_; refine A.condB rfl h (fun _ h => ?_) (fun _ h => ?_)
    · refine Zcp 6 rfl ?_; refine Zo (.row 900001 1 y1.length) rfl rfl ?_; refine Zpp 1 rfl ?_; refine Zo (.lp 1000001 1 0) rfl rfl ?_; refine Zpp 3 rfl ?_; refine Y1 rfl ?_; refine bindK h fun x35 hx35 h => ?_; refine W.chk rfl (elemB hx35) ?_; refine W.elem rfl (elemG hx35) ?_; refine W.chk rfl rfl ?_; refine W.det (.fp [.v (.int .i64 x35.Id), .fz (List.map (encI .i64) x35.Parents)]) _ rfl ?_; refine Zo (.fp [.v (.int .i64 x35.Id), .fz (List.map (encI .i64) x35.Parents)]) rfl rfl ?_; refine Zpp 1 rfl ?_; refine Y1 rfl ?_; refine bindK h fun y36 hy36 h => ?_; refine W.call rfl (ref07_Has_fn hy36) ?_; refine Zwc 3 rfl ?_; refine A.condB rfl h (fun _ h => ?_) (fun _ h => ?_)
      · refine A.regionC [1, 2, 3, 4, 5, 6, 7, 8, 9, 10, 11, 12, 13, 0, 14, 15, 16] (by kernel_rfl) ?_; refine R.at_ rfl rfl ?_; refine Zo (.lp 900002 1 0) rfl rfl ?_; refine R.nil ?_; refine R.at_ rfl rfl ?_; refine Zo (.lp 900002 1 0) rfl rfl ?_; refine R.nil ?_; refine R.at_ rfl rfl ?_; refine Zo (.lp 900002 1 0) rfl rfl ?_; refine R.nil ?_; refine R.at_ rfl rfl ?_; refine Zo (.row 900003 1 s3.2.length) rfl rfl ?_; refine R.nil ?_; refine R.at_ rfl rfl ?_; refine Zo (.lp 1000001 1 0) rfl rfl ?_; refine R.nil ?_; refine R.at_ rfl rfl ?_; refine Zo (.lp 1000001 1 0) rfl rfl ?_; refine R.nil ?_; refine R.at_ rfl rfl ?_; refine Zo (.lp 1000001 1 0) rfl rfl ?_; refine R.nil ?_; refine R.at_ rfl rfl ?_; refine Zo (VF (List.map api_Node.enc g_.L)) rfl rfl ?_; refine R.nil ?_; refine R.at_ rfl rfl ?_; refine Zo (VI s3.1) rfl rfl ?_; refine R.nil ?_; refine R.at_ rfl rfl ?_; refine Y1 rfl ?_; refine W.chk rfl (elemB hx35) ?_; refine W.elem rfl (elemG hx35) ?_; refine W.chk rfl rfl ?_; refine W.det (.fp [.v (.int .i64 x35.Id), .fz (List.map (encI .i64) x35.Parents)]) _ rfl ?_; refine R.nil ?_; refine R.at_ rfl rfl ?_; refine Zo (.agg (api_Node.av x35)) rfl rfl ?_; refine R.nil ?_; refine R.at_ rfl rfl ?_; refine Zm (.row 44 2 1) (Mem.add _ 44 (.rows 2 (List.map api_Node.enc [x35]) false)) rfl rfl ?_; refine R.nil ?_; refine R.at_ rfl rfl ?_; refine Y1 rfl ?_; refine chkK h fun g37 h => ?_; refine W.chk rfl (appChk (fun _ => rfl) g37) ?_; refine W.app rfl rfl ?_; refine R.nil ?_; refine R.at_ rfl rfl ?_; refine Zo (.lp 900002 1 0) rfl rfl ?_; refine R.nil ?_; refine R.at_ rfl rfl ?_; refine Zo (.lp 900002 1 0) rfl rfl ?_; refine R.nil ?_; refine R.at_ rfl rfl ?_; refine Zo (.lp 900002 1 0) rfl rfl ?_; refine R.nil ?_; refine R.at_ rfl rfl ?_; refine Zm (.tup []) (Mem.set _ 900002 1 (some (.box [.row 900003 2 (s3.2 ++ [x35]).length]))) rfl rfl ?_; refine R.nil ?_; refine R.end_ ?_; refine Zob 7 rfl ?_; cases h; exact Zh hG [] [(900001, (900001, 1)), (900002, (900002, 1)), (900003, (900003, 2))] rfl rfl (Ze rfl rfl (Ze rfl rfl (Ze rfl rfl (Ze rfl rfl trivial)))) (Zc rfl rfl (Zc rfl rfl (Zc rfl rfl (Zc rfl rfl trivial))))
      · refine Zcb 8 rfl ?_; cases h; exact Zh hG [] [(900001, (900001, 1)), (900002, (900002, 1)), (900003, (900003, 1))] rfl rfl (Ze rfl rfl (Ze rfl rfl (Ze rfl rfl (Ze rfl rfl trivial)))) (Zc rfl rfl (Zc rfl rfl (Zc rfl rfl (Zc rfl rfl trivial))))
    · refine Zcb 2 rfl ?_; refine headK.e ?_; refine Zob 1 rfl ?_; cases h; exact Zh hG [] [(900000, (900002, 1)), (900002, (900003, 1))] rfl rfl (Ze rfl rfl trivial) (Zc rfl rfl (Zc rfl rfl (Zc rfl rfl trivial)))
  · intro s2 r2 h hG; refine Zcb 7 rfl ?_; cases h; cases hG; exact ⟨[(900002, 1)], [(900000, 1)], ⟨⟨rfl, trivial⟩, ⟨rfl, trivial⟩, trivial⟩, rfl, rfl⟩
noncomputable def ref07_Graph_Sorted_L1 (g_ : linguaref07_Graph) (s12 : (Int × (List Int))) (ids_ : (List Int)) (s21 : Int × (List Int)) : Option ((Int × (List Int)) ⊕ (((List Int)) ⊕ ((Int × (List Int)) ⊕ (((List Int)) ⊕ ((List Int)))))) :=
  (bif (decide (s21.1 < (g_.L.length : Int))) then
    (getI g_.L s21.1).bind fun x356 =>
    (ref07_Graph_Level g_ x356.Id).bind fun y357 =>
    (bif (y357 == s12.1) then
      (ref07_Has ids_ x356.Id).bind fun y359 =>
      (bif y359 then
        (chkO (decide (s21.2.length + [x356.Id].length ≤ 1000000))).bind fun _ =>
        some (.inl ((IntKind.i64.wrap (s21.1 + (1 : Int))), (s21.2 ++ [x356.Id])))
      else
        some (.inl ((IntKind.i64.wrap (s21.1 + (1 : Int))), s21.2)))
    else
      some (.inl ((IntKind.i64.wrap (s21.1 + (1 : Int))), s21.2)))
  else
    some (.inr (.inl s21.2)))
noncomputable def ref07_Graph_Sorted_L2 (g_ : linguaref07_Graph) (ids_ : (List Int)) (s12 : Int × (List Int)) : Option ((Int × (List Int)) ⊕ (((List Int)) ⊕ ((List Int)))) :=
  (bif (decide (s12.1 < (g_.L.length : Int))) then
    (seqF (A := (List Int)) (
      loopF (ref07_Graph_Sorted_L1 g_ s12 ids_) ((0 : Int), s12.2))
    fun s20 =>
      some (.inl ((IntKind.i64.wrap (s12.1 + (1 : Int))), s20)))
  else
    some (.inr (.inl s12.2)))
noncomputable def ref07_Graph_Sorted (g_ : linguaref07_Graph) (ids_ : (List Int)) : Option ((List Int)) :=
  (seqF (A := (List Int)) (
    loopF (ref07_Graph_Sorted_L2 g_ ids_) ((0 : Int), ([] : List Int)))
  fun s11 =>
    some s11)
theorem ref07_Graph_Sorted_fn {dr : Prop} {g_ : linguaref07_Graph} {ids_ : (List Int)} {r : (List Int)} (h : ref07_Graph_Sorted g_ ids_ = some r) : Fn dr Try.prog 40 [.fp [.fz (List.map api_Node.enc g_.L)], VF (List.map (encI .i64) ids_)] (.ow 1 (List.map (encI .i64) r)) := by
  refine Fn.of_AW (dr := dr) (F := FnX dr Try.prog) (base := 0) (js := [4, 11]) mixed tok noeqs (fun _ _ _ h => h) Try.call40 Try.func40 rfl Try.ntmps40 (by rw [Try.results40]) (by simp) ?_; have hG : (fun x => x = r) r := rfl; unfold ref07_Graph_Sorted at h; refine Zap 2 rfl ?_; refine Zm (.row 4 1 0) (Mem.add _ 4 (.rows 1 (List.map (encI .i64) ([] : List Int)) false)) rfl rfl ?_; refine Zpp 4 rfl ?_; refine Zm (.row 5 1 0) (Mem.add _ 5 (.rows 1 (List.map (encI .i64) ([] : List Int)) false)) rfl rfl ?_; refine Zpc 2 rfl ?_; refine A.join (fun (s11 : (List Int)) => [(5, .row 900000 1 s11.length)]) (fun s11 => [(900000, .rows 1 (List.map (encI .i64) s11) false)]) _ h hG rfl ?_ ?_
  · intro J f h hG; refine Zac 6 rfl ?_; refine A.loop (fun (s12 : Int × (List Int)) => [(0, .fp [.fz (List.map api_Node.enc g_.L)]), (1, VF (List.map (encI .i64) ids_)), (5, .row 900000 1 s12.2.length), (6, VI s12.1)]) (fun s12 => [(900000, .rows 1 (List.map (encI .i64) s12.2) false)]) _ h hG (Zf [] [(900000, (5, 1))] rfl rfl (Ze rfl rfl (Ze rfl rfl (Ze rfl rfl (Ze rfl rfl trivial)))) (Zc rfl rfl trivial)) ?_; intro J s12 f h hG; unfold ref07_Graph_Sorted_L2 at h; refine Zap 4 rfl ?_; refine Zo (.fp [.fz (List.map api_Node.enc g_.L)]) rfl rfl ?_; refine Zo (.fp [.fz (List.map api_Node.enc g_.L)]) rfl rfl ?_; refine Zo (.fp [.fz (List.map api_Node.enc g_.L)]) rfl rfl ?_; refine Zpp 1 rfl ?_; refine Y1 rfl ?_; refine W.len rfl ?_; refine Zpc 3 rfl ?_; refine A.condB rfl h (fun _ h => ?_) (fun _ h => ?_)
    · refine Zcc 2 rfl ?_; refine A.join (fun (s20 : (List Int)) => [(0, .fp [.fz (List.map api_Node.enc g_.L)]), (1, VF (List.map (encI .i64) ids_)), (5, .row 900000 1 s20.length), (6, VI s12.1)]) (fun s20 => [(900000, .rows 1 (List.map (encI .i64) s20) false)]) _ h hG rfl ?_ ?_
      · intro J f h hG; refine Zac 7 rfl ?_; refine A.loop (fun (s21 : Int × (List Int)) => [(0, .fp [.fz (List.map api_Node.enc g_.L)]), (1, VF (List.map (encI .i64) ids_)), (5, .row 900000 1 s21.2.length), (6, VI s12.1), (7, VI s21.1)]) (fun s21 => [(900000, .rows 1 (List.map (encI .i64) s21.2) false)]) _ h hG (Zf [] [(900000, (900000, 1))] rfl rfl (Ze rfl rfl (Ze rfl rfl (Ze rfl rfl (Ze rfl rfl (Ze rfl rfl trivial))))) (Zc rfl rfl trivial)) ?_; intro J s21 f h hG; unfold ref07_Graph_Sorted_L1 at h; refine Zap 4 rfl ?_; refine Zo (.fp [.fz (List.map api_Node.enc g_.L)]) rfl rfl ?_; refine Zo (.fp [.fz (List.map api_Node.enc g_.L)]) rfl rfl ?_; refine Zo (.fp [.fz (List.map api_Node.enc g_.L)]) rfl rfl ?_; refine Zpp 1 rfl ?_; refine Y1 rfl ?_; refine W.len rfl ?_; refine Zpc 3 rfl ?_; refine A.condB rfl h (fun _ h => ?_) (fun _ h => ?_)
        · refine Zcp 6 rfl ?_; refine Zo (.fp [.fz (List.map api_Node.enc g_.L)]) rfl rfl ?_; refine Zo (.fp [.fz (List.map api_Node.enc g_.L)]) rfl rfl ?_; refine Zo (.fp [.fz (List.map api_Node.enc g_.L)]) rfl rfl ?_; refine Zo (.fp [.fz (List.map api_Node.enc g_.L)]) rfl rfl ?_; refine Zpp 2 rfl ?_; refine Y1 rfl ?_; refine bindK h fun x356 hx356 h => ?_; refine W.chk rfl (elemB hx356) ?_; refine W.elem rfl (elemG hx356) ?_; refine W.chk rfl rfl ?_; refine W.det (.fp [.v (.int .i64 x356.Id), .fz (List.map (encI .i64) x356.Parents)]) _ rfl ?_; refine Zo (.fp [.v (.int .i64 x356.Id), .fz (List.map (encI .i64) x356.Parents)]) rfl rfl ?_; refine Zpp 1 rfl ?_; refine Y1 rfl ?_; refine bindK h fun y357 hy357 h => ?_; refine W.call rfl (Fn.toO (ref07_Graph_Level_fn hy357) trivial rfl) ?_; refine Zwp 10 rfl ?_; refine YT rfl rfl rfl h (fun _ h => ?_) (fun _ h => ?_)
          · refine Zwp 1 rfl ?_; refine Zu (.fp [.fz (List.map api_Node.enc g_.L)]) rfl rfl rfl rfl ?_; refine Zu (.fp [.fz (List.map api_Node.enc g_.L)]) rfl rfl rfl rfl ?_; refine Zu (.fp [.fz (List.map api_Node.enc g_.L)]) rfl rfl rfl rfl ?_; refine Zpp 2 rfl ?_; refine Y2 rfl rfl rfl ?_; refine W.chk rfl (elemB hx356) ?_; refine W.elem rfl (elemG hx356) ?_; refine W.chk rfl rfl ?_; refine W.det (.fp [.v (.int .i64 x356.Id), .fz (List.map (encI .i64) x356.Parents)]) _ rfl ?_; refine Zu (.fp [.v (.int .i64 x356.Id), .fz (List.map (encI .i64) x356.Parents)]) rfl rfl rfl rfl ?_; refine Zpp 1 rfl ?_; refine Y2 rfl rfl rfl ?_; refine bindK h fun y359 hy359 h => ?_; refine W.call rfl (ref07_Has_fn hy359) ?_; refine Zwc 4 rfl ?_; refine A.condB rfl h (fun _ h => ?_) (fun _ h => ?_)
            · refine Zcp 1 rfl ?_; refine Zo (.row 900000 1 s21.2.length) rfl rfl ?_; refine Zo (.fp [.fz (List.map api_Node.enc g_.L)]) rfl rfl ?_; refine Zo (.fp [.fz (List.map api_Node.enc g_.L)]) rfl rfl ?_; refine Zo (.fp [.fz (List.map api_Node.enc g_.L)]) rfl rfl ?_; refine Zpp 2 rfl ?_; refine Y1 rfl ?_; refine W.chk rfl (elemB hx356) ?_; refine W.elem rfl (elemG hx356) ?_; refine W.chk rfl rfl ?_; refine W.det (.fp [.v (.int .i64 x356.Id), .fz (List.map (encI .i64) x356.Parents)]) _ rfl ?_; refine Zo (.fp [.v (.int .i64 x356.Id), .fz (List.map (encI .i64) x356.Parents)]) rfl rfl ?_; refine Zpp 1 rfl ?_; refine Zm (.row 61 2 1) (Mem.add _ 61 (.rows 1 (List.map (encI .i64) [x356.Id]) false)) rfl rfl ?_; refine Y1 rfl ?_; refine chkK h fun g360 h => ?_; refine W.chk rfl (appChk (fun _ => rfl) g360) ?_; refine W.app rfl rfl ?_; refine Zo (.row 900000 2 (s21.2 ++ [x356.Id]).length) rfl rfl ?_; refine Zpb 8 rfl ?_; cases h; exact Zh hG [] [(900000, (900000, 2))] rfl rfl (Ze rfl rfl (Ze rfl rfl (Ze rfl rfl (Ze rfl rfl (Ze rfl rfl trivial))))) (Zc rfl rfl trivial)
            · refine Zcb 8 rfl ?_; cases h; exact Zh hG [] [(900000, (900000, 1))] rfl rfl (Ze rfl rfl (Ze rfl rfl (Ze rfl rfl (Ze rfl rfl (Ze rfl rfl trivial))))) (Zc rfl rfl trivial)
          · refine Zpb 21 rfl ?_; cases h; exact Zh hG [] [(900000, (900000, 1))] rfl rfl (Ze rfl rfl (Ze rfl rfl (Ze rfl rfl (Ze rfl rfl (Ze rfl rfl trivial))))) (Zc rfl rfl trivial)
        · refine Zcb 2 rfl ?_; refine headK.e ?_; refine Zob 2 rfl ?_; cases h; exact Zh hG [] [(900000, (900000, 1))] rfl rfl (Ze rfl rfl (Ze rfl rfl (Ze rfl rfl (Ze rfl rfl trivial)))) (Zc rfl rfl trivial)
      · intro s20 r2 h hG; refine Zcb 5 rfl ?_; cases h; exact Zh hG [] [(900000, (900000, 1))] rfl rfl (Ze rfl rfl (Ze rfl rfl (Ze rfl rfl (Ze rfl rfl trivial)))) (Zc rfl rfl trivial)
    · refine Zcb 2 rfl ?_; refine headK.e ?_; refine Zob 1 rfl ?_; cases h; exact Zh hG [] [(900000, (900000, 1))] rfl rfl (Ze rfl rfl trivial) (Zc rfl rfl trivial)
  · intro s11 r2 h hG; refine Zcp 2 rfl ?_; refine Zo (.row 900000 1 s11.length) rfl rfl ?_; refine Zo (.row 900000 1 s11.length) rfl rfl ?_; refine Zpb 3 rfl ?_; cases h; cases hG; exact ⟨rfl, rfl, trivial⟩
end Go.Proofs.Ytlgadmholjaljaa

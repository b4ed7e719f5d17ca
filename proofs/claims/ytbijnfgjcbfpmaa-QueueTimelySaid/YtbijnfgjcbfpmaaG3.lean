/-
  Plain programs of functions, and that the functions do what they say. Printed by wip/tools/gen.py.
-/
import Derived.Test.YtbijnfgjcbfpmaaG2
namespace Go.Proofs.Ytbijnfgjcbfpmaa
open Go.RowKit
attribute [local irreducible] IntKind.wrap AW runL Step.wp
set_option linter.unusedVariables false
set_option maxHeartbeats 4000000
set_option maxRecDepth 100000
noncomputable def law30_has_L1 (done_ : (List Int)) (w_ : api_Waiting) (net_ : Int) (s3 : Int) : Option ((Int) ⊕ ((Unit) ⊕ (Bool))) :=
  (bif (decide (s3 < (done_.length : Int))) then
    (getI done_ s3).bind fun x24 =>
    (bif (x24 == w_.Event) then
      (bif (w_.Net == net_) then
        some (.inr (.inr true))
      else
        some (.inl (IntKind.i64.wrap (s3 + (1 : Int)))))
    else
      some (.inl (IntKind.i64.wrap (s3 + (1 : Int)))))
  else
    some (.inr (.inl ())))
noncomputable def law30_has (done_ : (List Int)) (w_ : api_Waiting) (net_ : Int) : Option (Bool) :=
  (seqF (A := Unit) (
    loopF (law30_has_L1 done_ w_ net_) (0 : Int))
  fun s2 =>
    some false)
theorem law30_has_fn {done_ : (List Int)} {w_ : api_Waiting} {net_ : Int} {r : Bool} (h : law30_has done_ w_ net_ = some r) : Fn Try.prog 13 [VF (List.map (encI .i64) done_), .agg (api_Waiting.av w_), VI net_] (VB r) := by
  refine Fn.of_AW (F := FnX Try.prog) (base := 0) (js := [6]) mixed tok noeqs (fun _ _ _ h => h) Try.call13 Try.func13 rfl Try.ntmps13 (by rw [Try.results13]) (by simp) ?_; have hG : (fun x => x = r) r := rfl; unfold law30_has at h; refine Zap 2 rfl ?_; refine Zm (.lp 4 1 0) (Mem.add _ 4 (.box (api_Waiting.av w_))) rfl rfl ?_; refine Zpc 3 rfl ?_; refine A.join (fun (s2 : Unit) => []) (fun s2 => []) _ h hG rfl ?_ ?_
  · intro J f h hG; refine Zac 6 rfl ?_; refine A.loop (fun (s3 : Int) => [(0, VF (List.map (encI .i64) done_)), (2, VI net_), (4, .lp 900000 1 0), (7, VI s3)]) (fun s3 => [(900000, .box (api_Waiting.av w_))]) _ h hG (Zf [] [(900000, (4, 1))] rfl rfl (Ze rfl rfl (Ze rfl rfl (Ze rfl rfl (Ze rfl rfl trivial)))) (Zc rfl rfl trivial)) ?_; intro J s3 f h hG; unfold law30_has_L1 at h; refine Zap 5 rfl ?_; refine Y1 rfl ?_; refine W.len rfl ?_; refine Zpc 3 rfl ?_; refine A.condB rfl h (fun _ h => ?_) (fun _ h => ?_)
    · refine Zcc 5 rfl ?_; refine A.regionD (by kernel_rfl) ?_; refine Zpp 2 rfl ?_; refine Y1 rfl ?_; refine bindK h fun x24 hx24 h => ?_; refine W.chk rfl (elemB hx24) ?_; refine W.elem rfl (elemG hx24) ?_; refine W.chk rfl rfl ?_; refine W.det (.fp [.v (.int .i64 x24)]) _ rfl ?_; refine Zpp 5 rfl ?_; refine YT rfl rfl rfl h (fun _ h => ?_) (fun _ h => ?_)
      · refine Zwc 7 rfl ?_; refine A.condB rfl h (fun _ h => ?_) (fun _ h => ?_)
        · refine Zcb 8 rfl ?_; refine headK.r ?_; refine Zob 1 rfl ?_; refine headK.r ?_; cases h; cases hG; exact ⟨rfl, trivial⟩
        · refine Zcb 8 rfl ?_; cases h; exact Zh hG [] [(900000, (900000, 1))] rfl rfl (Ze rfl rfl (Ze rfl rfl (Ze rfl rfl (Ze rfl rfl trivial)))) (Zc rfl rfl trivial)
      · refine Zpb 15 rfl ?_; cases h; exact Zh hG [] [(900000, (900000, 1))] rfl rfl (Ze rfl rfl (Ze rfl rfl (Ze rfl rfl (Ze rfl rfl trivial)))) (Zc rfl rfl trivial)
    · refine Zcb 2 rfl ?_; refine headK.e ?_; refine Zob 1 rfl ?_; cases h; exact Zh hG [] [] rfl rfl trivial trivial
  · intro s2 r2 h hG; refine Zcb 6 rfl ?_; cases h; cases hG; exact ⟨rfl, trivial⟩
noncomputable def law30_first (a_ : api_Waiting) (b_ : api_Waiting) : Option (Bool) :=
  (bif (decide (a_.Due < b_.Due)) then
    some true
  else
    (bif (a_.Due == b_.Due) then
      some (decide (a_.Event < b_.Event))
    else
      some false))
theorem law30_first_fn {a_ : api_Waiting} {b_ : api_Waiting} {r : Bool} (h : law30_first a_ b_ = some r) : Fn Try.prog 14 [.agg (api_Waiting.av a_), .agg (api_Waiting.av b_)] (VB r) := by
  refine Fn.of_AW (F := FnX Try.prog) (base := 0) (js := []) mixed tok noeqs (fun _ _ _ h => h) Try.call14 Try.func14 rfl Try.ntmps14 (by rw [Try.results14]) (by simp) ?_; have hG : (fun x => x = r) r := rfl; unfold law30_first at h; refine Zap 2 rfl ?_; refine Zm (.lp 2 1 0) (Mem.add _ 2 (.box (api_Waiting.av a_))) rfl rfl ?_; refine Zm (.lp 3 1 0) (Mem.add _ 3 (.box (api_Waiting.av b_))) rfl rfl ?_; refine Zpp 11 rfl ?_; refine YF rfl rfl rfl h (fun _ h => ?_) (fun _ h => ?_)
  · refine Zpb 16 rfl ?_; cases h; cases hG; exact ⟨rfl, trivial⟩
  · refine Zwp 6 rfl ?_; refine YT rfl rfl rfl h (fun _ h => ?_) (fun _ h => ?_)
    · refine Zwb 11 rfl ?_; cases h; cases hG; exact ⟨rfl, trivial⟩
    · refine Zpb 10 rfl ?_; cases h; cases hG; exact ⟨rfl, trivial⟩
noncomputable def ref30_Jobs_L1 (l_ : (List api_Waiting)) (net_ : Int) (s3 : Int × (List api_Job)) : Option ((Int × (List api_Job)) ⊕ (((List api_Job)) ⊕ ((List api_Job)))) :=
  (bif (decide (s3.1 < (l_.length : Int))) then
    (getI l_ s3.1).bind fun x23 =>
    (bif (x23.Net == net_) then
      (chkO (decide (s3.2.length + [(api_Job.mk x23.Event x23.Left x23.Due)].length ≤ 1000000))).bind fun _ =>
      some (.inl ((IntKind.i64.wrap (s3.1 + (1 : Int))), (s3.2 ++ [(api_Job.mk x23.Event x23.Left x23.Due)])))
    else
      some (.inl ((IntKind.i64.wrap (s3.1 + (1 : Int))), s3.2)))
  else
    some (.inr (.inl s3.2)))
noncomputable def ref30_Jobs (l_ : (List api_Waiting)) (net_ : Int) : Option ((List api_Job)) :=
  (seqF (A := (List api_Job)) (
    loopF (ref30_Jobs_L1 l_ net_) ((0 : Int), ([] : List api_Job)))
  fun s2 =>
    some s2)
theorem ref30_Jobs_fn {l_ : (List api_Waiting)} {net_ : Int} {r : (List api_Job)} (h : ref30_Jobs l_ net_ = some r) : Fn Try.prog 17 [VF (List.map api_Waiting.enc l_), VI net_] (.ow 3 (List.map api_Job.enc r)) := by
  refine Fn.of_AW (F := FnX Try.prog) (base := 0) (js := [7]) mixed tok noeqs (fun _ _ _ h => h) Try.call17 Try.func17 rfl Try.ntmps17 (by rw [Try.results17]) (by simp) ?_; have hG : (fun x => x = r) r := rfl; unfold ref30_Jobs at h; refine Zap 2 rfl ?_; refine Zm (.row 4 1 0) (Mem.add _ 4 (.rows 3 (List.map api_Job.enc ([] : List api_Job)) false)) rfl rfl ?_; refine Zpp 4 rfl ?_; refine Zm (.row 5 1 0) (Mem.add _ 5 (.rows 3 (List.map api_Job.enc ([] : List api_Job)) false)) rfl rfl ?_; refine Zpc 2 rfl ?_; refine A.join (fun (s2 : (List api_Job)) => [(5, .row 900000 1 s2.length)]) (fun s2 => [(900000, .rows 3 (List.map api_Job.enc s2) false)]) _ h hG rfl ?_ ?_
  · intro J f h hG; refine Zac 6 rfl ?_; refine A.loop (fun (s3 : Int × (List api_Job)) => [(0, VF (List.map api_Waiting.enc l_)), (1, VI net_), (5, .row 900000 1 s3.2.length), (6, VI s3.1)]) (fun s3 => [(900000, .rows 3 (List.map api_Job.enc s3.2) false)]) _ h hG (Zf [] [(900000, (5, 1))] rfl rfl (Ze rfl rfl (Ze rfl rfl (Ze rfl rfl (Ze rfl rfl trivial)))) (Zc rfl rfl trivial)) ?_; intro J s3 f h hG; unfold ref30_Jobs_L1 at h; refine Zap 5 rfl ?_; refine Y1 rfl ?_; refine W.len rfl ?_; refine Zpc 3 rfl ?_; refine A.condB rfl h (fun _ h => ?_) (fun _ h => ?_)
    · refine Zcp 8 rfl ?_; refine Y1 rfl ?_; refine bindK h fun x23 hx23 h => ?_; refine W.chk rfl (elemB hx23) ?_; refine W.elem rfl (elemG hx23) ?_; refine W.chk rfl rfl ?_; refine W.det (.fp [.v (.int .i64 x23.Event), .v (.int .i64 x23.Net), .v (.int .i64 x23.Left), .v (.int .i64 x23.Due)]) _ rfl ?_; refine Zo (.fp [.v (.int .i64 x23.Net), .v (.int .i64 x23.Left), .v (.int .i64 x23.Due)]) rfl rfl ?_; refine Zpc 5 rfl ?_; refine A.condB rfl h (fun _ h => ?_) (fun _ h => ?_)
      · refine A.regionD (by kernel_rfl) ?_; refine Zo (.row 900000 1 s3.2.length) rfl rfl ?_; refine Zpp 2 rfl ?_; refine Y1 rfl ?_; refine W.chk rfl (elemB hx23) ?_; refine W.elem rfl (elemG hx23) ?_; refine W.chk rfl rfl ?_; refine W.det (.fp [.v (.int .i64 x23.Event), .v (.int .i64 x23.Net), .v (.int .i64 x23.Left), .v (.int .i64 x23.Due)]) _ rfl ?_; refine Zo (.fp [.v (.int .i64 x23.Event), .v (.int .i64 x23.Net), .v (.int .i64 x23.Left), .v (.int .i64 x23.Due)]) rfl rfl ?_; refine Zpp 3 rfl ?_; refine Y1 rfl ?_; refine W.chk rfl (elemB hx23) ?_; refine W.elem rfl (elemG hx23) ?_; refine W.chk rfl rfl ?_; refine W.det (.fp [.v (.int .i64 x23.Event), .v (.int .i64 x23.Net), .v (.int .i64 x23.Left), .v (.int .i64 x23.Due)]) _ rfl ?_; refine Zo (.fp [.v (.int .i64 x23.Left), .v (.int .i64 x23.Due)]) rfl rfl ?_; refine Zpp 3 rfl ?_; refine Y1 rfl ?_; refine W.chk rfl (elemB hx23) ?_; refine W.elem rfl (elemG hx23) ?_; refine W.chk rfl rfl ?_; refine W.det (.fp [.v (.int .i64 x23.Event), .v (.int .i64 x23.Net), .v (.int .i64 x23.Left), .v (.int .i64 x23.Due)]) _ rfl ?_; refine Zo (.fp [.v (.int .i64 x23.Due)]) rfl rfl ?_; refine Zpp 1 rfl ?_; refine Zo (.agg [VI x23.Event, VI x23.Left, VI x23.Due]) rfl rfl ?_; refine Zm (.row 37 2 1) (Mem.add _ 37 (.rows 3 (List.map api_Job.enc [(api_Job.mk x23.Event x23.Left x23.Due)]) false)) rfl rfl ?_; refine Y1 rfl ?_; refine chkK h fun g24 h => ?_; refine W.chk rfl (appChk (fun _ => rfl) g24) ?_; refine W.app rfl rfl ?_; refine Zo (.row 900000 2 (s3.2 ++ [(api_Job.mk x23.Event x23.Left x23.Due)]).length) rfl rfl ?_; refine Zpb 8 rfl ?_; cases h; exact Zh hG [] [(900000, (900000, 2))] rfl rfl (Ze rfl rfl (Ze rfl rfl (Ze rfl rfl (Ze rfl rfl trivial)))) (Zc rfl rfl trivial)
      · refine Zcb 8 rfl ?_; cases h; exact Zh hG [] [(900000, (900000, 1))] rfl rfl (Ze rfl rfl (Ze rfl rfl (Ze rfl rfl (Ze rfl rfl trivial)))) (Zc rfl rfl trivial)
    · refine Zcb 2 rfl ?_; refine headK.e ?_; refine Zob 1 rfl ?_; cases h; exact Zh hG [] [(900000, (900000, 1))] rfl rfl (Ze rfl rfl trivial) (Zc rfl rfl trivial)
  · intro s2 r2 h hG; refine Zcp 2 rfl ?_; refine Zo (.row 900000 1 s2.length) rfl rfl ?_; refine Zo (.row 900000 1 s2.length) rfl rfl ?_; refine Zpb 3 rfl ?_; cases h; cases hG; exact ⟨rfl, rfl, trivial⟩
noncomputable def supply_Allowed_L1 (up_ : (List Bool)) (p_ : api_Profile) (s3 : Int × Int) : Option ((Int × Int) ⊕ ((Unit) ⊕ (Bool))) :=
  (bif (decide (s3.2 < (up_.length : Int))) then
    (getI up_ s3.2).bind fun x102 =>
    (bif (!x102) then
      (bif (decide ((0 : Int) < p_.Down)) then
        (bif (decide (p_.Window ≤ s3.2)) then
          (getI up_ (IntKind.i64.wrap (s3.2 - p_.Window))).bind fun x106 =>
          (bif (!x106) then
            (bif (decide (p_.Down < (IntKind.i64.wrap ((IntKind.i64.wrap (s3.1 + (1 : Int))) - (1 : Int))))) then
              some (.inr (.inr false))
            else
              some (.inl ((IntKind.i64.wrap ((IntKind.i64.wrap (s3.1 + (1 : Int))) - (1 : Int))), (IntKind.i64.wrap (s3.2 + (1 : Int))))))
          else
            (bif (decide (p_.Down < (IntKind.i64.wrap (s3.1 + (1 : Int))))) then
              some (.inr (.inr false))
            else
              some (.inl ((IntKind.i64.wrap (s3.1 + (1 : Int))), (IntKind.i64.wrap (s3.2 + (1 : Int)))))))
        else
          (bif (decide (p_.Down < (IntKind.i64.wrap (s3.1 + (1 : Int))))) then
            some (.inr (.inr false))
          else
            some (.inl ((IntKind.i64.wrap (s3.1 + (1 : Int))), (IntKind.i64.wrap (s3.2 + (1 : Int)))))))
      else
        (bif (decide (p_.Down < (IntKind.i64.wrap (s3.1 + (1 : Int))))) then
          some (.inr (.inr false))
        else
          some (.inl ((IntKind.i64.wrap (s3.1 + (1 : Int))), (IntKind.i64.wrap (s3.2 + (1 : Int)))))))
    else
      (bif (decide ((0 : Int) < p_.Down)) then
        (bif (decide (p_.Window ≤ s3.2)) then
          (getI up_ (IntKind.i64.wrap (s3.2 - p_.Window))).bind fun x110 =>
          (bif (!x110) then
            (bif (decide (p_.Down < (IntKind.i64.wrap (s3.1 - (1 : Int))))) then
              some (.inr (.inr false))
            else
              some (.inl ((IntKind.i64.wrap (s3.1 - (1 : Int))), (IntKind.i64.wrap (s3.2 + (1 : Int))))))
          else
            (bif (decide (p_.Down < s3.1)) then
              some (.inr (.inr false))
            else
              some (.inl (s3.1, (IntKind.i64.wrap (s3.2 + (1 : Int)))))))
        else
          (bif (decide (p_.Down < s3.1)) then
            some (.inr (.inr false))
          else
            some (.inl (s3.1, (IntKind.i64.wrap (s3.2 + (1 : Int)))))))
      else
        (bif (decide (p_.Down < s3.1)) then
          some (.inr (.inr false))
        else
          some (.inl (s3.1, (IntKind.i64.wrap (s3.2 + (1 : Int))))))))
  else
    some (.inr (.inl ())))
noncomputable def supply_Allowed (p_ : api_Profile) (up_ : (List Bool)) : Option (Bool) :=
  (profile_Check p_).bind fun y2 =>
  (bif (y2 != (0 : Int)) then
    some false
  else
    (seqF (A := Unit) (
      loopF (supply_Allowed_L1 up_ p_) ((0 : Int), (0 : Int)))
    fun s2 =>
      some true))
theorem supply_Allowed_fn {p_ : api_Profile} {up_ : (List Bool)} {r : Bool} (h : supply_Allowed p_ up_ = some r) : Fn Try.prog 18 [.agg (api_Profile.av p_), VF (List.map encB up_)] (VB r) := by
  refine Fn.of_AW (F := FnX Try.prog) (base := 0) (js := [14]) mixed tok noeqs (fun _ _ _ h => h) Try.call18 Try.func18 rfl Try.ntmps18 (by rw [Try.results18]) (by simp) ?_; have hG : (fun x => x = r) r := rfl; unfold supply_Allowed at h; refine Zap 2 rfl ?_; refine Zm (.lp 2 1 0) (Mem.add _ 2 (.box (api_Profile.av p_))) rfl rfl ?_; refine Zpp 6 rfl ?_; refine Zo (.agg (api_Profile.av p_)) rfl rfl ?_; refine Y1 rfl ?_; refine bindK h fun y2 hy2 h => ?_; refine W.call rfl (profile_Check_fn hy2) ?_; refine Zwc 4 rfl ?_; refine A.condB rfl h (fun _ h => ?_) (fun _ h => ?_)
  · refine Zcb 7 rfl ?_; cases h; cases hG; exact ⟨rfl, trivial⟩
  · refine Zcc 7 rfl ?_; refine A.join (fun (s2 : Unit) => []) (fun s2 => []) _ h hG rfl ?_ ?_
    · intro J f h hG; refine Zap 3 rfl ?_; refine Y1 rfl ?_; refine W.len rfl ?_; refine Zpc 4 rfl ?_; refine A.loop (fun (s3 : Int × Int) => [(1, VF (List.map encB up_)), (2, .lp 900000 1 0), (5, VI s3.1), (11, VF (List.map encB up_)), (12, VI (up_.length : Int)), (13, VI s3.2)]) (fun s3 => [(900000, .box (api_Profile.av p_))]) _ h hG (Zf [] [(900000, (2, 1))] rfl rfl (Ze rfl rfl (Ze rfl rfl (Ze rfl rfl (Ze rfl rfl (Ze rfl rfl (Ze rfl rfl trivial)))))) (Zc rfl rfl trivial)) ?_; intro J s3 f h hG; unfold supply_Allowed_L1 at h; refine Zac 6 rfl ?_; refine A.condB rfl h (fun _ h => ?_) (fun _ h => ?_)
      · refine Zcp 7 rfl ?_; refine Y1 rfl ?_; refine bindK h fun x102 hx102 h => ?_; refine W.chk rfl (elemB hx102) ?_; refine W.elem rfl (elemG hx102) ?_; refine W.chk rfl rfl ?_; refine W.det (.fp [.v (.bool x102)]) _ rfl ?_; refine Zpc 12 rfl ?_; refine A.condB rfl h (fun _ h => ?_) (fun _ h => ?_)
        · refine Zcp 13 rfl ?_; refine YT rfl rfl rfl h (fun _ h => ?_) (fun _ h => ?_)
          · refine Zwp 6 rfl ?_; refine YT rfl rfl rfl h (fun _ h => ?_) (fun _ h => ?_)
            · refine Zwp 5 rfl ?_; refine Y2 rfl rfl rfl ?_; refine bindK h fun x106 hx106 h => ?_; refine W.chk rfl (elemB hx106) ?_; refine W.elem rfl (elemG hx106) ?_; refine W.chk rfl rfl ?_; refine W.det (.fp [.v (.bool x106)]) _ rfl ?_; refine Zpc 5 rfl ?_; refine A.condB rfl h (fun _ h => ?_) (fun _ h => ?_)
              · refine Zcc 14 rfl ?_; refine A.condB rfl h (fun _ h => ?_) (fun _ h => ?_)
                · refine Zcb 8 rfl ?_; refine headK.r ?_; refine Zob 1 rfl ?_; refine headK.r ?_; cases h; cases hG; exact ⟨rfl, trivial⟩
                · refine Zcb 7 rfl ?_; cases h; exact Zh hG [] [(900000, (900000, 1))] rfl rfl (Ze rfl rfl (Ze rfl rfl (Ze rfl rfl (Ze rfl rfl (Ze rfl rfl (Ze rfl rfl trivial)))))) (Zc rfl rfl trivial)
              · refine Zcc 10 rfl ?_; refine A.condB rfl h (fun _ h => ?_) (fun _ h => ?_)
                · refine Zcb 8 rfl ?_; refine headK.r ?_; refine Zob 1 rfl ?_; refine headK.r ?_; cases h; cases hG; exact ⟨rfl, trivial⟩
                · refine Zcb 7 rfl ?_; cases h; exact Zh hG [] [(900000, (900000, 1))] rfl rfl (Ze rfl rfl (Ze rfl rfl (Ze rfl rfl (Ze rfl rfl (Ze rfl rfl (Ze rfl rfl trivial)))))) (Zc rfl rfl trivial)
            · refine Zpc 21 rfl ?_; refine A.condB rfl h (fun _ h => ?_) (fun _ h => ?_)
              · refine Zcb 8 rfl ?_; refine headK.r ?_; refine Zob 1 rfl ?_; refine headK.r ?_; cases h; cases hG; exact ⟨rfl, trivial⟩
              · refine Zcb 7 rfl ?_; cases h; exact Zh hG [] [(900000, (900000, 1))] rfl rfl (Ze rfl rfl (Ze rfl rfl (Ze rfl rfl (Ze rfl rfl (Ze rfl rfl (Ze rfl rfl trivial)))))) (Zc rfl rfl trivial)
          · refine Zpc 27 rfl ?_; refine A.condB rfl h (fun _ h => ?_) (fun _ h => ?_)
            · refine Zcb 8 rfl ?_; refine headK.r ?_; refine Zob 1 rfl ?_; refine headK.r ?_; cases h; cases hG; exact ⟨rfl, trivial⟩
            · refine Zcb 7 rfl ?_; cases h; exact Zh hG [] [(900000, (900000, 1))] rfl rfl (Ze rfl rfl (Ze rfl rfl (Ze rfl rfl (Ze rfl rfl (Ze rfl rfl (Ze rfl rfl trivial)))))) (Zc rfl rfl trivial)
        · refine Zcp 9 rfl ?_; refine YT rfl rfl rfl h (fun _ h => ?_) (fun _ h => ?_)
          · refine Zwp 6 rfl ?_; refine YT rfl rfl rfl h (fun _ h => ?_) (fun _ h => ?_)
            · refine Zwp 5 rfl ?_; refine Y2 rfl rfl rfl ?_; refine bindK h fun x110 hx110 h => ?_; refine W.chk rfl (elemB hx110) ?_; refine W.elem rfl (elemG hx110) ?_; refine W.chk rfl rfl ?_; refine W.det (.fp [.v (.bool x110)]) _ rfl ?_; refine Zpc 5 rfl ?_; refine A.condB rfl h (fun _ h => ?_) (fun _ h => ?_)
              · refine Zcc 14 rfl ?_; refine A.condB rfl h (fun _ h => ?_) (fun _ h => ?_)
                · refine Zcb 8 rfl ?_; refine headK.r ?_; refine Zob 1 rfl ?_; refine headK.r ?_; cases h; cases hG; exact ⟨rfl, trivial⟩
                · refine Zcb 7 rfl ?_; cases h; exact Zh hG [] [(900000, (900000, 1))] rfl rfl (Ze rfl rfl (Ze rfl rfl (Ze rfl rfl (Ze rfl rfl (Ze rfl rfl (Ze rfl rfl trivial)))))) (Zc rfl rfl trivial)
              · refine Zcc 10 rfl ?_; refine A.condB rfl h (fun _ h => ?_) (fun _ h => ?_)
                · refine Zcb 8 rfl ?_; refine headK.r ?_; refine Zob 1 rfl ?_; refine headK.r ?_; cases h; cases hG; exact ⟨rfl, trivial⟩
                · refine Zcb 7 rfl ?_; cases h; exact Zh hG [] [(900000, (900000, 1))] rfl rfl (Ze rfl rfl (Ze rfl rfl (Ze rfl rfl (Ze rfl rfl (Ze rfl rfl (Ze rfl rfl trivial)))))) (Zc rfl rfl trivial)
            · refine Zpc 21 rfl ?_; refine A.condB rfl h (fun _ h => ?_) (fun _ h => ?_)
              · refine Zcb 8 rfl ?_; refine headK.r ?_; refine Zob 1 rfl ?_; refine headK.r ?_; cases h; cases hG; exact ⟨rfl, trivial⟩
              · refine Zcb 7 rfl ?_; cases h; exact Zh hG [] [(900000, (900000, 1))] rfl rfl (Ze rfl rfl (Ze rfl rfl (Ze rfl rfl (Ze rfl rfl (Ze rfl rfl (Ze rfl rfl trivial)))))) (Zc rfl rfl trivial)
          · refine Zpc 27 rfl ?_; refine A.condB rfl h (fun _ h => ?_) (fun _ h => ?_)
            · refine Zcb 8 rfl ?_; refine headK.r ?_; refine Zob 1 rfl ?_; refine headK.r ?_; cases h; cases hG; exact ⟨rfl, trivial⟩
            · refine Zcb 7 rfl ?_; cases h; exact Zh hG [] [(900000, (900000, 1))] rfl rfl (Ze rfl rfl (Ze rfl rfl (Ze rfl rfl (Ze rfl rfl (Ze rfl rfl (Ze rfl rfl trivial)))))) (Zc rfl rfl trivial)
      · refine Zcb 2 rfl ?_; refine headK.e ?_; refine Zob 1 rfl ?_; cases h; exact Zh hG [] [] rfl rfl trivial trivial
    · intro s2 r2 h hG; refine Zcb 6 rfl ?_; cases h; cases hG; exact ⟨rfl, trivial⟩
noncomputable def law30_gone_L1 (l_ : (List api_Waiting)) (event_ : Int) (s3 : Int) : Option ((Int) ⊕ ((Unit) ⊕ (Bool))) :=
  (bif (decide (s3 < (l_.length : Int))) then
    (getI l_ s3).bind fun x12 =>
    (bif (x12.Event == event_) then
      some (.inr (.inr false))
    else
      some (.inl (IntKind.i64.wrap (s3 + (1 : Int)))))
  else
    some (.inr (.inl ())))
noncomputable def law30_gone (l_ : (List api_Waiting)) (event_ : Int) : Option (Bool) :=
  (seqF (A := Unit) (
    loopF (law30_gone_L1 l_ event_) (0 : Int))
  fun s2 =>
    some true)
theorem law30_gone_fn {l_ : (List api_Waiting)} {event_ : Int} {r : Bool} (h : law30_gone l_ event_ = some r) : Fn Try.prog 20 [VF (List.map api_Waiting.enc l_), VI event_] (VB r) := by
  refine Fn.of_AW (F := FnX Try.prog) (base := 0) (js := [6]) mixed tok noeqs (fun _ _ _ h => h) Try.call20 Try.func20 rfl Try.ntmps20 (by rw [Try.results20]) (by simp) ?_; have hG : (fun x => x = r) r := rfl; unfold law30_gone at h; refine Zac 5 rfl ?_; refine A.join (fun (s2 : Unit) => []) (fun s2 => []) _ h hG rfl ?_ ?_
  · intro J f h hG; refine Zac 6 rfl ?_; refine A.loop (fun (s3 : Int) => [(0, VF (List.map api_Waiting.enc l_)), (1, VI event_), (5, VI s3)]) (fun s3 => []) _ h hG (Zf [] [] rfl rfl (Ze rfl rfl (Ze rfl rfl (Ze rfl rfl trivial))) trivial) ?_; intro J s3 f h hG; unfold law30_gone_L1 at h; refine Zap 5 rfl ?_; refine Y1 rfl ?_; refine W.len rfl ?_; refine Zpc 3 rfl ?_; refine A.condB rfl h (fun _ h => ?_) (fun _ h => ?_)
    · refine Zcp 8 rfl ?_; refine Y1 rfl ?_; refine bindK h fun x12 hx12 h => ?_; refine W.chk rfl (elemB hx12) ?_; refine W.elem rfl (elemG hx12) ?_; refine W.chk rfl rfl ?_; refine W.det (.fp [.v (.int .i64 x12.Event), .v (.int .i64 x12.Net), .v (.int .i64 x12.Left), .v (.int .i64 x12.Due)]) _ rfl ?_; refine Zo (.fp [.v (.int .i64 x12.Event), .v (.int .i64 x12.Net), .v (.int .i64 x12.Left), .v (.int .i64 x12.Due)]) rfl rfl ?_; refine Zpc 5 rfl ?_; refine A.condB rfl h (fun _ h => ?_) (fun _ h => ?_)
      · refine Zcb 8 rfl ?_; refine headK.r ?_; refine Zob 1 rfl ?_; refine headK.r ?_; cases h; cases hG; exact ⟨rfl, trivial⟩
      · refine Zcb 8 rfl ?_; cases h; exact Zh hG [] [] rfl rfl (Ze rfl rfl (Ze rfl rfl (Ze rfl rfl trivial))) trivial
    · refine Zcb 2 rfl ?_; refine headK.e ?_; refine Zob 1 rfl ?_; cases h; exact Zh hG [] [] rfl rfl trivial trivial
  · intro s2 r2 h hG; refine Zcb 6 rfl ?_; cases h; cases hG; exact ⟨rfl, trivial⟩
end Go.Proofs.Ytbijnfgjcbfpmaa

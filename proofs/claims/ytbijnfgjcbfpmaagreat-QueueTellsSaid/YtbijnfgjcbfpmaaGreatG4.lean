/-
  Plain programs of functions, and that the functions do what they say. Printed by wip/tools/gen.py.
-/
import Derived.Test.YtbijnfgjcbfpmaaGreatG3
namespace Go.Proofs.YtbijnfgjcbfpmaaGreat
open Go.RowKit
attribute [local irreducible] IntKind.wrap AW runL Step.wp
set_option linter.unusedVariables false
set_option maxHeartbeats 4000000
set_option maxRecDepth 100000
noncomputable def ref30_Put (p_ : api_Profile) (l_ : (List api_Waiting)) (w_ : api_Waiting) (now_ : Int) : Option ((List api_Waiting) × Int) :=
  (chkO (decide (0 + l_.length ≤ 1000000))).bind fun _ =>
  (ref30_Right l_).bind fun y8 =>
  (bif (!y8) then
    some ((([] : List api_Waiting) ++ l_), (1 : Int))
  else
    (ref30_Entry w_).bind fun y9 =>
    (bif (!y9) then
      some ((([] : List api_Waiting) ++ l_), (1 : Int))
    else
      (ref30_At l_ w_.Event w_.Net).bind fun y11 =>
      (bif (decide ((0 : Int) ≤ y11)) then
        some ((([] : List api_Waiting) ++ l_), (5 : Int))
      else
        (chkO (decide ((([] : List api_Waiting) ++ l_).length + [w_].length ≤ 1000000))).bind fun _ =>
        (ref30_Jobs ((([] : List api_Waiting) ++ l_) ++ [w_]) w_.Net).bind fun y14 =>
        (ref29_Plan p_ y14 now_).bind fun y15 =>
        (bif (y15.2.2 != (0 : Int)) then
          some ((([] : List api_Waiting) ++ l_), y15.2.2)
        else
          some (((([] : List api_Waiting) ++ l_) ++ [w_]), (0 : Int))))))
theorem ref30_Put_fn {p_ : api_Profile} {l_ : (List api_Waiting)} {w_ : api_Waiting} {now_ : Int} {r : (List api_Waiting) × Int} (h : ref30_Put p_ l_ w_ now_ = some r) : Fn Tryz.prog 7 [.agg (api_Profile.av p_), VF (List.map api_Waiting.enc l_), .agg (api_Waiting.av w_), VI now_] (.tup [VF (List.map api_Waiting.enc r.1), VI r.2]) := by
  refine Fn.of_AW (F := FnX Tryz.prog) (base := 0) (js := []) mixed tok noeqs (fun _ _ _ h => h) Tryz.call7 Tryz.func7 rfl Tryz.ntmps7 (by rw [Tryz.results7]) (by simp) ?_; have hG : (fun x => x = r) r := rfl; unfold ref30_Put at h; refine Zap 2 rfl ?_; refine Zm (.lp 4 1 0) (Mem.add _ 4 (.box (api_Profile.av p_))) rfl rfl ?_; refine Zm (.lp 6 1 0) (Mem.add _ 6 (.box (api_Waiting.av w_))) rfl rfl ?_; refine Zm (.row 8 1 0) (Mem.add _ 8 (.rows 4 (List.map api_Waiting.enc ([] : List api_Waiting)) false)) rfl rfl ?_; refine Zpp 5 rfl ?_; refine Zm (.row 15 1 0) (Mem.add _ 15 (.rows 4 (List.map api_Waiting.enc ([] : List api_Waiting)) false)) rfl rfl ?_; refine Zpp 1 rfl ?_; refine Y1 rfl ?_; refine chkK h fun g1 h => ?_; refine W.chk rfl (appChk (fun _ => rfl) g1) ?_; refine W.rows (0 + (List.map api_Waiting.enc l_).length) (([] : List api_Waiting) ++ l_).length ([] ++ (List.map api_Waiting.enc l_)) (List.map api_Waiting.enc (([] : List api_Waiting) ++ l_)) rfl (by first | rfl | (simp; done) | simp only [partMap, List.length_map, List.length_append, List.nil_append, Nat.zero_add, List.length_nil]) (by first | rfl | (simp; done) | simp only [partMap, List.map_append, List.nil_append, List.map_nil]) ?_; refine Zo (.row 15 2 (([] : List api_Waiting) ++ l_).length) rfl rfl ?_; refine Zpp 6 rfl ?_; refine Y1 rfl ?_; refine bindK h fun y8 hy8 h => ?_; refine W.call rfl (ref30_Right_fn hy8) ?_; refine Zwp 3 rfl ?_; refine YF rfl rfl rfl h (fun _ h => ?_) (fun _ h => ?_)
  · refine Zpp 8 rfl ?_; refine Zo (.row 15 2 (([] : List api_Waiting) ++ l_).length) rfl rfl ?_; refine Zo (.row 15 2 (([] : List api_Waiting) ++ l_).length) rfl rfl ?_; refine Zpb 5 rfl ?_; cases h; cases hG; exact ⟨rfl, rfl, trivial⟩
  · refine W.det (.agg (api_Waiting.av w_)) _ rfl ?_; refine Y2 rfl rfl rfl ?_; refine bindK h fun y9 hy9 h => ?_; refine W.call rfl (ref30_Entry_fn hy9) ?_; refine Zwc 5 rfl ?_; refine A.condB rfl h (fun _ h => ?_) (fun _ h => ?_)
    · refine Zcp 2 rfl ?_; refine Zo (.row 15 2 (([] : List api_Waiting) ++ l_).length) rfl rfl ?_; refine Zo (.row 15 2 (([] : List api_Waiting) ++ l_).length) rfl rfl ?_; refine Zpb 5 rfl ?_; cases h; cases hG; exact ⟨rfl, rfl, trivial⟩
    · refine Zcp 10 rfl ?_; refine Y1 rfl ?_; refine bindK h fun y11 hy11 h => ?_; refine W.call rfl (ref30_At_fn hy11) ?_; refine Zwc 4 rfl ?_; refine A.condB rfl h (fun _ h => ?_) (fun _ h => ?_)
      · refine Zcp 2 rfl ?_; refine Zo (.row 15 2 (([] : List api_Waiting) ++ l_).length) rfl rfl ?_; refine Zo (.row 15 2 (([] : List api_Waiting) ++ l_).length) rfl rfl ?_; refine Zpb 5 rfl ?_; cases h; cases hG; exact ⟨rfl, rfl, trivial⟩
      · refine Zcc 3 rfl ?_; refine A.regionC [0, 1, 2, 3, 4, 5, 6] (by kernel_rfl) ?_; refine R.at_ rfl rfl ?_; refine Zm (.row 35 1 0) (Mem.add _ 35 (.rows 4 (List.map api_Waiting.enc ([] : List api_Waiting)) false)) rfl rfl ?_; refine R.nil ?_; refine R.at_ rfl rfl ?_; refine Zo (VF (List.map api_Waiting.enc l_)) rfl rfl ?_; refine R.nil ?_; refine R.at_ rfl rfl ?_; refine Y1 rfl ?_; refine W.chk rfl (appChk (fun _ => rfl) g1) ?_; refine W.rows (0 + (List.map api_Waiting.enc l_).length) (([] : List api_Waiting) ++ l_).length ([] ++ (List.map api_Waiting.enc l_)) (List.map api_Waiting.enc (([] : List api_Waiting) ++ l_)) rfl (by first | rfl | (simp; done) | simp only [partMap, List.length_map, List.length_append, List.nil_append, Nat.zero_add, List.length_nil]) (by first | rfl | (simp; done) | simp only [partMap, List.map_append, List.nil_append, List.map_nil]) ?_; refine R.nil ?_; refine R.at_ rfl rfl ?_; refine Zo (.agg (api_Waiting.av w_)) rfl rfl ?_; refine R.nil ?_; refine R.at_ rfl rfl ?_; refine Zm (.row 39 1 1) (Mem.add _ 39 (.rows 4 (List.map api_Waiting.enc [w_]) false)) rfl rfl ?_; refine R.nil ?_; refine R.at_ rfl rfl ?_; refine Y1 rfl ?_; refine chkK h fun g13 h => ?_; refine W.chk rfl (appChk (fun _ => rfl) g13) ?_; refine W.app rfl rfl ?_; refine R.nil ?_; refine R.at_ rfl rfl ?_; refine Zo (.row 35 3 ((([] : List api_Waiting) ++ l_) ++ [w_]).length) rfl rfl ?_; refine R.nil ?_; refine R.end_ ?_; refine Zoc 2 rfl ?_; refine A.regionD (by kernel_rfl) ?_; refine Zo (.agg (api_Profile.av p_)) rfl rfl ?_; refine Zo (.row 35 3 ((([] : List api_Waiting) ++ l_) ++ [w_]).length) rfl rfl ?_; refine Zpp 2 rfl ?_; refine Y1 rfl ?_; refine bindK h fun y14 hy14 h => ?_; refine W.call rfl (ref30_Jobs_fn hy14) ?_; refine W.v (.row 46 1 (List.map api_Job.enc y14).length) (.row 46 1 y14.length) (Mem.add (Mem.set _ 35 3 (some (.rows 4 (List.map api_Waiting.enc ((([] : List api_Waiting) ++ l_) ++ [w_])) true))) 46 (.rows 3 (List.map api_Job.enc y14) false)) rfl (by simp only [List.length_map]) ?_; refine Zpp 1 rfl ?_; refine Y1 rfl ?_; refine bindK h fun y15 hy15 h => ?_; refine W.call rfl (ref29_Plan_fn hy15) ?_; refine W.v (.tup [.row 1048624 1 (List.map (encI .i64) y15.1).length, VI y15.2.1, VI y15.2.2]) (.tup [.row 1048624 1 y15.1.length, VI y15.2.1, VI y15.2.2]) (Mem.add (Mem.set _ 46 1 (some (.rows 3 (List.map api_Job.enc y14) true))) 1048624 (.rows 1 (List.map (encI .i64) y15.1) false)) rfl (by simp only [List.length_map]) ?_; refine Zo (.tup [.row 1048624 1 y15.1.length, VI y15.2.1, VI y15.2.2]) rfl rfl ?_; refine Zo (.row 1048624 1 y15.1.length) rfl rfl ?_; refine Zpp 2 rfl ?_; refine Zo (.row 1048624 1 y15.1.length) rfl rfl ?_; refine Zpc 11 rfl ?_; refine A.condB rfl h (fun _ h => ?_) (fun _ h => ?_)
        · refine Zcp 2 rfl ?_; refine Zo (.row 15 2 (([] : List api_Waiting) ++ l_).length) rfl rfl ?_; refine Zpp 1 rfl ?_; refine Zo (.row 15 2 (([] : List api_Waiting) ++ l_).length) rfl rfl ?_; refine Zpb 5 rfl ?_; cases h; cases hG; exact ⟨rfl, rfl, trivial⟩
        · refine Zcp 4 rfl ?_; refine Zo (.row 35 3 ((([] : List api_Waiting) ++ l_) ++ [w_]).length) rfl rfl ?_; refine Zo (.row 35 3 ((([] : List api_Waiting) ++ l_) ++ [w_]).length) rfl rfl ?_; refine Zpb 4 rfl ?_; cases h; cases hG; exact ⟨rfl, rfl, trivial⟩
noncomputable def ref30_Next_L1 (p_ : (List api_Waiting)) (p1_ : Int) (s3 : Int × Int) : Option ((Int × Int) ⊕ ((Int) ⊕ (Int))) :=
  (bif (decide (s3.2 < (p_.length : Int))) then
    (getI p_ s3.2).bind fun x46 =>
    (bif (x46.Net != p1_) then
      some (.inl (s3.1, (IntKind.i64.wrap (s3.2 + (1 : Int)))))
    else
      (bif (x46.Left == (0 : Int)) then
        some (.inl (s3.1, (IntKind.i64.wrap (s3.2 + (1 : Int)))))
      else
        (bif (decide (s3.1 < (0 : Int))) then
          some (.inl (s3.2, (IntKind.i64.wrap (s3.2 + (1 : Int)))))
        else
          (getI p_ s3.1).bind fun x48 =>
          (bif (decide (x46.Due < x48.Due)) then
            some (.inl (s3.2, (IntKind.i64.wrap (s3.2 + (1 : Int)))))
          else
            (bif (x46.Due == x48.Due) then
              (bif (decide (x46.Event < x48.Event)) then
                some (.inl (s3.2, (IntKind.i64.wrap (s3.2 + (1 : Int)))))
              else
                some (.inl (s3.1, (IntKind.i64.wrap (s3.2 + (1 : Int))))))
            else
              some (.inl (s3.1, (IntKind.i64.wrap (s3.2 + (1 : Int))))))))))
  else
    some (.inr (.inl s3.1)))
noncomputable def ref30_Next (p_ : (List api_Waiting)) (p1_ : Int) : Option (Int) :=
  (seqF (A := Int) (
    loopF (ref30_Next_L1 p_ p1_) ((-1 : Int), (0 : Int)))
  fun s2 =>
    some s2)
theorem ref30_Next_fn {p_ : (List api_Waiting)} {p1_ : Int} {r : Int} (h : ref30_Next p_ p1_ = some r) : Fn Tryz.prog 33 [VF (List.map api_Waiting.enc p_), VI p1_] (VI r) := by
  refine Fn.of_AW (F := FnX Tryz.prog) (base := 0) (js := [10]) mixed tok noeqs (fun _ _ _ h => h) Tryz.call33 Tryz.func33 rfl Tryz.ntmps33 (by rw [Tryz.results33]) (by simp) ?_; have hG : (fun x => x = r) r := rfl; unfold ref30_Next at h; refine Zac 10 rfl ?_; refine A.join (fun (s2 : Int) => [(5, VI s2)]) (fun s2 => []) _ h hG rfl ?_ ?_
  · intro J f h hG; refine Zac 6 rfl ?_; refine A.loop (fun (s3 : Int × Int) => [(0, VF (List.map api_Waiting.enc p_)), (1, VI p1_), (5, VI s3.1), (6, VI s3.2)]) (fun s3 => []) _ h hG (Zf [] [] rfl rfl (Ze rfl rfl (Ze rfl rfl (Ze rfl rfl (Ze rfl rfl trivial)))) trivial) ?_; intro J s3 f h hG; unfold ref30_Next_L1 at h; refine Zap 5 rfl ?_; refine Y1 rfl ?_; refine W.len rfl ?_; refine Zpc 3 rfl ?_; refine A.condB rfl h (fun _ h => ?_) (fun _ h => ?_)
    · refine Zcp 9 rfl ?_; refine Y1 rfl ?_; refine bindK h fun x46 hx46 h => ?_; refine W.chk rfl (elemB hx46) ?_; refine W.elem rfl (elemG hx46) ?_; refine W.chk rfl rfl ?_; refine W.det (.fp [.v (.int .i64 x46.Event), .v (.int .i64 x46.Net), .v (.int .i64 x46.Left), .v (.int .i64 x46.Due)]) _ rfl ?_; refine Zo (.fp [.v (.int .i64 x46.Net), .v (.int .i64 x46.Left), .v (.int .i64 x46.Due)]) rfl rfl ?_; refine Zpp 4 rfl ?_; refine YF rfl rfl rfl h (fun _ h => ?_) (fun _ h => ?_)
      · refine Zpb 18 rfl ?_; cases h; exact Zh hG [] [] rfl rfl (Ze rfl rfl (Ze rfl rfl (Ze rfl rfl (Ze rfl rfl trivial)))) trivial
      · refine Zwp 2 rfl ?_; refine Y2 rfl rfl rfl ?_; refine W.chk rfl (elemB hx46) ?_; refine W.elem rfl (elemG hx46) ?_; refine W.chk rfl rfl ?_; refine W.det (.fp [.v (.int .i64 x46.Event), .v (.int .i64 x46.Net), .v (.int .i64 x46.Left), .v (.int .i64 x46.Due)]) _ rfl ?_; refine Zu (.fp [.v (.int .i64 x46.Left), .v (.int .i64 x46.Due)]) rfl rfl rfl rfl ?_; refine Zpc 5 rfl ?_; refine A.condB rfl h (fun _ h => ?_) (fun _ h => ?_)
        · refine Zcb 9 rfl ?_; cases h; exact Zh hG [] [] rfl rfl (Ze rfl rfl (Ze rfl rfl (Ze rfl rfl (Ze rfl rfl trivial)))) trivial
        · refine Zcc 8 rfl ?_; refine A.condB rfl h (fun _ h => ?_) (fun _ h => ?_)
          · refine Zcb 11 rfl ?_; cases h; exact Zh hG [] [] rfl rfl (Ze rfl rfl (Ze rfl rfl (Ze rfl rfl (Ze rfl rfl trivial)))) trivial
          · refine Zcc 1 rfl ?_; refine A.regionD (by kernel_rfl) ?_; refine Zpp 2 rfl ?_; refine Y1 rfl ?_; refine W.chk rfl (elemB hx46) ?_; refine W.elem rfl (elemG hx46) ?_; refine W.chk rfl rfl ?_; refine W.det (.fp [.v (.int .i64 x46.Event), .v (.int .i64 x46.Net), .v (.int .i64 x46.Left), .v (.int .i64 x46.Due)]) _ rfl ?_; refine Zo (.fp [.v (.int .i64 x46.Due)]) rfl rfl ?_; refine Zpp 3 rfl ?_; refine Y1 rfl ?_; refine bindK h fun x48 hx48 h => ?_; refine W.chk rfl (elemB hx48) ?_; refine W.elem rfl (elemG hx48) ?_; refine W.chk rfl rfl ?_; refine W.det (.fp [.v (.int .i64 x48.Event), .v (.int .i64 x48.Net), .v (.int .i64 x48.Left), .v (.int .i64 x48.Due)]) _ rfl ?_; refine Zo (.fp [.v (.int .i64 x48.Due)]) rfl rfl ?_; refine Zpp 3 rfl ?_; refine YF rfl rfl rfl h (fun _ h => ?_) (fun _ h => ?_)
            · refine Zpb 38 rfl ?_; cases h; exact Zh hG [] [] rfl rfl (Ze rfl rfl (Ze rfl rfl (Ze rfl rfl (Ze rfl rfl trivial)))) trivial
            · refine Zwp 2 rfl ?_; refine Y2 rfl rfl rfl ?_; refine W.chk rfl (elemB hx46) ?_; refine W.elem rfl (elemG hx46) ?_; refine W.chk rfl rfl ?_; refine W.det (.fp [.v (.int .i64 x46.Event), .v (.int .i64 x46.Net), .v (.int .i64 x46.Left), .v (.int .i64 x46.Due)]) _ rfl ?_; refine Zu (.fp [.v (.int .i64 x46.Due)]) rfl rfl rfl rfl ?_; refine Zpp 3 rfl ?_; refine Y2 rfl rfl rfl ?_; refine W.chk rfl (elemB hx48) ?_; refine W.elem rfl (elemG hx48) ?_; refine W.chk rfl rfl ?_; refine W.det (.fp [.v (.int .i64 x48.Event), .v (.int .i64 x48.Net), .v (.int .i64 x48.Left), .v (.int .i64 x48.Due)]) _ rfl ?_; refine Zu (.fp [.v (.int .i64 x48.Due)]) rfl rfl rfl rfl ?_; refine Zpp 3 rfl ?_; refine YT rfl rfl rfl h (fun _ h => ?_) (fun _ h => ?_)
              · refine Zwp 2 rfl ?_; refine Y2 rfl rfl rfl ?_; refine W.chk rfl (elemB hx46) ?_; refine W.elem rfl (elemG hx46) ?_; refine W.chk rfl rfl ?_; refine W.det (.fp [.v (.int .i64 x46.Event), .v (.int .i64 x46.Net), .v (.int .i64 x46.Left), .v (.int .i64 x46.Due)]) _ rfl ?_; refine Zu (.fp [.v (.int .i64 x46.Event), .v (.int .i64 x46.Net), .v (.int .i64 x46.Left), .v (.int .i64 x46.Due)]) rfl rfl rfl rfl ?_; refine Zpp 3 rfl ?_; refine Y2 rfl rfl rfl ?_; refine W.chk rfl (elemB hx48) ?_; refine W.elem rfl (elemG hx48) ?_; refine W.chk rfl rfl ?_; refine W.det (.fp [.v (.int .i64 x48.Event), .v (.int .i64 x48.Net), .v (.int .i64 x48.Left), .v (.int .i64 x48.Due)]) _ rfl ?_; refine Zu (.fp [.v (.int .i64 x48.Event), .v (.int .i64 x48.Net), .v (.int .i64 x48.Left), .v (.int .i64 x48.Due)]) rfl rfl rfl rfl ?_; refine Zpc 6 rfl ?_; refine A.condB rfl h (fun _ h => ?_) (fun _ h => ?_)
                · refine Zcb 11 rfl ?_; cases h; exact Zh hG [] [] rfl rfl (Ze rfl rfl (Ze rfl rfl (Ze rfl rfl (Ze rfl rfl trivial)))) trivial
                · refine Zcb 8 rfl ?_; cases h; exact Zh hG [] [] rfl rfl (Ze rfl rfl (Ze rfl rfl (Ze rfl rfl (Ze rfl rfl trivial)))) trivial
              · refine Zpb 23 rfl ?_; cases h; exact Zh hG [] [] rfl rfl (Ze rfl rfl (Ze rfl rfl (Ze rfl rfl (Ze rfl rfl trivial)))) trivial
    · refine Zcb 2 rfl ?_; refine headK.e ?_; refine Zob 1 rfl ?_; cases h; exact Zh hG [] [] rfl rfl (Ze rfl rfl trivial) trivial
  · intro s2 r2 h hG; refine Zcb 7 rfl ?_; cases h; cases hG; exact ⟨rfl, trivial⟩
noncomputable def ref30_Step_L1 (p1_ : Int) (s3 : Int × (List api_Waiting) × (List Int)) : Option ((Int × (List api_Waiting) × (List Int)) ⊕ (((List api_Waiting) × (List Int)) ⊕ ((List Int) × (List api_Waiting)))) :=
  (bif (decide ((0 : Int) < s3.1)) then
    (ref30_Next s3.2.1 p1_).bind fun y55 =>
    (bif (decide (y55 < (0 : Int))) then
      some (.inr (.inl (s3.2.1, s3.2.2)))
    else
      (chkO (decide (0 ≤ y55) && decide (y55 < ((s3.2.1.length : Nat) : Int)))).bind fun _ =>
      (getI s3.2.1 y55).bind fun x57 =>
      (getI (List.set s3.2.1 y55.toNat (api_Waiting.mk x57.Event x57.Net (IntKind.i64.wrap (x57.Left - (if x57.Left < s3.1 then x57.Left else s3.1))) x57.Due)) y55).bind fun x61 =>
      (bif (x61.Left == (0 : Int)) then
        (chkO (decide (s3.2.2.length + [x61.Event].length ≤ 1000000))).bind fun _ =>
        some (.inl ((IntKind.i64.wrap (s3.1 - (if x57.Left < s3.1 then x57.Left else s3.1))), (List.set s3.2.1 y55.toNat (api_Waiting.mk x57.Event x57.Net (IntKind.i64.wrap (x57.Left - (if x57.Left < s3.1 then x57.Left else s3.1))) x57.Due)), (s3.2.2 ++ [x61.Event])))
      else
        some (.inl ((IntKind.i64.wrap (s3.1 - (if x57.Left < s3.1 then x57.Left else s3.1))), (List.set s3.2.1 y55.toNat (api_Waiting.mk x57.Event x57.Net (IntKind.i64.wrap (x57.Left - (if x57.Left < s3.1 then x57.Left else s3.1))) x57.Due)), s3.2.2))))
  else
    some (.inr (.inl (s3.2.1, s3.2.2))))
noncomputable def ref30_Step_L2 (s2 : ((List api_Waiting) × (List Int))) (s6 : Int × (List api_Waiting)) : Option ((Int × (List api_Waiting)) ⊕ (((List api_Waiting)) ⊕ ((List Int) × (List api_Waiting)))) :=
  (bif (decide (s6.1 < ((s2.1.length : Nat) : Int))) then
    (chkO (decide (0 ≤ s6.1) && decide (s6.1 < ((s2.1.length : Nat) : Int)))).bind fun _ =>
    (getI s2.1 s6.1).bind fun x109 =>
    (bif (decide ((0 : Int) < x109.Left)) then
      (chkO (decide (s6.2.length + [x109].length ≤ 1000000))).bind fun _ =>
      some (.inl ((IntKind.i64.wrap (s6.1 + (1 : Int))), (s6.2 ++ [x109])))
    else
      some (.inl ((IntKind.i64.wrap (s6.1 + (1 : Int))), s6.2)))
  else
    some (.inr (.inl s6.2)))
noncomputable def ref30_Step (p_ : api_Profile) (p1_ : Int) (p2_ : (List api_Waiting)) (p3_ : Bool) : Option ((List Int) × (List api_Waiting)) :=
  (chkO (decide (0 + p2_.length ≤ 1000000))).bind fun _ =>
  (bif (!p3_) then
    some (([] : List Int), (([] : List api_Waiting) ++ p2_))
  else
    (ref13_Check p_).bind fun y8 =>
    (bif (y8 != (0 : Int)) then
      some (([] : List Int), (([] : List api_Waiting) ++ p2_))
    else
      (ref30_Right p2_).bind fun y9 =>
      (bif (!y9) then
        some (([] : List Int), (([] : List api_Waiting) ++ p2_))
      else
        (seqF (A := (List api_Waiting) × (List Int)) (
          loopF (ref30_Step_L1 p1_) (p_.Rate, (([] : List api_Waiting) ++ p2_), ([] : List Int)))
        fun s2 =>
          (seqF (A := (List api_Waiting)) (
            loopF (ref30_Step_L2 s2) ((0 : Int), ([] : List api_Waiting)))
          fun s5 =>
            some (s2.2, s5))))))
theorem ref30_Step_fn {p_ : api_Profile} {p1_ : Int} {p2_ : (List api_Waiting)} {p3_ : Bool} {r : (List Int) × (List api_Waiting)} (h : ref30_Step p_ p1_ p2_ p3_ = some r) : Fn Tryz.prog 9 [.agg (api_Profile.av p_), VI p1_, VF (List.map api_Waiting.enc p2_), VB p3_] (.tup [.ow 1 (List.map (encI .i64) r.1), .ow 4 (List.map api_Waiting.enc r.2)]) := by
  refine Fn.of_AW (F := FnX Tryz.prog) (base := 0) (js := [14, 20]) mixed tok noeqs (fun _ _ _ h => h) Tryz.call9 Tryz.func9 rfl Tryz.ntmps9 (by rw [Tryz.results9]) (by simp) ?_; have hG : (fun x => x = r) r := rfl; unfold ref30_Step at h; refine Zap 2 rfl ?_; refine Zm (.lp 4 1 0) (Mem.add _ 4 (.box (api_Profile.av p_))) rfl rfl ?_; refine Zm (.row 8 1 0) (Mem.add _ 8 (.rows 1 (List.map (encI .i64) ([] : List Int)) false)) rfl rfl ?_; refine Zm (.row 9 1 0) (Mem.add _ 9 (.rows 4 (List.map api_Waiting.enc ([] : List api_Waiting)) false)) rfl rfl ?_; refine Zpp 4 rfl ?_; refine Zm (.row 17 1 0) (Mem.add _ 17 (.rows 4 (List.map api_Waiting.enc ([] : List api_Waiting)) false)) rfl rfl ?_; refine Zpp 1 rfl ?_; refine Y1 rfl ?_; refine chkK h fun g1 h => ?_; refine W.chk rfl (appChk (fun _ => rfl) g1) ?_; refine W.rows (0 + (List.map api_Waiting.enc p2_).length) (([] : List api_Waiting) ++ p2_).length ([] ++ (List.map api_Waiting.enc p2_)) (List.map api_Waiting.enc (([] : List api_Waiting) ++ p2_)) rfl (by first | rfl | (simp; done) | simp only [partMap, List.length_map, List.length_append, List.nil_append, Nat.zero_add, List.length_nil]) (by first | rfl | (simp; done) | simp only [partMap, List.map_append, List.nil_append, List.map_nil]) ?_; refine Zo (.row 17 2 (([] : List api_Waiting) ++ p2_).length) rfl rfl ?_; refine Zpp 8 rfl ?_; refine YF rfl rfl rfl h (fun _ h => ?_) (fun _ h => ?_)
  · refine Zpp 13 rfl ?_; refine Zo (.row 17 2 (([] : List api_Waiting) ++ p2_).length) rfl rfl ?_; refine Zm (.row 8 2 0) (Mem.add _ 8 (.rows 1 (List.map (encI .i64) ([] : List Int)) false)) rfl rfl ?_; refine Zo (.row 17 2 (([] : List api_Waiting) ++ p2_).length) rfl rfl ?_; refine Zpb 4 rfl ?_; cases h; cases hG; exact ⟨rfl, rfl, rfl, rfl, trivial⟩
  · refine W.det (.agg (api_Profile.av p_)) _ rfl ?_; refine Y2 rfl rfl rfl ?_; refine bindK h fun y8 hy8 h => ?_; refine W.call rfl (ref13_Check_fn hy8) ?_; refine Zwp 4 rfl ?_; refine YF rfl rfl rfl h (fun _ h => ?_) (fun _ h => ?_)
    · refine Zpp 8 rfl ?_; refine Zo (.row 17 2 (([] : List api_Waiting) ++ p2_).length) rfl rfl ?_; refine Zm (.row 8 2 0) (Mem.add _ 8 (.rows 1 (List.map (encI .i64) ([] : List Int)) false)) rfl rfl ?_; refine Zo (.row 17 2 (([] : List api_Waiting) ++ p2_).length) rfl rfl ?_; refine Zpb 4 rfl ?_; cases h; cases hG; exact ⟨rfl, rfl, rfl, rfl, trivial⟩
    · refine Zwp 1 rfl ?_; refine Y2 rfl rfl rfl ?_; refine bindK h fun y9 hy9 h => ?_; refine W.call rfl (ref30_Right_fn hy9) ?_; refine Zwc 5 rfl ?_; refine A.condB rfl h (fun _ h => ?_) (fun _ h => ?_)
      · refine Zcp 2 rfl ?_; refine Zo (.row 17 2 (([] : List api_Waiting) ++ p2_).length) rfl rfl ?_; refine Zm (.row 8 2 0) (Mem.add _ 8 (.rows 1 (List.map (encI .i64) ([] : List Int)) false)) rfl rfl ?_; refine Zo (.row 17 2 (([] : List api_Waiting) ++ p2_).length) rfl rfl ?_; refine Zpb 4 rfl ?_; cases h; cases hG; exact ⟨rfl, rfl, rfl, rfl, trivial⟩
      · refine Zcp 4 rfl ?_; refine Zm (.row 11 1 0) (Mem.add _ 11 (.rows 1 (List.map (encI .i64) ([] : List Int)) false)) rfl rfl ?_; refine Zpc 2 rfl ?_; refine A.join (fun (s2 : (List api_Waiting) × (List Int)) => [(10, .row 900000 1 s2.1.length), (11, .row 900001 1 s2.2.length)]) (fun s2 => [(900000, .rows 4 (List.map api_Waiting.enc s2.1) false), (900001, .rows 1 (List.map (encI .i64) s2.2) false)]) _ h hG rfl ?_ ?_
        · intro J f h hG; refine Zac 8 rfl ?_; refine A.loop (fun (s3 : Int × (List api_Waiting) × (List Int)) => [(1, VI p1_), (10, .row 900000 1 s3.2.1.length), (11, .row 900001 1 s3.2.2.length), (12, VI s3.1)]) (fun s3 => [(900000, .rows 4 (List.map api_Waiting.enc s3.2.1) false), (900001, .rows 1 (List.map (encI .i64) s3.2.2) false)]) _ h hG (Zf [] [(900000, (17, 2)), (900001, (11, 1))] rfl rfl (Ze rfl rfl (Ze rfl rfl (Ze rfl rfl (Ze rfl rfl trivial)))) (Zc rfl rfl (Zc rfl rfl trivial))) ?_; intro J s3 f h hG; unfold ref30_Step_L1 at h; refine Zac 7 rfl ?_; refine A.condB rfl h (fun _ h => ?_) (fun _ h => ?_)
          · refine Zcp 5 rfl ?_; refine Zo (.row 900000 1 s3.2.1.length) rfl rfl ?_; refine Zpp 1 rfl ?_; refine Y1 rfl ?_; refine bindK h fun y55 hy55 h => ?_; refine W.call rfl (ref30_Next_fn hy55) ?_; refine Zwc 11 rfl ?_; refine A.condB rfl h (fun _ h => ?_) (fun _ h => ?_)
            · refine Zcb 3 rfl ?_; refine headK.e ?_; refine Zob 1 rfl ?_; cases h; exact Zh hG [] [(900000, (900000, 1)), (900001, (900001, 1))] rfl rfl (Ze rfl rfl (Ze rfl rfl trivial)) (Zc rfl rfl (Zc rfl rfl trivial))
            · refine Zcp 5 rfl ?_; refine Zo (.row 900000 1 s3.2.1.length) rfl rfl ?_; refine Zpp 1 rfl ?_; refine Y1 rfl ?_; refine chkK h fun g56 h => ?_; refine W.chk rfl (by simpa using g56) ?_; refine W.det (.rp 900000 1 y55.toNat 0) _ rfl ?_; refine Zo (.rp 900000 1 y55.toNat 2) rfl rfl ?_; refine Y1 rfl ?_; refine bindK h fun x57 hx57 h => ?_; refine W.elem rfl (elemG hx57) ?_; refine Zwp 7 rfl ?_; refine Zo (.row 900000 1 s3.2.1.length) rfl rfl ?_; refine Zpp 1 rfl ?_; refine Zo (.row 900000 1 s3.2.1.length) rfl rfl ?_; refine Zpp 1 rfl ?_; refine Y1 rfl ?_; refine W.chk rfl (by simpa using g56) ?_; refine W.det (.rp 900000 1 y55.toNat 0) _ rfl ?_; refine Zo (.rp 900000 1 y55.toNat 2) rfl rfl ?_; refine Y1 rfl ?_; refine W.elem rfl (elemG hx57) ?_; refine Zwp 3 rfl ?_; refine Y1 rfl ?_; refine W.chk rfl (by simpa using g56) ?_; refine W.det (.rp 900000 1 y55.toNat 0) _ rfl ?_; refine Zo (.rp 900000 1 y55.toNat 2) rfl rfl ?_; refine Y1 rfl ?_; refine W.elem rfl (elemG hx57) ?_; refine W.set (api_Waiting.mk x57.Event x57.Net (IntKind.i64.wrap (x57.Left - (if x57.Left < s3.1 then x57.Left else s3.1))) x57.Due) rfl rfl ?_; refine Zpp 12 rfl ?_; refine Zo (.row 900000 1 s3.2.1.length) rfl rfl ?_; refine Zpp 1 rfl ?_; refine Y1 rfl ?_; refine W.chk rfl (by simpa using g56) ?_; refine W.det (.rp 900000 1 y55.toNat 0) _ rfl ?_; refine Zo (.rp 900000 1 y55.toNat 2) rfl rfl ?_; refine Y1 rfl ?_; refine bindK h fun x61 hx61 h => ?_; refine W.elem rfl (elemG hx61) ?_; refine Zwc 4 rfl ?_; refine A.condB rfl h (fun _ h => ?_) (fun _ h => ?_)
              · refine Zcp 1 rfl ?_; refine Zo (.row 900001 1 s3.2.2.length) rfl rfl ?_; refine Zo (.row 900000 1 s3.2.1.length) rfl rfl ?_; refine Zpp 1 rfl ?_; refine Y1 rfl ?_; refine W.chk rfl (by simpa using g56) ?_; refine W.det (.rp 900000 1 y55.toNat 0) _ rfl ?_; refine Zo (.rp 900000 1 y55.toNat 0) rfl rfl ?_; refine Y1 rfl ?_; refine W.elem rfl (elemG hx61) ?_; refine Zwp 1 rfl ?_; refine Zm (.row 75 2 1) (Mem.add _ 75 (.rows 1 (List.map (encI .i64) [x61.Event]) false)) rfl rfl ?_; refine Y1 rfl ?_; refine chkK h fun g63 h => ?_; refine W.chk rfl (appChk (fun _ => rfl) g63) ?_; refine W.app rfl rfl ?_; refine Zo (.row 900001 2 (s3.2.2 ++ [x61.Event]).length) rfl rfl ?_; refine Zpb 2 rfl ?_; cases h; exact Zh hG [] [(900000, (900000, 1)), (900001, (900001, 2))] rfl rfl (Ze rfl rfl (chkE.c rfl (by simp only [List.length_set]; rfl) (Ze rfl rfl (Ze rfl rfl trivial)))) (Zc rfl rfl (Zc rfl rfl trivial))
              · refine Zcb 2 rfl ?_; cases h; exact Zh hG [] [(900000, (900000, 1)), (900001, (900001, 1))] rfl rfl (Ze rfl rfl (chkE.c rfl (by simp only [List.length_set]; rfl) (Ze rfl rfl (Ze rfl rfl trivial)))) (Zc rfl rfl (Zc rfl rfl trivial))
          · refine Zcb 2 rfl ?_; refine headK.e ?_; refine Zob 1 rfl ?_; cases h; exact Zh hG [] [(900000, (900000, 1)), (900001, (900001, 1))] rfl rfl (Ze rfl rfl (Ze rfl rfl trivial)) (Zc rfl rfl (Zc rfl rfl trivial))
        · intro s2 r2 h hG; refine Zcp 2 rfl ?_; refine Zm (.row 15 2 0) (Mem.add _ 15 (.rows 4 (List.map api_Waiting.enc ([] : List api_Waiting)) false)) rfl rfl ?_; refine Zpc 2 rfl ?_; refine A.join (fun (s5 : (List api_Waiting)) => [(11, .row 900000 1 s2.2.length), (15, .row 900001 1 s5.length)]) (fun s5 => [(900000, .rows 1 (List.map (encI .i64) s2.2) false), (900001, .rows 4 (List.map api_Waiting.enc s5) false)]) _ h hG rfl ?_ ?_
          · intro J f h hG; refine Zac 6 rfl ?_; refine A.loop (fun (s6 : Int × (List api_Waiting)) => [(10, .row 900000 1 s2.1.length), (11, .row 900001 1 s2.2.length), (15, .row 900002 1 s6.2.length), (16, VI s6.1)]) (fun s6 => [(900000, .rows 4 (List.map api_Waiting.enc s2.1) false), (900001, .rows 1 (List.map (encI .i64) s2.2) false), (900002, .rows 4 (List.map api_Waiting.enc s6.2) false)]) _ h hG (Zf [] [(900000, (900000, 1)), (900001, (900001, 1)), (900002, (15, 2))] rfl rfl (Ze rfl rfl (Ze rfl rfl (Ze rfl rfl (Ze rfl rfl trivial)))) (Zc rfl rfl (Zc rfl rfl (Zc rfl rfl trivial)))) ?_; intro J s6 f h hG; unfold ref30_Step_L2 at h; refine Zap 4 rfl ?_; refine Zo (.row 900000 1 s2.1.length) rfl rfl ?_; refine Zpc 4 rfl ?_; refine A.condB rfl h (fun _ h => ?_) (fun _ h => ?_)
            · refine Zcp 6 rfl ?_; refine Zo (.row 900000 1 s2.1.length) rfl rfl ?_; refine Zpp 1 rfl ?_; refine Y1 rfl ?_; refine chkK h fun g108 h => ?_; refine W.chk rfl (by simpa using g108) ?_; refine W.det (.rp 900000 1 s6.1.toNat 0) _ rfl ?_; refine Zo (.rp 900000 1 s6.1.toNat 2) rfl rfl ?_; refine Y1 rfl ?_; refine bindK h fun x109 hx109 h => ?_; refine W.elem rfl (elemG hx109) ?_; refine Zwc 4 rfl ?_; refine A.condB rfl h (fun _ h => ?_) (fun _ h => ?_)
              · refine Zcp 1 rfl ?_; refine Zo (.row 900002 1 s6.2.length) rfl rfl ?_; refine Zo (.row 900000 1 s2.1.length) rfl rfl ?_; refine Zpp 1 rfl ?_; refine Y1 rfl ?_; refine W.chk rfl (by simpa using g108) ?_; refine W.det (.rp 900000 1 s6.1.toNat 0) _ rfl ?_; refine Y1 rfl ?_; refine W.elem rfl (elemG hx109) ?_; refine W.det (.agg (api_Waiting.av x109)) _ rfl ?_; refine Zm (.row 94 2 1) (Mem.add _ 94 (.rows 4 (List.map api_Waiting.enc [x109]) false)) rfl rfl ?_; refine Y1 rfl ?_; refine chkK h fun g111 h => ?_; refine W.chk rfl (appChk (fun _ => rfl) g111) ?_; refine W.app rfl rfl ?_; refine Zo (.row 900002 2 (s6.2 ++ [x109]).length) rfl rfl ?_; refine Zpb 8 rfl ?_; cases h; exact Zh hG [] [(900000, (900000, 1)), (900001, (900001, 1)), (900002, (900002, 2))] rfl rfl (Ze rfl rfl (Ze rfl rfl (Ze rfl rfl (Ze rfl rfl trivial)))) (Zc rfl rfl (Zc rfl rfl (Zc rfl rfl trivial)))
              · refine Zcb 8 rfl ?_; cases h; exact Zh hG [] [(900000, (900000, 1)), (900001, (900001, 1)), (900002, (900002, 1))] rfl rfl (Ze rfl rfl (Ze rfl rfl (Ze rfl rfl (Ze rfl rfl trivial)))) (Zc rfl rfl (Zc rfl rfl (Zc rfl rfl trivial)))
            · refine Zcb 2 rfl ?_; refine headK.e ?_; refine Zob 1 rfl ?_; cases h; exact Zh hG [] [(900000, (900001, 1)), (900001, (900002, 1))] rfl rfl (Ze rfl rfl (Ze rfl rfl trivial)) (Zc rfl rfl (Zc rfl rfl trivial))
          · intro s5 r2 h hG; refine Zcp 2 rfl ?_; refine Zo (.row 900000 1 s2.2.length) rfl rfl ?_; refine Zo (.row 900001 1 s5.length) rfl rfl ?_; refine Zo (.row 900000 1 s2.2.length) rfl rfl ?_; refine Zo (.row 900001 1 s5.length) rfl rfl ?_; refine Zpb 3 rfl ?_; cases h; cases hG; exact ⟨rfl, rfl, rfl, rfl, trivial⟩
noncomputable def ref30_Late_L1 (l_ : (List api_Waiting)) (now_ : Int) (s1 : (Int × (List Int))) (s10 : Int × Int) : Option ((Int × Int) ⊕ ((Int) ⊕ ((Int × (List Int)) ⊕ ((List Int))))) :=
  (bif (decide (s10.2 < (l_.length : Int))) then
    (getI l_ s10.2).bind fun x76 =>
    (bif (decide (x76.Due ≤ now_)) then
      (bif (decide (s1.1 < x76.Event)) then
        (bif (decide (s10.1 < (0 : Int))) then
          some (.inl (x76.Event, (IntKind.i64.wrap (s10.2 + (1 : Int)))))
        else
          (bif (decide (x76.Event < s10.1)) then
            some (.inl (x76.Event, (IntKind.i64.wrap (s10.2 + (1 : Int)))))
          else
            some (.inl (s10.1, (IntKind.i64.wrap (s10.2 + (1 : Int)))))))
      else
        some (.inl (s10.1, (IntKind.i64.wrap (s10.2 + (1 : Int))))))
    else
      some (.inl (s10.1, (IntKind.i64.wrap (s10.2 + (1 : Int))))))
  else
    some (.inr (.inl s10.1)))
noncomputable def ref30_Late_L2 (l_ : (List api_Waiting)) (now_ : Int) (s1 : Int × (List Int)) : Option ((Int × (List Int)) ⊕ ((List Int))) :=
  (seqF (A := Int) (
    loopF (ref30_Late_L1 l_ now_ s1) ((-1 : Int), (0 : Int)))
  fun s9 =>
    (bif (decide (s9 < (0 : Int))) then
      some (.inr s1.2)
    else
      (chkO (decide (s1.2.length + [s9].length ≤ 1000000))).bind fun _ =>
      some (.inl (s9, (s1.2 ++ [s9])))))
noncomputable def ref30_Late (l_ : (List api_Waiting)) (now_ : Int) : Option ((List Int)) :=
  (ref30_Right l_).bind fun y2 =>
  (bif (!y2) then
    some ([] : List Int)
  else
    loopF (ref30_Late_L2 l_ now_) ((-1 : Int), ([] : List Int)))
theorem ref30_Late_fn {l_ : (List api_Waiting)} {now_ : Int} {r : (List Int)} (h : ref30_Late l_ now_ = some r) : Fn Tryz.prog 13 [VF (List.map api_Waiting.enc l_), VI now_] (.ow 1 (List.map (encI .i64) r)) := by
  refine Fn.of_AW (F := FnX Tryz.prog) (base := 0) (js := [11]) mixed tok noeqs (fun _ _ _ h => h) Tryz.call13 Tryz.func13 rfl Tryz.ntmps13 (by rw [Tryz.results13]) (by simp) ?_; have hG : (fun x => x = r) r := rfl; unfold ref30_Late at h; refine Zap 2 rfl ?_; refine Zm (.row 4 1 0) (Mem.add _ 4 (.rows 1 (List.map (encI .i64) ([] : List Int)) false)) rfl rfl ?_; refine Zpp 6 rfl ?_; refine Y1 rfl ?_; refine bindK h fun y2 hy2 h => ?_; refine W.call rfl (ref30_Right_fn hy2) ?_; refine Zwc 4 rfl ?_; refine A.condB rfl h (fun _ h => ?_) (fun _ h => ?_)
  · refine Zcp 2 rfl ?_; refine Zm (.row 4 2 0) (Mem.add _ 4 (.rows 1 (List.map (encI .i64) ([] : List Int)) false)) rfl rfl ?_; refine Zpb 4 rfl ?_; cases h; cases hG; exact ⟨rfl, rfl, trivial⟩
  · refine Zcp 4 rfl ?_; refine Zm (.row 5 1 0) (Mem.add _ 5 (.rows 1 (List.map (encI .i64) ([] : List Int)) false)) rfl rfl ?_; refine Zpc 8 rfl ?_; refine A.loop (fun (s1 : Int × (List Int)) => [(0, VF (List.map api_Waiting.enc l_)), (1, VI now_), (5, .row 900000 1 s1.2.length), (6, VI s1.1)]) (fun s1 => [(900000, .rows 1 (List.map (encI .i64) s1.2) false)]) _ h hG (Zf [] [(900000, (5, 1))] rfl rfl (Ze rfl rfl (Ze rfl rfl (Ze rfl rfl (Ze rfl rfl trivial)))) (Zc rfl rfl trivial)) ?_; intro J s1 f h hG; unfold ref30_Late_L2 at h; refine Zac 6 rfl ?_; refine A.join (fun (s9 : Int) => [(0, VF (List.map api_Waiting.enc l_)), (1, VI now_), (5, .row 900000 1 s1.2.length), (7, VI s9)]) (fun s9 => [(900000, .rows 1 (List.map (encI .i64) s1.2) false)]) _ h hG rfl ?_ ?_
    · intro J f h hG; refine Zac 6 rfl ?_; refine A.loop (fun (s10 : Int × Int) => [(0, VF (List.map api_Waiting.enc l_)), (1, VI now_), (5, .row 900000 1 s1.2.length), (6, VI s1.1), (7, VI s10.1), (8, VI s10.2)]) (fun s10 => [(900000, .rows 1 (List.map (encI .i64) s1.2) false)]) _ h hG (Zf [] [(900000, (900000, 1))] rfl rfl (Ze rfl rfl (Ze rfl rfl (Ze rfl rfl (Ze rfl rfl (Ze rfl rfl (Ze rfl rfl trivial)))))) (Zc rfl rfl trivial)) ?_; intro J s10 f h hG; unfold ref30_Late_L1 at h; refine Zap 5 rfl ?_; refine Y1 rfl ?_; refine W.len rfl ?_; refine Zpc 3 rfl ?_; refine A.condB rfl h (fun _ h => ?_) (fun _ h => ?_)
      · refine Zcp 8 rfl ?_; refine Y1 rfl ?_; refine bindK h fun x76 hx76 h => ?_; refine W.chk rfl (elemB hx76) ?_; refine W.elem rfl (elemG hx76) ?_; refine W.chk rfl rfl ?_; refine W.det (.fp [.v (.int .i64 x76.Event), .v (.int .i64 x76.Net), .v (.int .i64 x76.Left), .v (.int .i64 x76.Due)]) _ rfl ?_; refine Zo (.fp [.v (.int .i64 x76.Due)]) rfl rfl ?_; refine Zpp 4 rfl ?_; refine YT rfl rfl rfl h (fun _ h => ?_) (fun _ h => ?_)
        · refine Zwp 2 rfl ?_; refine Y2 rfl rfl rfl ?_; refine W.chk rfl (elemB hx76) ?_; refine W.elem rfl (elemG hx76) ?_; refine W.chk rfl rfl ?_; refine W.det (.fp [.v (.int .i64 x76.Event), .v (.int .i64 x76.Net), .v (.int .i64 x76.Left), .v (.int .i64 x76.Due)]) _ rfl ?_; refine Zu (.fp [.v (.int .i64 x76.Event), .v (.int .i64 x76.Net), .v (.int .i64 x76.Left), .v (.int .i64 x76.Due)]) rfl rfl rfl rfl ?_; refine Zpp 5 rfl ?_; refine YT rfl rfl rfl h (fun _ h => ?_) (fun _ h => ?_)
          · refine Zwp 3 rfl ?_; refine YF rfl rfl rfl h (fun _ h => ?_) (fun _ h => ?_)
            · refine Zpp 14 rfl ?_; refine Y1 rfl ?_; refine W.chk rfl (elemB hx76) ?_; refine W.elem rfl (elemG hx76) ?_; refine W.chk rfl rfl ?_; refine W.det (.fp [.v (.int .i64 x76.Event), .v (.int .i64 x76.Net), .v (.int .i64 x76.Left), .v (.int .i64 x76.Due)]) _ rfl ?_; refine Zo (.fp [.v (.int .i64 x76.Event), .v (.int .i64 x76.Net), .v (.int .i64 x76.Left), .v (.int .i64 x76.Due)]) rfl rfl ?_; refine Zpb 10 rfl ?_; cases h; exact Zh hG [] [(900000, (900000, 1))] rfl rfl (Ze rfl rfl (Ze rfl rfl (Ze rfl rfl (Ze rfl rfl (Ze rfl rfl (Ze rfl rfl trivial)))))) (Zc rfl rfl trivial)
            · refine Zwp 2 rfl ?_; refine Y2 rfl rfl rfl ?_; refine W.chk rfl (elemB hx76) ?_; refine W.elem rfl (elemG hx76) ?_; refine W.chk rfl rfl ?_; refine W.det (.fp [.v (.int .i64 x76.Event), .v (.int .i64 x76.Net), .v (.int .i64 x76.Left), .v (.int .i64 x76.Due)]) _ rfl ?_; refine Zu (.fp [.v (.int .i64 x76.Event), .v (.int .i64 x76.Net), .v (.int .i64 x76.Left), .v (.int .i64 x76.Due)]) rfl rfl rfl rfl ?_; refine Zpc 7 rfl ?_; refine A.condB rfl h (fun _ h => ?_) (fun _ h => ?_)
              · refine Zcp 3 rfl ?_; refine Y1 rfl ?_; refine W.chk rfl (elemB hx76) ?_; refine W.elem rfl (elemG hx76) ?_; refine W.chk rfl rfl ?_; refine W.det (.fp [.v (.int .i64 x76.Event), .v (.int .i64 x76.Net), .v (.int .i64 x76.Left), .v (.int .i64 x76.Due)]) _ rfl ?_; refine Zo (.fp [.v (.int .i64 x76.Event), .v (.int .i64 x76.Net), .v (.int .i64 x76.Left), .v (.int .i64 x76.Due)]) rfl rfl ?_; refine Zpb 10 rfl ?_; cases h; exact Zh hG [] [(900000, (900000, 1))] rfl rfl (Ze rfl rfl (Ze rfl rfl (Ze rfl rfl (Ze rfl rfl (Ze rfl rfl (Ze rfl rfl trivial)))))) (Zc rfl rfl trivial)
              · refine Zcb 8 rfl ?_; cases h; exact Zh hG [] [(900000, (900000, 1))] rfl rfl (Ze rfl rfl (Ze rfl rfl (Ze rfl rfl (Ze rfl rfl (Ze rfl rfl (Ze rfl rfl trivial)))))) (Zc rfl rfl trivial)
          · refine Zpb 22 rfl ?_; cases h; exact Zh hG [] [(900000, (900000, 1))] rfl rfl (Ze rfl rfl (Ze rfl rfl (Ze rfl rfl (Ze rfl rfl (Ze rfl rfl (Ze rfl rfl trivial)))))) (Zc rfl rfl trivial)
        · refine Zpb 31 rfl ?_; cases h; exact Zh hG [] [(900000, (900000, 1))] rfl rfl (Ze rfl rfl (Ze rfl rfl (Ze rfl rfl (Ze rfl rfl (Ze rfl rfl (Ze rfl rfl trivial)))))) (Zc rfl rfl trivial)
      · refine Zcb 2 rfl ?_; refine headK.e ?_; refine Zob 1 rfl ?_; cases h; exact Zh hG [] [(900000, (900000, 1))] rfl rfl (Ze rfl rfl (Ze rfl rfl (Ze rfl rfl (Ze rfl rfl trivial)))) (Zc rfl rfl trivial)
    · intro s9 r2 h hG; refine Zcc 7 rfl ?_; refine A.condB rfl h (fun _ h => ?_) (fun _ h => ?_)
      · refine Zcp 2 rfl ?_; refine Zo (.row 900000 1 s1.2.length) rfl rfl ?_; refine Zo (.row 900000 1 s1.2.length) rfl rfl ?_; refine Zpb 5 rfl ?_; refine headK.r ?_; refine Zob 1 rfl ?_; cases h; cases hG; exact ⟨rfl, rfl, trivial⟩
      · refine Zcp 4 rfl ?_; refine Zo (.row 900000 1 s1.2.length) rfl rfl ?_; refine Zpp 1 rfl ?_; refine Zm (.row 57 2 1) (Mem.add _ 57 (.rows 1 (List.map (encI .i64) [s9]) false)) rfl rfl ?_; refine Y1 rfl ?_; refine chkK h fun g77 h => ?_; refine W.chk rfl (appChk (fun _ => rfl) g77) ?_; refine W.app rfl rfl ?_; refine Zo (.row 900000 2 (s1.2 ++ [s9]).length) rfl rfl ?_; refine Zpb 7 rfl ?_; cases h; exact Zh hG [] [(900000, (900000, 2))] rfl rfl (Ze rfl rfl (Ze rfl rfl (Ze rfl rfl (Ze rfl rfl trivial)))) (Zc rfl rfl trivial)
end Go.Proofs.YtbijnfgjcbfpmaaGreat

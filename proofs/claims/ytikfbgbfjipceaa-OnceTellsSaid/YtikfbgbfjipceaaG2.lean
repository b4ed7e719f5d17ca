/-
  Plain programs of functions, and that the functions do what they say. Printed by wip/tools/gen.py.
-/
import Derived.Test.YtikfbgbfjipceaaX1
namespace Go.Proofs.Ytikfbgbfjipceaa
open Go.RowKit
attribute [local irreducible] IntKind.wrap
set_option linter.unusedVariables false
set_option maxHeartbeats 4000000
set_option maxRecDepth 100000
noncomputable def law32_same (a_ : once_List) (b_ : once_List) : Option (Bool) :=
  (bif (a_.Low == b_.Low) then
    (ref32_Same a_.Ranges b_.Ranges).bind fun y1 =>
    some y1
  else
    some false)
theorem law32_same_fn {a_ : once_List} {b_ : once_List} {r : Bool} (h : law32_same a_ b_ = some r) : Fn Try.prog 17 [.agg [.d (.v (.int .i64 a_.Low)), .d (.fz (List.map Arr2_Int.enc a_.Ranges))], .agg [.d (.v (.int .i64 b_.Low)), .d (.fz (List.map Arr2_Int.enc b_.Ranges))]] (.d (.v (.bool r))) := by
  refine Fn.of_AW (F := FnX Try.prog) (base := 0) (js := []) mixed tok noeqs (fun _ _ _ h => h) Try.call17 Try.func17 rfl Try.ntmps17 (by rw [Try.results17]) (by simp) ?_
  have hG : (fun x => x = r) r := rfl
  unfold law32_same at h
  refine A.seq rfl ?_
  refine A.region ?_
  refine R.one rfl ?_
  refine W.det (.lp 2 1 0) (Mem.add _ 2 (.box [.d (.v (.int .i64 a_.Low)), .d (.fz (List.map Arr2_Int.enc a_.Ranges))])) rfl ?_
  refine R.one rfl ?_
  refine W.det (.lp 3 1 0) (Mem.add _ 3 (.box [.d (.v (.int .i64 b_.Low)), .d (.fz (List.map Arr2_Int.enc b_.Ranges))])) rfl ?_
  refine R.one rfl ?_
  refine W.det (.kb false) _ rfl ?_
  refine R.nil ?_
  refine seqK.n ?_
  refine A.seq rfl ?_
  refine A.region ?_
  refine R.one rfl ?_
  refine W.det (.lp 2 1 0) _ rfl ?_
  refine R.one rfl ?_
  refine W.det (.d (.v (.int .i64 a_.Low))) _ rfl ?_
  refine R.one rfl ?_
  refine W.det (.lp 3 1 0) _ rfl ?_
  refine R.one rfl ?_
  refine W.det (.d (.v (.int .i64 b_.Low))) _ rfl ?_
  refine R.one rfl ?_
  refine W.det (.d (.v (.bool (a_.Low == b_.Low)))) _ rfl ?_
  refine R.one rfl ?_
  refine W.det (.d (.v (.bool (a_.Low == b_.Low)))) _ rfl ?_
  refine R.gT rfl rfl rfl h (fun _ h => ?_) (fun _ h => ?_)
  · refine W.det (.lp 2 1 1) _ rfl ?_
    refine R.run rfl rfl rfl ?_
    refine W.det (.d (.fz (List.map Arr2_Int.enc a_.Ranges))) _ rfl ?_
    refine R.run rfl rfl rfl ?_
    refine W.det (.lp 3 1 1) _ rfl ?_
    refine R.run rfl rfl rfl ?_
    refine W.det (.d (.fz (List.map Arr2_Int.enc b_.Ranges))) _ rfl ?_
    refine R.run rfl rfl rfl ?_
    refine bindK h fun y1 hy1 h => ?_
    refine W.call rfl (ref32_Same_fn hy1) ?_
    refine W.det (.d (.v (.bool y1))) _ rfl ?_
    refine R.one rfl ?_
    refine W.det (.d (.v (.bool y1))) _ rfl ?_
    refine R.one rfl ?_
    refine W.det (.d (.v (.bool y1))) _ rfl ?_
    refine R.nil ?_
    refine seqK.n ?_
    refine A.ret ?_
    injection h with h
    subst h
    cases hG
    exact ⟨rfl, trivial⟩
  · refine R.skip rfl rfl rfl ?_
    refine R.skip rfl rfl rfl ?_
    refine R.skip rfl rfl rfl ?_
    refine R.skip rfl rfl rfl ?_
    refine R.one rfl ?_
    refine W.det (.kb false) _ rfl ?_
    refine R.one rfl ?_
    refine W.det (.kb false) _ rfl ?_
    refine R.nil ?_
    refine seqK.n ?_
    refine A.ret ?_
    injection h with h
    subst h
    cases hG
    exact ⟨rfl, trivial⟩
noncomputable def law32_small : Option (Bool) :=
  (law32_list (3 : Int) [(Arr2_Int.mk (5 : Int) (7 : Int))]).bind fun y1 =>
  (once_Take y1 (4 : Int) (9 : Int)).bind fun y2 =>
  (once_Take y1 (3 : Int) (9 : Int)).bind fun y3 =>
  (once_Take y1 (6 : Int) (9 : Int)).bind fun y4 =>
  (once_Take y1 (9 : Int) (9 : Int)).bind fun y5 =>
  (once_Take y1 (9 : Int) (1 : Int)).bind fun y6 =>
  (once_Take (once_List.mk y3.1.Low y3.1.Ranges) (4 : Int) (9 : Int)).bind fun y7 =>
  (seqF (A := Bool) (
    (law32_list (3 : Int) [(Arr2_Int.mk (4 : Int) (7 : Int))]).bind fun y19 =>
    (law32_same (once_List.mk y2.1.Low y2.1.Ranges) y19).bind fun y20 =>
    (bif y20 then
      (law32_list (4 : Int) [(Arr2_Int.mk (5 : Int) (7 : Int))]).bind fun y21 =>
      (law32_same (once_List.mk y3.1.Low y3.1.Ranges) y21).bind fun y22 =>
      (bif y22 then
        (law32_same (once_List.mk y4.1.Low y4.1.Ranges) y1).bind fun y23 =>
        (bif y23 then
          (law32_list (3 : Int) [(Arr2_Int.mk (5 : Int) (7 : Int)), (Arr2_Int.mk (9 : Int) (10 : Int))]).bind fun y24 =>
          (law32_same (once_List.mk y5.1.Low y5.1.Ranges) y24).bind fun y25 =>
          (bif y25 then
            (law32_list (7 : Int) [(Arr2_Int.mk (9 : Int) (10 : Int))]).bind fun y26 =>
            (law32_same (once_List.mk y6.1.Low y6.1.Ranges) y26).bind fun y27 =>
            (bif y27 then
              (law32_list (7 : Int) ([] : List Arr2_Int)).bind fun y28 =>
              (law32_same (once_List.mk y7.1.Low y7.1.Ranges) y28).bind fun y29 =>
              some (.inl y29)
            else
              some (.inl false))
          else
            some (.inl false))
        else
          some (.inl false))
      else
        some (.inl false))
    else
      some (.inl false)))
  fun s1 =>
    (bif s1 then
      (bif y2.2 then
        (bif y3.2 then
          (bif (!y4.2) then
            (bif y5.2 then
              (bif y6.2 then
                (bif y7.2 then
                  (once_Has y1 (2 : Int)).bind fun y30 =>
                  (bif y30 then
                    (once_Has y1 (3 : Int)).bind fun y31 =>
                    (bif (!y31) then
                      (once_Has y1 (5 : Int)).bind fun y32 =>
                      (bif y32 then
                        (once_Has y1 (7 : Int)).bind fun y33 =>
                        (bif (!y33) then
                          (once_Floor y1).bind fun y34 =>
                          (bif (y34 == (3 : Int)) then
                            (once_Right y1).bind fun y35 =>
                            (bif y35 then
                              (law32_list (3 : Int) [(Arr2_Int.mk (3 : Int) (4 : Int))]).bind fun y36 =>
                              (once_Right y36).bind fun y37 =>
                              some (!y37)
                            else
                              some false)
                          else
                            some false)
                        else
                          some false)
                      else
                        some false)
                    else
                      some false)
                  else
                    some false)
                else
                  some false)
              else
                some false)
            else
              some false)
          else
            some false)
        else
          some false)
      else
        some false)
    else
      some false))
theorem law32_small_fn {r : Bool} (h : law32_small = some r) : Fn Try.prog 7 [] (.d (.v (.bool r))) := by
  refine Fn.of_AW (F := FnX Try.prog) (base := 0) (js := [9]) mixed tok noeqs (fun _ _ _ h => h) Try.call7 Try.func7 rfl Try.ntmps7 (by rw [Try.results7]) (by simp) ?_
  have hG : (fun x => x = r) r := rfl
  unfold law32_small at h
  refine A.seq rfl ?_
  refine A.region ?_
  refine R.one rfl ?_
  refine W.det (.kb false) _ rfl ?_
  refine R.nil ?_
  refine seqK.n ?_
  refine A.seq rfl ?_
  refine A.region ?_
  refine R.one rfl ?_
  refine W.det (.agg [.d (.v (.int .i64 (5 : Int))), .d (.v (.int .i64 (7 : Int)))]) _ rfl ?_
  refine R.one rfl ?_
  refine W.det (.row 16 1 1) (Mem.add _ 16 (.rows 2 (List.map Arr2_Int.enc [(Arr2_Int.mk (5 : Int) (7 : Int))]) false)) rfl ?_
  refine R.one rfl ?_
  refine bindK h fun y1 hy1 h => ?_
  refine W.call rfl (law32_list_fn hy1) ?_
  refine W.det (.agg [.d (.v (.int .i64 y1.Low)), .d (.fz (List.map Arr2_Int.enc y1.Ranges))]) (Mem.set _ 16 1 (some (.rows 2 (List.map Arr2_Int.enc [(Arr2_Int.mk (5 : Int) (7 : Int))]) true))) rfl ?_
  refine R.one rfl ?_
  refine W.det (.lp 1 1 0) (Mem.add (Mem.add _ 131073 (.rows 2 (List.map Arr2_Int.enc ([] : List Arr2_Int)) false)) 1 (.box [.d (.v (.int .i64 (0 : Int))), .row 131073 1 0])) rfl ?_
  refine R.one rfl ?_
  refine W.det (.tup []) (Mem.set _ 1 1 (some (.box [.d (.v (.int .i64 y1.Low)), .d (.fz (List.map Arr2_Int.enc y1.Ranges))]))) rfl ?_
  refine R.nil ?_
  refine seqK.n ?_
  refine A.seq rfl ?_
  refine A.region ?_
  refine R.one rfl ?_
  refine W.det (.agg [.d (.v (.int .i64 y1.Low)), .d (.fz (List.map Arr2_Int.enc y1.Ranges))]) _ rfl ?_
  refine R.one rfl ?_
  refine bindK h fun y2 hy2 h => ?_
  refine W.call rfl (once_Take_fn hy2) ?_
  refine W.det (.tup [.agg [.d (.v (.int .i64 y2.1.Low)), .d (.fz (List.map Arr2_Int.enc y2.1.Ranges))], .d (.v (.bool y2.2))]) _ rfl ?_
  refine R.one rfl ?_
  refine W.det (.tup [.agg [.d (.v (.int .i64 y2.1.Low)), .d (.fz (List.map Arr2_Int.enc y2.1.Ranges))], .d (.v (.bool y2.2))]) _ rfl ?_
  refine R.one rfl ?_
  refine W.det (.agg [.d (.v (.int .i64 y2.1.Low)), .d (.fz (List.map Arr2_Int.enc y2.1.Ranges))]) _ rfl ?_
  refine R.one rfl ?_
  refine W.det (.d (.v (.bool y2.2))) _ rfl ?_
  refine R.one rfl ?_
  refine W.det (.lp 2 1 0) (Mem.add (Mem.add _ 131074 (.rows 2 (List.map Arr2_Int.enc ([] : List Arr2_Int)) false)) 2 (.box [.d (.v (.int .i64 (0 : Int))), .row 131074 1 0])) rfl ?_
  refine R.one rfl ?_
  refine W.det (.tup []) (Mem.set _ 2 1 (some (.box [.d (.v (.int .i64 y2.1.Low)), .d (.fz (List.map Arr2_Int.enc y2.1.Ranges))]))) rfl ?_
  refine R.one rfl ?_
  refine W.det (.d (.v (.bool y2.2))) _ rfl ?_
  refine R.nil ?_
  refine seqK.n ?_
  refine A.seq rfl ?_
  refine A.region ?_
  refine R.one rfl ?_
  refine W.det (.agg [.d (.v (.int .i64 y1.Low)), .d (.fz (List.map Arr2_Int.enc y1.Ranges))]) _ rfl ?_
  refine R.one rfl ?_
  refine bindK h fun y3 hy3 h => ?_
  refine W.call rfl (once_Take_fn hy3) ?_
  refine W.det (.tup [.agg [.d (.v (.int .i64 y3.1.Low)), .d (.fz (List.map Arr2_Int.enc y3.1.Ranges))], .d (.v (.bool y3.2))]) _ rfl ?_
  refine R.one rfl ?_
  refine W.det (.tup [.agg [.d (.v (.int .i64 y3.1.Low)), .d (.fz (List.map Arr2_Int.enc y3.1.Ranges))], .d (.v (.bool y3.2))]) _ rfl ?_
  refine R.one rfl ?_
  refine W.det (.agg [.d (.v (.int .i64 y3.1.Low)), .d (.fz (List.map Arr2_Int.enc y3.1.Ranges))]) _ rfl ?_
  refine R.one rfl ?_
  refine W.det (.d (.v (.bool y3.2))) _ rfl ?_
  refine R.one rfl ?_
  refine W.det (.lp 4 1 0) (Mem.add (Mem.add _ 131076 (.rows 2 (List.map Arr2_Int.enc ([] : List Arr2_Int)) false)) 4 (.box [.d (.v (.int .i64 (0 : Int))), .row 131076 1 0])) rfl ?_
  refine R.one rfl ?_
  refine W.det (.tup []) (Mem.set _ 4 1 (some (.box [.d (.v (.int .i64 y3.1.Low)), .d (.fz (List.map Arr2_Int.enc y3.1.Ranges))]))) rfl ?_
  refine R.one rfl ?_
  refine W.det (.d (.v (.bool y3.2))) _ rfl ?_
  refine R.nil ?_
  refine seqK.n ?_
  refine A.seq rfl ?_
  refine A.region ?_
  refine R.one rfl ?_
  refine W.det (.agg [.d (.v (.int .i64 y1.Low)), .d (.fz (List.map Arr2_Int.enc y1.Ranges))]) _ rfl ?_
  refine R.one rfl ?_
  refine bindK h fun y4 hy4 h => ?_
  refine W.call rfl (once_Take_fn hy4) ?_
  refine W.det (.tup [.agg [.d (.v (.int .i64 y4.1.Low)), .d (.fz (List.map Arr2_Int.enc y4.1.Ranges))], .d (.v (.bool y4.2))]) _ rfl ?_
  refine R.one rfl ?_
  refine W.det (.tup [.agg [.d (.v (.int .i64 y4.1.Low)), .d (.fz (List.map Arr2_Int.enc y4.1.Ranges))], .d (.v (.bool y4.2))]) _ rfl ?_
  refine R.one rfl ?_
  refine W.det (.agg [.d (.v (.int .i64 y4.1.Low)), .d (.fz (List.map Arr2_Int.enc y4.1.Ranges))]) _ rfl ?_
  refine R.one rfl ?_
  refine W.det (.d (.v (.bool y4.2))) _ rfl ?_
  refine R.one rfl ?_
  refine W.det (.lp 6 1 0) (Mem.add (Mem.add _ 131078 (.rows 2 (List.map Arr2_Int.enc ([] : List Arr2_Int)) false)) 6 (.box [.d (.v (.int .i64 (0 : Int))), .row 131078 1 0])) rfl ?_
  refine R.one rfl ?_
  refine W.det (.tup []) (Mem.set _ 6 1 (some (.box [.d (.v (.int .i64 y4.1.Low)), .d (.fz (List.map Arr2_Int.enc y4.1.Ranges))]))) rfl ?_
  refine R.one rfl ?_
  refine W.det (.d (.v (.bool y4.2))) _ rfl ?_
  refine R.nil ?_
  refine seqK.n ?_
  refine A.seq rfl ?_
  refine A.region ?_
  refine R.one rfl ?_
  refine W.det (.agg [.d (.v (.int .i64 y1.Low)), .d (.fz (List.map Arr2_Int.enc y1.Ranges))]) _ rfl ?_
  refine R.one rfl ?_
  refine bindK h fun y5 hy5 h => ?_
  refine W.call rfl (once_Take_fn hy5) ?_
  refine W.det (.tup [.agg [.d (.v (.int .i64 y5.1.Low)), .d (.fz (List.map Arr2_Int.enc y5.1.Ranges))], .d (.v (.bool y5.2))]) _ rfl ?_
  refine R.one rfl ?_
  refine W.det (.tup [.agg [.d (.v (.int .i64 y5.1.Low)), .d (.fz (List.map Arr2_Int.enc y5.1.Ranges))], .d (.v (.bool y5.2))]) _ rfl ?_
  refine R.one rfl ?_
  refine W.det (.agg [.d (.v (.int .i64 y5.1.Low)), .d (.fz (List.map Arr2_Int.enc y5.1.Ranges))]) _ rfl ?_
  refine R.one rfl ?_
  refine W.det (.d (.v (.bool y5.2))) _ rfl ?_
  refine R.one rfl ?_
  refine W.det (.lp 8 1 0) (Mem.add (Mem.add _ 131080 (.rows 2 (List.map Arr2_Int.enc ([] : List Arr2_Int)) false)) 8 (.box [.d (.v (.int .i64 (0 : Int))), .row 131080 1 0])) rfl ?_
  refine R.one rfl ?_
  refine W.det (.tup []) (Mem.set _ 8 1 (some (.box [.d (.v (.int .i64 y5.1.Low)), .d (.fz (List.map Arr2_Int.enc y5.1.Ranges))]))) rfl ?_
  refine R.one rfl ?_
  refine W.det (.d (.v (.bool y5.2))) _ rfl ?_
  refine R.nil ?_
  refine seqK.n ?_
  refine A.seq rfl ?_
  refine A.region ?_
  refine R.one rfl ?_
  refine W.det (.agg [.d (.v (.int .i64 y1.Low)), .d (.fz (List.map Arr2_Int.enc y1.Ranges))]) _ rfl ?_
  refine R.one rfl ?_
  refine bindK h fun y6 hy6 h => ?_
  refine W.call rfl (once_Take_fn hy6) ?_
  refine W.det (.tup [.agg [.d (.v (.int .i64 y6.1.Low)), .d (.fz (List.map Arr2_Int.enc y6.1.Ranges))], .d (.v (.bool y6.2))]) _ rfl ?_
  refine R.one rfl ?_
  refine W.det (.tup [.agg [.d (.v (.int .i64 y6.1.Low)), .d (.fz (List.map Arr2_Int.enc y6.1.Ranges))], .d (.v (.bool y6.2))]) _ rfl ?_
  refine R.one rfl ?_
  refine W.det (.agg [.d (.v (.int .i64 y6.1.Low)), .d (.fz (List.map Arr2_Int.enc y6.1.Ranges))]) _ rfl ?_
  refine R.one rfl ?_
  refine W.det (.d (.v (.bool y6.2))) _ rfl ?_
  refine R.one rfl ?_
  refine W.det (.lp 10 1 0) (Mem.add (Mem.add _ 131082 (.rows 2 (List.map Arr2_Int.enc ([] : List Arr2_Int)) false)) 10 (.box [.d (.v (.int .i64 (0 : Int))), .row 131082 1 0])) rfl ?_
  refine R.one rfl ?_
  refine W.det (.tup []) (Mem.set _ 10 1 (some (.box [.d (.v (.int .i64 y6.1.Low)), .d (.fz (List.map Arr2_Int.enc y6.1.Ranges))]))) rfl ?_
  refine R.one rfl ?_
  refine W.det (.d (.v (.bool y6.2))) _ rfl ?_
  refine R.nil ?_
  refine seqK.n ?_
  refine A.seq rfl ?_
  refine A.region ?_
  refine R.one rfl ?_
  refine W.det (.agg [.d (.v (.int .i64 y3.1.Low)), .d (.fz (List.map Arr2_Int.enc y3.1.Ranges))]) _ rfl ?_
  refine R.one rfl ?_
  refine bindK h fun y7 hy7 h => ?_
  refine W.call rfl (once_Take_fn hy7) ?_
  refine W.det (.tup [.agg [.d (.v (.int .i64 y7.1.Low)), .d (.fz (List.map Arr2_Int.enc y7.1.Ranges))], .d (.v (.bool y7.2))]) _ rfl ?_
  refine R.one rfl ?_
  refine W.det (.tup [.agg [.d (.v (.int .i64 y7.1.Low)), .d (.fz (List.map Arr2_Int.enc y7.1.Ranges))], .d (.v (.bool y7.2))]) _ rfl ?_
  refine R.one rfl ?_
  refine W.det (.agg [.d (.v (.int .i64 y7.1.Low)), .d (.fz (List.map Arr2_Int.enc y7.1.Ranges))]) _ rfl ?_
  refine R.one rfl ?_
  refine W.det (.d (.v (.bool y7.2))) _ rfl ?_
  refine R.one rfl ?_
  refine W.det (.lp 12 1 0) (Mem.add (Mem.add _ 131084 (.rows 2 (List.map Arr2_Int.enc ([] : List Arr2_Int)) false)) 12 (.box [.d (.v (.int .i64 (0 : Int))), .row 131084 1 0])) rfl ?_
  refine R.one rfl ?_
  refine W.det (.tup []) (Mem.set _ 12 1 (some (.box [.d (.v (.int .i64 y7.1.Low)), .d (.fz (List.map Arr2_Int.enc y7.1.Ranges))]))) rfl ?_
  refine R.one rfl ?_
  refine W.det (.d (.v (.bool y7.2))) _ rfl ?_
  refine R.nil ?_
  refine seqK.n ?_
  refine A.join (fun (s1 : Bool) => [(1, .lp 900000 1 0), (3, .d (.v (.bool y2.2))), (5, .d (.v (.bool y3.2))), (7, .d (.v (.bool y4.2))), (9, .d (.v (.bool y5.2))), (11, .d (.v (.bool y6.2))), (13, .d (.v (.bool y7.2))), (14, .d (.v (.bool s1)))]) (fun s1 => [(900000, .box [.d (.v (.int .i64 y1.Low)), .d (.fz (List.map Arr2_Int.enc y1.Ranges))])]) _ h hG rfl ?_ ?_
  · intro J f h hG
    refine A.regionD (by kernel_rfl) ?_
    refine R.one rfl ?_
    refine W.det (.agg [.d (.v (.int .i64 y2.1.Low)), .d (.fz (List.map Arr2_Int.enc y2.1.Ranges))]) _ rfl ?_
    refine R.one rfl ?_
    refine W.det (.agg [.d (.v (.int .i64 (4 : Int))), .d (.v (.int .i64 (7 : Int)))]) _ rfl ?_
    refine R.one rfl ?_
    refine W.det (.row 50 1 1) (Mem.add _ 50 (.rows 2 (List.map Arr2_Int.enc [(Arr2_Int.mk (4 : Int) (7 : Int))]) false)) rfl ?_
    refine R.one rfl ?_
    refine bindK h fun y19 hy19 h => ?_
    refine W.call rfl (law32_list_fn hy19) ?_
    refine W.det (.agg [.d (.v (.int .i64 y19.Low)), .d (.fz (List.map Arr2_Int.enc y19.Ranges))]) (Mem.set _ 50 1 (some (.rows 2 (List.map Arr2_Int.enc [(Arr2_Int.mk (4 : Int) (7 : Int))]) true))) rfl ?_
    refine R.one rfl ?_
    refine bindK h fun y20 hy20 h => ?_
    refine W.call rfl (law32_same_fn hy20) ?_
    refine W.det (.d (.v (.bool y20))) _ rfl ?_
    refine R.one rfl ?_
    refine W.det (.d (.v (.bool y20))) _ rfl ?_
    refine R.gT rfl rfl rfl h (fun _ h => ?_) (fun _ h => ?_)
    · refine W.det (.agg [.d (.v (.int .i64 y3.1.Low)), .d (.fz (List.map Arr2_Int.enc y3.1.Ranges))]) _ rfl ?_
      refine R.run rfl rfl rfl ?_
      refine W.det (.agg [.d (.v (.int .i64 (5 : Int))), .d (.v (.int .i64 (7 : Int)))]) _ rfl ?_
      refine R.run rfl rfl rfl ?_
      refine W.det (.row 56 1 1) (Mem.add _ 56 (.rows 2 (List.map Arr2_Int.enc [(Arr2_Int.mk (5 : Int) (7 : Int))]) false)) rfl ?_
      refine R.run rfl rfl rfl ?_
      refine bindK h fun y21 hy21 h => ?_
      refine W.call rfl (law32_list_fn hy21) ?_
      refine W.det (.agg [.d (.v (.int .i64 y21.Low)), .d (.fz (List.map Arr2_Int.enc y21.Ranges))]) (Mem.set _ 56 1 (some (.rows 2 (List.map Arr2_Int.enc [(Arr2_Int.mk (5 : Int) (7 : Int))]) true))) rfl ?_
      refine R.run rfl rfl rfl ?_
      refine bindK h fun y22 hy22 h => ?_
      refine W.call rfl (law32_same_fn hy22) ?_
      refine W.det (.d (.v (.bool y22))) _ rfl ?_
      refine R.one rfl ?_
      refine W.det (.d (.v (.bool y22))) _ rfl ?_
      refine R.one rfl ?_
      refine W.det (.d (.v (.bool y22))) _ rfl ?_
      refine R.gT rfl rfl rfl h (fun _ h => ?_) (fun _ h => ?_)
      · refine W.det (.agg [.d (.v (.int .i64 y4.1.Low)), .d (.fz (List.map Arr2_Int.enc y4.1.Ranges))]) _ rfl ?_
        refine R.run rfl rfl rfl ?_
        refine W.det (.agg [.d (.v (.int .i64 y1.Low)), .d (.fz (List.map Arr2_Int.enc y1.Ranges))]) _ rfl ?_
        refine R.run rfl rfl rfl ?_
        refine bindK h fun y23 hy23 h => ?_
        refine W.call rfl (law32_same_fn hy23) ?_
        refine W.det (.d (.v (.bool y23))) _ rfl ?_
        refine R.one rfl ?_
        refine W.det (.d (.v (.bool y23))) _ rfl ?_
        refine R.one rfl ?_
        refine W.det (.d (.v (.bool y23))) _ rfl ?_
        refine R.gT rfl rfl rfl h (fun _ h => ?_) (fun _ h => ?_)
        · refine W.det (.agg [.d (.v (.int .i64 y5.1.Low)), .d (.fz (List.map Arr2_Int.enc y5.1.Ranges))]) _ rfl ?_
          refine R.run rfl rfl rfl ?_
          refine W.det (.agg [.d (.v (.int .i64 (5 : Int))), .d (.v (.int .i64 (7 : Int)))]) _ rfl ?_
          refine R.run rfl rfl rfl ?_
          refine W.det (.agg [.d (.v (.int .i64 (9 : Int))), .d (.v (.int .i64 (10 : Int)))]) _ rfl ?_
          refine R.run rfl rfl rfl ?_
          refine W.det (.row 69 1 2) (Mem.add _ 69 (.rows 2 (List.map Arr2_Int.enc [(Arr2_Int.mk (5 : Int) (7 : Int)), (Arr2_Int.mk (9 : Int) (10 : Int))]) false)) rfl ?_
          refine R.run rfl rfl rfl ?_
          refine bindK h fun y24 hy24 h => ?_
          refine W.call rfl (law32_list_fn hy24) ?_
          refine W.det (.agg [.d (.v (.int .i64 y24.Low)), .d (.fz (List.map Arr2_Int.enc y24.Ranges))]) (Mem.set _ 69 1 (some (.rows 2 (List.map Arr2_Int.enc [(Arr2_Int.mk (5 : Int) (7 : Int)), (Arr2_Int.mk (9 : Int) (10 : Int))]) true))) rfl ?_
          refine R.run rfl rfl rfl ?_
          refine bindK h fun y25 hy25 h => ?_
          refine W.call rfl (law32_same_fn hy25) ?_
          refine W.det (.d (.v (.bool y25))) _ rfl ?_
          refine R.one rfl ?_
          refine W.det (.d (.v (.bool y25))) _ rfl ?_
          refine R.one rfl ?_
          refine W.det (.d (.v (.bool y25))) _ rfl ?_
          refine R.gT rfl rfl rfl h (fun _ h => ?_) (fun _ h => ?_)
          · refine W.det (.agg [.d (.v (.int .i64 y6.1.Low)), .d (.fz (List.map Arr2_Int.enc y6.1.Ranges))]) _ rfl ?_
            refine R.run rfl rfl rfl ?_
            refine W.det (.agg [.d (.v (.int .i64 (9 : Int))), .d (.v (.int .i64 (10 : Int)))]) _ rfl ?_
            refine R.run rfl rfl rfl ?_
            refine W.det (.row 76 1 1) (Mem.add _ 76 (.rows 2 (List.map Arr2_Int.enc [(Arr2_Int.mk (9 : Int) (10 : Int))]) false)) rfl ?_
            refine R.run rfl rfl rfl ?_
            refine bindK h fun y26 hy26 h => ?_
            refine W.call rfl (law32_list_fn hy26) ?_
            refine W.det (.agg [.d (.v (.int .i64 y26.Low)), .d (.fz (List.map Arr2_Int.enc y26.Ranges))]) (Mem.set _ 76 1 (some (.rows 2 (List.map Arr2_Int.enc [(Arr2_Int.mk (9 : Int) (10 : Int))]) true))) rfl ?_
            refine R.run rfl rfl rfl ?_
            refine bindK h fun y27 hy27 h => ?_
            refine W.call rfl (law32_same_fn hy27) ?_
            refine W.det (.d (.v (.bool y27))) _ rfl ?_
            refine R.one rfl ?_
            refine W.det (.d (.v (.bool y27))) _ rfl ?_
            refine R.one rfl ?_
            refine W.det (.d (.v (.bool y27))) _ rfl ?_
            refine R.gT rfl rfl rfl h (fun _ h => ?_) (fun _ h => ?_)
            · refine W.det (.agg [.d (.v (.int .i64 y7.1.Low)), .d (.fz (List.map Arr2_Int.enc y7.1.Ranges))]) _ rfl ?_
              refine R.run rfl rfl rfl ?_
              refine bindK h fun y28 hy28 h => ?_
              refine W.call rfl (law32_list_fn hy28) ?_
              refine W.det (.agg [.d (.v (.int .i64 y28.Low)), .d (.fz (List.map Arr2_Int.enc y28.Ranges))]) _ rfl ?_
              refine R.run rfl rfl rfl ?_
              refine bindK h fun y29 hy29 h => ?_
              refine W.call rfl (law32_same_fn hy29) ?_
              refine W.det (.d (.v (.bool y29))) _ rfl ?_
              refine R.one rfl ?_
              refine W.det (.d (.v (.bool y29))) _ rfl ?_
              refine R.one rfl ?_
              refine W.det (.d (.v (.bool y29))) _ rfl ?_
              refine R.nil ?_
              injection h with h
              subst h
              exact headK.n hG (Enters.of [] [(900000, (1, 1))] _ rfl rfl (chkE.c rfl rfl (chkE.c rfl rfl (chkE.c rfl rfl (chkE.c rfl rfl (chkE.c rfl rfl (chkE.c rfl rfl (chkE.c rfl rfl (chkE.c rfl rfl trivial)))))))) (chkM.c rfl rfl trivial))
            · refine R.skip rfl rfl rfl ?_
              refine R.skip rfl rfl rfl ?_
              refine R.one rfl ?_
              refine W.det (.kb false) _ rfl ?_
              refine R.one rfl ?_
              refine W.det (.kb false) _ rfl ?_
              refine R.nil ?_
              injection h with h
              subst h
              exact headK.n hG (Enters.of [] [(900000, (1, 1))] _ rfl rfl (chkE.c rfl rfl (chkE.c rfl rfl (chkE.c rfl rfl (chkE.c rfl rfl (chkE.c rfl rfl (chkE.c rfl rfl (chkE.c rfl rfl (chkE.c rfl rfl trivial)))))))) (chkM.c rfl rfl trivial))
          · refine R.skip rfl rfl rfl ?_
            refine R.skip rfl rfl rfl ?_
            refine R.skip rfl rfl rfl ?_
            refine R.skip rfl rfl rfl ?_
            refine R.one rfl ?_
            refine W.det (.kb false) _ rfl ?_
            refine R.one rfl ?_
            refine W.det (.kb false) _ rfl ?_
            refine R.skip rfl rfl rfl ?_
            refine R.skip rfl rfl rfl ?_
            refine R.skip rfl rfl rfl ?_
            refine R.one rfl ?_
            refine W.det (.kb false) _ rfl ?_
            refine R.one rfl ?_
            refine W.det (.kb false) _ rfl ?_
            refine R.nil ?_
            injection h with h
            subst h
            exact headK.n hG (Enters.of [] [(900000, (1, 1))] _ rfl rfl (chkE.c rfl rfl (chkE.c rfl rfl (chkE.c rfl rfl (chkE.c rfl rfl (chkE.c rfl rfl (chkE.c rfl rfl (chkE.c rfl rfl (chkE.c rfl rfl trivial)))))))) (chkM.c rfl rfl trivial))
        · refine R.skip rfl rfl rfl ?_
          refine R.skip rfl rfl rfl ?_
          refine R.skip rfl rfl rfl ?_
          refine R.skip rfl rfl rfl ?_
          refine R.skip rfl rfl rfl ?_
          refine R.one rfl ?_
          refine W.det (.kb false) _ rfl ?_
          refine R.one rfl ?_
          refine W.det (.kb false) _ rfl ?_
          refine R.skip rfl rfl rfl ?_
          refine R.skip rfl rfl rfl ?_
          refine R.skip rfl rfl rfl ?_
          refine R.skip rfl rfl rfl ?_
          refine R.skip rfl rfl rfl ?_
          refine R.one rfl ?_
          refine W.det (.kb false) _ rfl ?_
          refine R.one rfl ?_
          refine W.det (.kb false) _ rfl ?_
          refine R.skip rfl rfl rfl ?_
          refine R.skip rfl rfl rfl ?_
          refine R.skip rfl rfl rfl ?_
          refine R.one rfl ?_
          refine W.det (.kb false) _ rfl ?_
          refine R.one rfl ?_
          refine W.det (.kb false) _ rfl ?_
          refine R.nil ?_
          injection h with h
          subst h
          exact headK.n hG (Enters.of [] [(900000, (1, 1))] _ rfl rfl (chkE.c rfl rfl (chkE.c rfl rfl (chkE.c rfl rfl (chkE.c rfl rfl (chkE.c rfl rfl (chkE.c rfl rfl (chkE.c rfl rfl (chkE.c rfl rfl trivial)))))))) (chkM.c rfl rfl trivial))
      · refine R.skip rfl rfl rfl ?_
        refine R.skip rfl rfl rfl ?_
        refine R.one rfl ?_
        refine W.det (.kb false) _ rfl ?_
        refine R.one rfl ?_
        refine W.det (.kb false) _ rfl ?_
        refine R.skip rfl rfl rfl ?_
        refine R.skip rfl rfl rfl ?_
        refine R.skip rfl rfl rfl ?_
        refine R.skip rfl rfl rfl ?_
        refine R.skip rfl rfl rfl ?_
        refine R.skip rfl rfl rfl ?_
        refine R.one rfl ?_
        refine W.det (.kb false) _ rfl ?_
        refine R.one rfl ?_
        refine W.det (.kb false) _ rfl ?_
        refine R.skip rfl rfl rfl ?_
        refine R.skip rfl rfl rfl ?_
        refine R.skip rfl rfl rfl ?_
        refine R.skip rfl rfl rfl ?_
        refine R.skip rfl rfl rfl ?_
        refine R.one rfl ?_
        refine W.det (.kb false) _ rfl ?_
        refine R.one rfl ?_
        refine W.det (.kb false) _ rfl ?_
        refine R.skip rfl rfl rfl ?_
        refine R.skip rfl rfl rfl ?_
        refine R.skip rfl rfl rfl ?_
        refine R.one rfl ?_
        refine W.det (.kb false) _ rfl ?_
        refine R.one rfl ?_
        refine W.det (.kb false) _ rfl ?_
        refine R.nil ?_
        injection h with h
        subst h
        exact headK.n hG (Enters.of [] [(900000, (1, 1))] _ rfl rfl (chkE.c rfl rfl (chkE.c rfl rfl (chkE.c rfl rfl (chkE.c rfl rfl (chkE.c rfl rfl (chkE.c rfl rfl (chkE.c rfl rfl (chkE.c rfl rfl trivial)))))))) (chkM.c rfl rfl trivial))
    · refine R.skip rfl rfl rfl ?_
      refine R.skip rfl rfl rfl ?_
      refine R.skip rfl rfl rfl ?_
      refine R.skip rfl rfl rfl ?_
      refine R.one rfl ?_
      refine W.det (.kb false) _ rfl ?_
      refine R.one rfl ?_
      refine W.det (.kb false) _ rfl ?_
      refine R.skip rfl rfl rfl ?_
      refine R.skip rfl rfl rfl ?_
      refine R.skip rfl rfl rfl ?_
      refine R.one rfl ?_
      refine W.det (.kb false) _ rfl ?_
      refine R.one rfl ?_
      refine W.det (.kb false) _ rfl ?_
      refine R.skip rfl rfl rfl ?_
      refine R.skip rfl rfl rfl ?_
      refine R.skip rfl rfl rfl ?_
      refine R.skip rfl rfl rfl ?_
      refine R.skip rfl rfl rfl ?_
      refine R.skip rfl rfl rfl ?_
      refine R.one rfl ?_
      refine W.det (.kb false) _ rfl ?_
      refine R.one rfl ?_
      refine W.det (.kb false) _ rfl ?_
      refine R.skip rfl rfl rfl ?_
      refine R.skip rfl rfl rfl ?_
      refine R.skip rfl rfl rfl ?_
      refine R.skip rfl rfl rfl ?_
      refine R.skip rfl rfl rfl ?_
      refine R.one rfl ?_
      refine W.det (.kb false) _ rfl ?_
      refine R.one rfl ?_
      refine W.det (.kb false) _ rfl ?_
      refine R.skip rfl rfl rfl ?_
      refine R.skip rfl rfl rfl ?_
      refine R.skip rfl rfl rfl ?_
      refine R.one rfl ?_
      refine W.det (.kb false) _ rfl ?_
      refine R.one rfl ?_
      refine W.det (.kb false) _ rfl ?_
      refine R.nil ?_
      injection h with h
      subst h
      exact headK.n hG (Enters.of [] [(900000, (1, 1))] _ rfl rfl (chkE.c rfl rfl (chkE.c rfl rfl (chkE.c rfl rfl (chkE.c rfl rfl (chkE.c rfl rfl (chkE.c rfl rfl (chkE.c rfl rfl (chkE.c rfl rfl trivial)))))))) (chkM.c rfl rfl trivial))
  · intro s1 r2 h hG
    refine A.seq rfl ?_
    refine A.region ?_
    refine R.one rfl ?_
    refine W.det (.d (.v (.bool s1))) _ rfl ?_
    refine R.one rfl ?_
    refine W.det (.d (.v (.bool s1))) _ rfl ?_
    refine R.gT rfl rfl rfl h (fun _ h => ?_) (fun _ h => ?_)
    · refine W.det (.d (.v (.bool y2.2))) _ rfl ?_
      refine R.one rfl ?_
      refine W.det (.d (.v (.bool y2.2))) _ rfl ?_
      refine R.one rfl ?_
      refine W.det (.d (.v (.bool y2.2))) _ rfl ?_
      refine R.gT rfl rfl rfl h (fun _ h => ?_) (fun _ h => ?_)
      · refine W.det (.d (.v (.bool y3.2))) _ rfl ?_
        refine R.one rfl ?_
        refine W.det (.d (.v (.bool y3.2))) _ rfl ?_
        refine R.one rfl ?_
        refine W.det (.d (.v (.bool y3.2))) _ rfl ?_
        refine R.gT rfl rfl rfl h (fun _ h => ?_) (fun _ h => ?_)
        · refine W.det (.d (.v (.bool y4.2))) _ rfl ?_
          refine R.run rfl rfl rfl ?_
          refine W.det (.d (.v (.bool (!y4.2)))) _ rfl ?_
          refine R.one rfl ?_
          refine W.det (.d (.v (.bool (!y4.2)))) _ rfl ?_
          refine R.one rfl ?_
          refine W.det (.d (.v (.bool (!y4.2)))) _ rfl ?_
          refine R.gT rfl rfl rfl h (fun _ h => ?_) (fun _ h => ?_)
          · refine W.det (.d (.v (.bool y5.2))) _ rfl ?_
            refine R.one rfl ?_
            refine W.det (.d (.v (.bool y5.2))) _ rfl ?_
            refine R.one rfl ?_
            refine W.det (.d (.v (.bool y5.2))) _ rfl ?_
            refine R.gT rfl rfl rfl h (fun _ h => ?_) (fun _ h => ?_)
            · refine W.det (.d (.v (.bool y6.2))) _ rfl ?_
              refine R.one rfl ?_
              refine W.det (.d (.v (.bool y6.2))) _ rfl ?_
              refine R.one rfl ?_
              refine W.det (.d (.v (.bool y6.2))) _ rfl ?_
              refine R.gT rfl rfl rfl h (fun _ h => ?_) (fun _ h => ?_)
              · refine W.det (.d (.v (.bool y7.2))) _ rfl ?_
                refine R.one rfl ?_
                refine W.det (.d (.v (.bool y7.2))) _ rfl ?_
                refine R.one rfl ?_
                refine W.det (.d (.v (.bool y7.2))) _ rfl ?_
                refine R.gT rfl rfl rfl h (fun _ h => ?_) (fun _ h => ?_)
                · refine W.det (.agg [.d (.v (.int .i64 y1.Low)), .d (.fz (List.map Arr2_Int.enc y1.Ranges))]) _ rfl ?_
                  refine R.run rfl rfl rfl ?_
                  refine bindK h fun y30 hy30 h => ?_
                  refine W.call rfl (once_Has_fn hy30) ?_
                  refine W.det (.d (.v (.bool y30))) _ rfl ?_
                  refine R.one rfl ?_
                  refine W.det (.d (.v (.bool y30))) _ rfl ?_
                  refine R.one rfl ?_
                  refine W.det (.d (.v (.bool y30))) _ rfl ?_
                  refine R.gT rfl rfl rfl h (fun _ h => ?_) (fun _ h => ?_)
                  · refine W.det (.agg [.d (.v (.int .i64 y1.Low)), .d (.fz (List.map Arr2_Int.enc y1.Ranges))]) _ rfl ?_
                    refine R.run rfl rfl rfl ?_
                    refine bindK h fun y31 hy31 h => ?_
                    refine W.call rfl (once_Has_fn hy31) ?_
                    refine W.det (.d (.v (.bool y31))) _ rfl ?_
                    refine R.run rfl rfl rfl ?_
                    refine W.det (.d (.v (.bool (!y31)))) _ rfl ?_
                    refine R.one rfl ?_
                    refine W.det (.d (.v (.bool (!y31)))) _ rfl ?_
                    refine R.one rfl ?_
                    refine W.det (.d (.v (.bool (!y31)))) _ rfl ?_
                    refine R.gT rfl rfl rfl h (fun _ h => ?_) (fun _ h => ?_)
                    · refine W.det (.agg [.d (.v (.int .i64 y1.Low)), .d (.fz (List.map Arr2_Int.enc y1.Ranges))]) _ rfl ?_
                      refine R.run rfl rfl rfl ?_
                      refine bindK h fun y32 hy32 h => ?_
                      refine W.call rfl (once_Has_fn hy32) ?_
                      refine W.det (.d (.v (.bool y32))) _ rfl ?_
                      refine R.one rfl ?_
                      refine W.det (.d (.v (.bool y32))) _ rfl ?_
                      refine R.one rfl ?_
                      refine W.det (.d (.v (.bool y32))) _ rfl ?_
                      refine R.gT rfl rfl rfl h (fun _ h => ?_) (fun _ h => ?_)
                      · refine W.det (.agg [.d (.v (.int .i64 y1.Low)), .d (.fz (List.map Arr2_Int.enc y1.Ranges))]) _ rfl ?_
                        refine R.run rfl rfl rfl ?_
                        refine bindK h fun y33 hy33 h => ?_
                        refine W.call rfl (once_Has_fn hy33) ?_
                        refine W.det (.d (.v (.bool y33))) _ rfl ?_
                        refine R.run rfl rfl rfl ?_
                        refine W.det (.d (.v (.bool (!y33)))) _ rfl ?_
                        refine R.one rfl ?_
                        refine W.det (.d (.v (.bool (!y33)))) _ rfl ?_
                        refine R.one rfl ?_
                        refine W.det (.d (.v (.bool (!y33)))) _ rfl ?_
                        refine R.gT rfl rfl rfl h (fun _ h => ?_) (fun _ h => ?_)
                        · refine W.det (.agg [.d (.v (.int .i64 y1.Low)), .d (.fz (List.map Arr2_Int.enc y1.Ranges))]) _ rfl ?_
                          refine R.run rfl rfl rfl ?_
                          refine bindK h fun y34 hy34 h => ?_
                          refine W.call rfl (once_Floor_fn hy34) ?_
                          refine W.det (.d (.v (.int .i64 y34))) _ rfl ?_
                          refine R.run rfl rfl rfl ?_
                          refine W.det (.d (.v (.bool (y34 == (3 : Int))))) _ rfl ?_
                          refine R.one rfl ?_
                          refine W.det (.d (.v (.bool (y34 == (3 : Int))))) _ rfl ?_
                          refine R.one rfl ?_
                          refine W.det (.d (.v (.bool (y34 == (3 : Int))))) _ rfl ?_
                          refine R.gT rfl rfl rfl h (fun _ h => ?_) (fun _ h => ?_)
                          · refine W.det (.agg [.d (.v (.int .i64 y1.Low)), .d (.fz (List.map Arr2_Int.enc y1.Ranges))]) _ rfl ?_
                            refine R.run rfl rfl rfl ?_
                            refine bindK h fun y35 hy35 h => ?_
                            refine W.call rfl (once_Right_fn hy35) ?_
                            refine W.det (.d (.v (.bool y35))) _ rfl ?_
                            refine R.one rfl ?_
                            refine W.det (.d (.v (.bool y35))) _ rfl ?_
                            refine R.one rfl ?_
                            refine W.det (.d (.v (.bool y35))) _ rfl ?_
                            refine R.gT rfl rfl rfl h (fun _ h => ?_) (fun _ h => ?_)
                            · refine W.det (.agg [.d (.v (.int .i64 (3 : Int))), .d (.v (.int .i64 (4 : Int)))]) _ rfl ?_
                              refine R.run rfl rfl rfl ?_
                              refine W.det (.row 134 2 1) (Mem.add _ 134 (.rows 2 (List.map Arr2_Int.enc [(Arr2_Int.mk (3 : Int) (4 : Int))]) false)) rfl ?_
                              refine R.run rfl rfl rfl ?_
                              refine bindK h fun y36 hy36 h => ?_
                              refine W.call rfl (law32_list_fn hy36) ?_
                              refine W.det (.agg [.d (.v (.int .i64 y36.Low)), .d (.fz (List.map Arr2_Int.enc y36.Ranges))]) (Mem.set _ 134 2 (some (.rows 2 (List.map Arr2_Int.enc [(Arr2_Int.mk (3 : Int) (4 : Int))]) true))) rfl ?_
                              refine R.run rfl rfl rfl ?_
                              refine bindK h fun y37 hy37 h => ?_
                              refine W.call rfl (once_Right_fn hy37) ?_
                              refine W.det (.d (.v (.bool y37))) _ rfl ?_
                              refine R.run rfl rfl rfl ?_
                              refine W.det (.d (.v (.bool (!y37)))) _ rfl ?_
                              refine R.one rfl ?_
                              refine W.det (.d (.v (.bool (!y37)))) _ rfl ?_
                              refine R.one rfl ?_
                              refine W.det (.d (.v (.bool (!y37)))) _ rfl ?_
                              refine R.nil ?_
                              refine seqK.n ?_
                              refine A.ret ?_
                              injection h with h
                              subst h
                              cases hG
                              exact ⟨rfl, trivial⟩
                            · refine R.skip rfl rfl rfl ?_
                              refine R.skip rfl rfl rfl ?_
                              refine R.skip rfl rfl rfl ?_
                              refine R.skip rfl rfl rfl ?_
                              refine R.one rfl ?_
                              refine W.det (.kb false) _ rfl ?_
                              refine R.one rfl ?_
                              refine W.det (.kb false) _ rfl ?_
                              refine R.nil ?_
                              refine seqK.n ?_
                              refine A.ret ?_
                              injection h with h
                              subst h
                              cases hG
                              exact ⟨rfl, trivial⟩
                          · refine R.skip rfl rfl rfl ?_
                            refine R.one rfl ?_
                            refine W.det (.kb false) _ rfl ?_
                            refine R.one rfl ?_
                            refine W.det (.kb false) _ rfl ?_
                            refine R.skip rfl rfl rfl ?_
                            refine R.skip rfl rfl rfl ?_
                            refine R.skip rfl rfl rfl ?_
                            refine R.skip rfl rfl rfl ?_
                            refine R.skip rfl rfl rfl ?_
                            refine R.one rfl ?_
                            refine W.det (.kb false) _ rfl ?_
                            refine R.one rfl ?_
                            refine W.det (.kb false) _ rfl ?_
                            refine R.nil ?_
                            refine seqK.n ?_
                            refine A.ret ?_
                            injection h with h
                            subst h
                            cases hG
                            exact ⟨rfl, trivial⟩
                        · refine R.skip rfl rfl rfl ?_
                          refine R.skip rfl rfl rfl ?_
                          refine R.one rfl ?_
                          refine W.det (.kb false) _ rfl ?_
                          refine R.one rfl ?_
                          refine W.det (.kb false) _ rfl ?_
                          refine R.skip rfl rfl rfl ?_
                          refine R.skip rfl rfl rfl ?_
                          refine R.one rfl ?_
                          refine W.det (.kb false) _ rfl ?_
                          refine R.one rfl ?_
                          refine W.det (.kb false) _ rfl ?_
                          refine R.skip rfl rfl rfl ?_
                          refine R.skip rfl rfl rfl ?_
                          refine R.skip rfl rfl rfl ?_
                          refine R.skip rfl rfl rfl ?_
                          refine R.skip rfl rfl rfl ?_
                          refine R.one rfl ?_
                          refine W.det (.kb false) _ rfl ?_
                          refine R.one rfl ?_
                          refine W.det (.kb false) _ rfl ?_
                          refine R.nil ?_
                          refine seqK.n ?_
                          refine A.ret ?_
                          injection h with h
                          subst h
                          cases hG
                          exact ⟨rfl, trivial⟩
                      · refine R.skip rfl rfl rfl ?_
                        refine R.skip rfl rfl rfl ?_
                        refine R.one rfl ?_
                        refine W.det (.kb false) _ rfl ?_
                        refine R.one rfl ?_
                        refine W.det (.kb false) _ rfl ?_
                        refine R.skip rfl rfl rfl ?_
                        refine R.skip rfl rfl rfl ?_
                        refine R.skip rfl rfl rfl ?_
                        refine R.one rfl ?_
                        refine W.det (.kb false) _ rfl ?_
                        refine R.one rfl ?_
                        refine W.det (.kb false) _ rfl ?_
                        refine R.skip rfl rfl rfl ?_
                        refine R.skip rfl rfl rfl ?_
                        refine R.one rfl ?_
                        refine W.det (.kb false) _ rfl ?_
                        refine R.one rfl ?_
                        refine W.det (.kb false) _ rfl ?_
                        refine R.skip rfl rfl rfl ?_
                        refine R.skip rfl rfl rfl ?_
                        refine R.skip rfl rfl rfl ?_
                        refine R.skip rfl rfl rfl ?_
                        refine R.skip rfl rfl rfl ?_
                        refine R.one rfl ?_
                        refine W.det (.kb false) _ rfl ?_
                        refine R.one rfl ?_
                        refine W.det (.kb false) _ rfl ?_
                        refine R.nil ?_
                        refine seqK.n ?_
                        refine A.ret ?_
                        injection h with h
                        subst h
                        cases hG
                        exact ⟨rfl, trivial⟩
                    · refine R.skip rfl rfl rfl ?_
                      refine R.one rfl ?_
                      refine W.det (.kb false) _ rfl ?_
                      refine R.one rfl ?_
                      refine W.det (.kb false) _ rfl ?_
                      refine R.skip rfl rfl rfl ?_
                      refine R.skip rfl rfl rfl ?_
                      refine R.skip rfl rfl rfl ?_
                      refine R.one rfl ?_
                      refine W.det (.kb false) _ rfl ?_
                      refine R.one rfl ?_
                      refine W.det (.kb false) _ rfl ?_
                      refine R.skip rfl rfl rfl ?_
                      refine R.skip rfl rfl rfl ?_
                      refine R.skip rfl rfl rfl ?_
                      refine R.one rfl ?_
                      refine W.det (.kb false) _ rfl ?_
                      refine R.one rfl ?_
                      refine W.det (.kb false) _ rfl ?_
                      refine R.skip rfl rfl rfl ?_
                      refine R.skip rfl rfl rfl ?_
                      refine R.one rfl ?_
                      refine W.det (.kb false) _ rfl ?_
                      refine R.one rfl ?_
                      refine W.det (.kb false) _ rfl ?_
                      refine R.skip rfl rfl rfl ?_
                      refine R.skip rfl rfl rfl ?_
                      refine R.skip rfl rfl rfl ?_
                      refine R.skip rfl rfl rfl ?_
                      refine R.skip rfl rfl rfl ?_
                      refine R.one rfl ?_
                      refine W.det (.kb false) _ rfl ?_
                      refine R.one rfl ?_
                      refine W.det (.kb false) _ rfl ?_
                      refine R.nil ?_
                      refine seqK.n ?_
                      refine A.ret ?_
                      injection h with h
                      subst h
                      cases hG
                      exact ⟨rfl, trivial⟩
                  · refine R.skip rfl rfl rfl ?_
                    refine R.skip rfl rfl rfl ?_
                    refine R.one rfl ?_
                    refine W.det (.kb false) _ rfl ?_
                    refine R.one rfl ?_
                    refine W.det (.kb false) _ rfl ?_
                    refine R.skip rfl rfl rfl ?_
                    refine R.skip rfl rfl rfl ?_
                    refine R.one rfl ?_
                    refine W.det (.kb false) _ rfl ?_
                    refine R.one rfl ?_
                    refine W.det (.kb false) _ rfl ?_
                    refine R.skip rfl rfl rfl ?_
                    refine R.skip rfl rfl rfl ?_
                    refine R.skip rfl rfl rfl ?_
                    refine R.one rfl ?_
                    refine W.det (.kb false) _ rfl ?_
                    refine R.one rfl ?_
                    refine W.det (.kb false) _ rfl ?_
                    refine R.skip rfl rfl rfl ?_
                    refine R.skip rfl rfl rfl ?_
                    refine R.skip rfl rfl rfl ?_
                    refine R.one rfl ?_
                    refine W.det (.kb false) _ rfl ?_
                    refine R.one rfl ?_
                    refine W.det (.kb false) _ rfl ?_
                    refine R.skip rfl rfl rfl ?_
                    refine R.skip rfl rfl rfl ?_
                    refine R.one rfl ?_
                    refine W.det (.kb false) _ rfl ?_
                    refine R.one rfl ?_
                    refine W.det (.kb false) _ rfl ?_
                    refine R.skip rfl rfl rfl ?_
                    refine R.skip rfl rfl rfl ?_
                    refine R.skip rfl rfl rfl ?_
                    refine R.skip rfl rfl rfl ?_
                    refine R.skip rfl rfl rfl ?_
                    refine R.one rfl ?_
                    refine W.det (.kb false) _ rfl ?_
                    refine R.one rfl ?_
                    refine W.det (.kb false) _ rfl ?_
                    refine R.nil ?_
                    refine seqK.n ?_
                    refine A.ret ?_
                    injection h with h
                    subst h
                    cases hG
                    exact ⟨rfl, trivial⟩
                · refine R.skip rfl rfl rfl ?_
                  refine R.one rfl ?_
                  refine W.det (.kb false) _ rfl ?_
                  refine R.one rfl ?_
                  refine W.det (.kb false) _ rfl ?_
                  refine R.skip rfl rfl rfl ?_
                  refine R.skip rfl rfl rfl ?_
                  refine R.skip rfl rfl rfl ?_
                  refine R.one rfl ?_
                  refine W.det (.kb false) _ rfl ?_
                  refine R.one rfl ?_
                  refine W.det (.kb false) _ rfl ?_
                  refine R.skip rfl rfl rfl ?_
                  refine R.skip rfl rfl rfl ?_
                  refine R.one rfl ?_
                  refine W.det (.kb false) _ rfl ?_
                  refine R.one rfl ?_
                  refine W.det (.kb false) _ rfl ?_
                  refine R.skip rfl rfl rfl ?_
                  refine R.skip rfl rfl rfl ?_
                  refine R.skip rfl rfl rfl ?_
                  refine R.one rfl ?_
                  refine W.det (.kb false) _ rfl ?_
                  refine R.one rfl ?_
                  refine W.det (.kb false) _ rfl ?_
                  refine R.skip rfl rfl rfl ?_
                  refine R.skip rfl rfl rfl ?_
                  refine R.skip rfl rfl rfl ?_
                  refine R.one rfl ?_
                  refine W.det (.kb false) _ rfl ?_
                  refine R.one rfl ?_
                  refine W.det (.kb false) _ rfl ?_
                  refine R.skip rfl rfl rfl ?_
                  refine R.skip rfl rfl rfl ?_
                  refine R.one rfl ?_
                  refine W.det (.kb false) _ rfl ?_
                  refine R.one rfl ?_
                  refine W.det (.kb false) _ rfl ?_
                  refine R.skip rfl rfl rfl ?_
                  refine R.skip rfl rfl rfl ?_
                  refine R.skip rfl rfl rfl ?_
                  refine R.skip rfl rfl rfl ?_
                  refine R.skip rfl rfl rfl ?_
                  refine R.one rfl ?_
                  refine W.det (.kb false) _ rfl ?_
                  refine R.one rfl ?_
                  refine W.det (.kb false) _ rfl ?_
                  refine R.nil ?_
                  refine seqK.n ?_
                  refine A.ret ?_
                  injection h with h
                  subst h
                  cases hG
                  exact ⟨rfl, trivial⟩
              · refine R.one rfl ?_
                refine W.det (.kb false) _ rfl ?_
                refine R.one rfl ?_
                refine W.det (.kb false) _ rfl ?_
                refine R.skip rfl rfl rfl ?_
                refine R.skip rfl rfl rfl ?_
                refine R.one rfl ?_
                refine W.det (.kb false) _ rfl ?_
                refine R.one rfl ?_
                refine W.det (.kb false) _ rfl ?_
                refine R.skip rfl rfl rfl ?_
                refine R.skip rfl rfl rfl ?_
                refine R.skip rfl rfl rfl ?_
                refine R.one rfl ?_
                refine W.det (.kb false) _ rfl ?_
                refine R.one rfl ?_
                refine W.det (.kb false) _ rfl ?_
                refine R.skip rfl rfl rfl ?_
                refine R.skip rfl rfl rfl ?_
                refine R.one rfl ?_
                refine W.det (.kb false) _ rfl ?_
                refine R.one rfl ?_
                refine W.det (.kb false) _ rfl ?_
                refine R.skip rfl rfl rfl ?_
                refine R.skip rfl rfl rfl ?_
                refine R.skip rfl rfl rfl ?_
                refine R.one rfl ?_
                refine W.det (.kb false) _ rfl ?_
                refine R.one rfl ?_
                refine W.det (.kb false) _ rfl ?_
                refine R.skip rfl rfl rfl ?_
                refine R.skip rfl rfl rfl ?_
                refine R.skip rfl rfl rfl ?_
                refine R.one rfl ?_
                refine W.det (.kb false) _ rfl ?_
                refine R.one rfl ?_
                refine W.det (.kb false) _ rfl ?_
                refine R.skip rfl rfl rfl ?_
                refine R.skip rfl rfl rfl ?_
                refine R.one rfl ?_
                refine W.det (.kb false) _ rfl ?_
                refine R.one rfl ?_
                refine W.det (.kb false) _ rfl ?_
                refine R.skip rfl rfl rfl ?_
                refine R.skip rfl rfl rfl ?_
                refine R.skip rfl rfl rfl ?_
                refine R.skip rfl rfl rfl ?_
                refine R.skip rfl rfl rfl ?_
                refine R.one rfl ?_
                refine W.det (.kb false) _ rfl ?_
                refine R.one rfl ?_
                refine W.det (.kb false) _ rfl ?_
                refine R.nil ?_
                refine seqK.n ?_
                refine A.ret ?_
                injection h with h
                subst h
                cases hG
                exact ⟨rfl, trivial⟩
            · refine R.one rfl ?_
              refine W.det (.kb false) _ rfl ?_
              refine R.one rfl ?_
              refine W.det (.kb false) _ rfl ?_
              refine R.skip rfl rfl rfl ?_
              refine R.one rfl ?_
              refine W.det (.kb false) _ rfl ?_
              refine R.one rfl ?_
              refine W.det (.kb false) _ rfl ?_
              refine R.skip rfl rfl rfl ?_
              refine R.skip rfl rfl rfl ?_
              refine R.one rfl ?_
              refine W.det (.kb false) _ rfl ?_
              refine R.one rfl ?_
              refine W.det (.kb false) _ rfl ?_
              refine R.skip rfl rfl rfl ?_
              refine R.skip rfl rfl rfl ?_
              refine R.skip rfl rfl rfl ?_
              refine R.one rfl ?_
              refine W.det (.kb false) _ rfl ?_
              refine R.one rfl ?_
              refine W.det (.kb false) _ rfl ?_
              refine R.skip rfl rfl rfl ?_
              refine R.skip rfl rfl rfl ?_
              refine R.one rfl ?_
              refine W.det (.kb false) _ rfl ?_
              refine R.one rfl ?_
              refine W.det (.kb false) _ rfl ?_
              refine R.skip rfl rfl rfl ?_
              refine R.skip rfl rfl rfl ?_
              refine R.skip rfl rfl rfl ?_
              refine R.one rfl ?_
              refine W.det (.kb false) _ rfl ?_
              refine R.one rfl ?_
              refine W.det (.kb false) _ rfl ?_
              refine R.skip rfl rfl rfl ?_
              refine R.skip rfl rfl rfl ?_
              refine R.skip rfl rfl rfl ?_
              refine R.one rfl ?_
              refine W.det (.kb false) _ rfl ?_
              refine R.one rfl ?_
              refine W.det (.kb false) _ rfl ?_
              refine R.skip rfl rfl rfl ?_
              refine R.skip rfl rfl rfl ?_
              refine R.one rfl ?_
              refine W.det (.kb false) _ rfl ?_
              refine R.one rfl ?_
              refine W.det (.kb false) _ rfl ?_
              refine R.skip rfl rfl rfl ?_
              refine R.skip rfl rfl rfl ?_
              refine R.skip rfl rfl rfl ?_
              refine R.skip rfl rfl rfl ?_
              refine R.skip rfl rfl rfl ?_
              refine R.one rfl ?_
              refine W.det (.kb false) _ rfl ?_
              refine R.one rfl ?_
              refine W.det (.kb false) _ rfl ?_
              refine R.nil ?_
              refine seqK.n ?_
              refine A.ret ?_
              injection h with h
              subst h
              cases hG
              exact ⟨rfl, trivial⟩
          · refine R.one rfl ?_
            refine W.det (.kb false) _ rfl ?_
            refine R.one rfl ?_
            refine W.det (.kb false) _ rfl ?_
            refine R.skip rfl rfl rfl ?_
            refine R.one rfl ?_
            refine W.det (.kb false) _ rfl ?_
            refine R.one rfl ?_
            refine W.det (.kb false) _ rfl ?_
            refine R.skip rfl rfl rfl ?_
            refine R.one rfl ?_
            refine W.det (.kb false) _ rfl ?_
            refine R.one rfl ?_
            refine W.det (.kb false) _ rfl ?_
            refine R.skip rfl rfl rfl ?_
            refine R.skip rfl rfl rfl ?_
            refine R.one rfl ?_
            refine W.det (.kb false) _ rfl ?_
            refine R.one rfl ?_
            refine W.det (.kb false) _ rfl ?_
            refine R.skip rfl rfl rfl ?_
            refine R.skip rfl rfl rfl ?_
            refine R.skip rfl rfl rfl ?_
            refine R.one rfl ?_
            refine W.det (.kb false) _ rfl ?_
            refine R.one rfl ?_
            refine W.det (.kb false) _ rfl ?_
            refine R.skip rfl rfl rfl ?_
            refine R.skip rfl rfl rfl ?_
            refine R.one rfl ?_
            refine W.det (.kb false) _ rfl ?_
            refine R.one rfl ?_
            refine W.det (.kb false) _ rfl ?_
            refine R.skip rfl rfl rfl ?_
            refine R.skip rfl rfl rfl ?_
            refine R.skip rfl rfl rfl ?_
            refine R.one rfl ?_
            refine W.det (.kb false) _ rfl ?_
            refine R.one rfl ?_
            refine W.det (.kb false) _ rfl ?_
            refine R.skip rfl rfl rfl ?_
            refine R.skip rfl rfl rfl ?_
            refine R.skip rfl rfl rfl ?_
            refine R.one rfl ?_
            refine W.det (.kb false) _ rfl ?_
            refine R.one rfl ?_
            refine W.det (.kb false) _ rfl ?_
            refine R.skip rfl rfl rfl ?_
            refine R.skip rfl rfl rfl ?_
            refine R.one rfl ?_
            refine W.det (.kb false) _ rfl ?_
            refine R.one rfl ?_
            refine W.det (.kb false) _ rfl ?_
            refine R.skip rfl rfl rfl ?_
            refine R.skip rfl rfl rfl ?_
            refine R.skip rfl rfl rfl ?_
            refine R.skip rfl rfl rfl ?_
            refine R.skip rfl rfl rfl ?_
            refine R.one rfl ?_
            refine W.det (.kb false) _ rfl ?_
            refine R.one rfl ?_
            refine W.det (.kb false) _ rfl ?_
            refine R.nil ?_
            refine seqK.n ?_
            refine A.ret ?_
            injection h with h
            subst h
            cases hG
            exact ⟨rfl, trivial⟩
        · refine R.skip rfl rfl rfl ?_
          refine R.one rfl ?_
          refine W.det (.kb false) _ rfl ?_
          refine R.one rfl ?_
          refine W.det (.kb false) _ rfl ?_
          refine R.skip rfl rfl rfl ?_
          refine R.one rfl ?_
          refine W.det (.kb false) _ rfl ?_
          refine R.one rfl ?_
          refine W.det (.kb false) _ rfl ?_
          refine R.skip rfl rfl rfl ?_
          refine R.one rfl ?_
          refine W.det (.kb false) _ rfl ?_
          refine R.one rfl ?_
          refine W.det (.kb false) _ rfl ?_
          refine R.skip rfl rfl rfl ?_
          refine R.one rfl ?_
          refine W.det (.kb false) _ rfl ?_
          refine R.one rfl ?_
          refine W.det (.kb false) _ rfl ?_
          refine R.skip rfl rfl rfl ?_
          refine R.skip rfl rfl rfl ?_
          refine R.one rfl ?_
          refine W.det (.kb false) _ rfl ?_
          refine R.one rfl ?_
          refine W.det (.kb false) _ rfl ?_
          refine R.skip rfl rfl rfl ?_
          refine R.skip rfl rfl rfl ?_
          refine R.skip rfl rfl rfl ?_
          refine R.one rfl ?_
          refine W.det (.kb false) _ rfl ?_
          refine R.one rfl ?_
          refine W.det (.kb false) _ rfl ?_
          refine R.skip rfl rfl rfl ?_
          refine R.skip rfl rfl rfl ?_
          refine R.one rfl ?_
          refine W.det (.kb false) _ rfl ?_
          refine R.one rfl ?_
          refine W.det (.kb false) _ rfl ?_
          refine R.skip rfl rfl rfl ?_
          refine R.skip rfl rfl rfl ?_
          refine R.skip rfl rfl rfl ?_
          refine R.one rfl ?_
          refine W.det (.kb false) _ rfl ?_
          refine R.one rfl ?_
          refine W.det (.kb false) _ rfl ?_
          refine R.skip rfl rfl rfl ?_
          refine R.skip rfl rfl rfl ?_
          refine R.skip rfl rfl rfl ?_
          refine R.one rfl ?_
          refine W.det (.kb false) _ rfl ?_
          refine R.one rfl ?_
          refine W.det (.kb false) _ rfl ?_
          refine R.skip rfl rfl rfl ?_
          refine R.skip rfl rfl rfl ?_
          refine R.one rfl ?_
          refine W.det (.kb false) _ rfl ?_
          refine R.one rfl ?_
          refine W.det (.kb false) _ rfl ?_
          refine R.skip rfl rfl rfl ?_
          refine R.skip rfl rfl rfl ?_
          refine R.skip rfl rfl rfl ?_
          refine R.skip rfl rfl rfl ?_
          refine R.skip rfl rfl rfl ?_
          refine R.one rfl ?_
          refine W.det (.kb false) _ rfl ?_
          refine R.one rfl ?_
          refine W.det (.kb false) _ rfl ?_
          refine R.nil ?_
          refine seqK.n ?_
          refine A.ret ?_
          injection h with h
          subst h
          cases hG
          exact ⟨rfl, trivial⟩
      · refine R.one rfl ?_
        refine W.det (.kb false) _ rfl ?_
        refine R.one rfl ?_
        refine W.det (.kb false) _ rfl ?_
        refine R.skip rfl rfl rfl ?_
        refine R.skip rfl rfl rfl ?_
        refine R.one rfl ?_
        refine W.det (.kb false) _ rfl ?_
        refine R.one rfl ?_
        refine W.det (.kb false) _ rfl ?_
        refine R.skip rfl rfl rfl ?_
        refine R.one rfl ?_
        refine W.det (.kb false) _ rfl ?_
        refine R.one rfl ?_
        refine W.det (.kb false) _ rfl ?_
        refine R.skip rfl rfl rfl ?_
        refine R.one rfl ?_
        refine W.det (.kb false) _ rfl ?_
        refine R.one rfl ?_
        refine W.det (.kb false) _ rfl ?_
        refine R.skip rfl rfl rfl ?_
        refine R.one rfl ?_
        refine W.det (.kb false) _ rfl ?_
        refine R.one rfl ?_
        refine W.det (.kb false) _ rfl ?_
        refine R.skip rfl rfl rfl ?_
        refine R.skip rfl rfl rfl ?_
        refine R.one rfl ?_
        refine W.det (.kb false) _ rfl ?_
        refine R.one rfl ?_
        refine W.det (.kb false) _ rfl ?_
        refine R.skip rfl rfl rfl ?_
        refine R.skip rfl rfl rfl ?_
        refine R.skip rfl rfl rfl ?_
        refine R.one rfl ?_
        refine W.det (.kb false) _ rfl ?_
        refine R.one rfl ?_
        refine W.det (.kb false) _ rfl ?_
        refine R.skip rfl rfl rfl ?_
        refine R.skip rfl rfl rfl ?_
        refine R.one rfl ?_
        refine W.det (.kb false) _ rfl ?_
        refine R.one rfl ?_
        refine W.det (.kb false) _ rfl ?_
        refine R.skip rfl rfl rfl ?_
        refine R.skip rfl rfl rfl ?_
        refine R.skip rfl rfl rfl ?_
        refine R.one rfl ?_
        refine W.det (.kb false) _ rfl ?_
        refine R.one rfl ?_
        refine W.det (.kb false) _ rfl ?_
        refine R.skip rfl rfl rfl ?_
        refine R.skip rfl rfl rfl ?_
        refine R.skip rfl rfl rfl ?_
        refine R.one rfl ?_
        refine W.det (.kb false) _ rfl ?_
        refine R.one rfl ?_
        refine W.det (.kb false) _ rfl ?_
        refine R.skip rfl rfl rfl ?_
        refine R.skip rfl rfl rfl ?_
        refine R.one rfl ?_
        refine W.det (.kb false) _ rfl ?_
        refine R.one rfl ?_
        refine W.det (.kb false) _ rfl ?_
        refine R.skip rfl rfl rfl ?_
        refine R.skip rfl rfl rfl ?_
        refine R.skip rfl rfl rfl ?_
        refine R.skip rfl rfl rfl ?_
        refine R.skip rfl rfl rfl ?_
        refine R.one rfl ?_
        refine W.det (.kb false) _ rfl ?_
        refine R.one rfl ?_
        refine W.det (.kb false) _ rfl ?_
        refine R.nil ?_
        refine seqK.n ?_
        refine A.ret ?_
        injection h with h
        subst h
        cases hG
        exact ⟨rfl, trivial⟩
    · refine R.one rfl ?_
      refine W.det (.kb false) _ rfl ?_
      refine R.one rfl ?_
      refine W.det (.kb false) _ rfl ?_
      refine R.skip rfl rfl rfl ?_
      refine R.one rfl ?_
      refine W.det (.kb false) _ rfl ?_
      refine R.one rfl ?_
      refine W.det (.kb false) _ rfl ?_
      refine R.skip rfl rfl rfl ?_
      refine R.skip rfl rfl rfl ?_
      refine R.one rfl ?_
      refine W.det (.kb false) _ rfl ?_
      refine R.one rfl ?_
      refine W.det (.kb false) _ rfl ?_
      refine R.skip rfl rfl rfl ?_
      refine R.one rfl ?_
      refine W.det (.kb false) _ rfl ?_
      refine R.one rfl ?_
      refine W.det (.kb false) _ rfl ?_
      refine R.skip rfl rfl rfl ?_
      refine R.one rfl ?_
      refine W.det (.kb false) _ rfl ?_
      refine R.one rfl ?_
      refine W.det (.kb false) _ rfl ?_
      refine R.skip rfl rfl rfl ?_
      refine R.one rfl ?_
      refine W.det (.kb false) _ rfl ?_
      refine R.one rfl ?_
      refine W.det (.kb false) _ rfl ?_
      refine R.skip rfl rfl rfl ?_
      refine R.skip rfl rfl rfl ?_
      refine R.one rfl ?_
      refine W.det (.kb false) _ rfl ?_
      refine R.one rfl ?_
      refine W.det (.kb false) _ rfl ?_
      refine R.skip rfl rfl rfl ?_
      refine R.skip rfl rfl rfl ?_
      refine R.skip rfl rfl rfl ?_
      refine R.one rfl ?_
      refine W.det (.kb false) _ rfl ?_
      refine R.one rfl ?_
      refine W.det (.kb false) _ rfl ?_
      refine R.skip rfl rfl rfl ?_
      refine R.skip rfl rfl rfl ?_
      refine R.one rfl ?_
      refine W.det (.kb false) _ rfl ?_
      refine R.one rfl ?_
      refine W.det (.kb false) _ rfl ?_
      refine R.skip rfl rfl rfl ?_
      refine R.skip rfl rfl rfl ?_
      refine R.skip rfl rfl rfl ?_
      refine R.one rfl ?_
      refine W.det (.kb false) _ rfl ?_
      refine R.one rfl ?_
      refine W.det (.kb false) _ rfl ?_
      refine R.skip rfl rfl rfl ?_
      refine R.skip rfl rfl rfl ?_
      refine R.skip rfl rfl rfl ?_
      refine R.one rfl ?_
      refine W.det (.kb false) _ rfl ?_
      refine R.one rfl ?_
      refine W.det (.kb false) _ rfl ?_
      refine R.skip rfl rfl rfl ?_
      refine R.skip rfl rfl rfl ?_
      refine R.one rfl ?_
      refine W.det (.kb false) _ rfl ?_
      refine R.one rfl ?_
      refine W.det (.kb false) _ rfl ?_
      refine R.skip rfl rfl rfl ?_
      refine R.skip rfl rfl rfl ?_
      refine R.skip rfl rfl rfl ?_
      refine R.skip rfl rfl rfl ?_
      refine R.skip rfl rfl rfl ?_
      refine R.one rfl ?_
      refine W.det (.kb false) _ rfl ?_
      refine R.one rfl ?_
      refine W.det (.kb false) _ rfl ?_
      refine R.nil ?_
      refine seqK.n ?_
      refine A.ret ?_
      injection h with h
      subst h
      cases hG
      exact ⟨rfl, trivial⟩
end Go.Proofs.Ytikfbgbfjipceaa

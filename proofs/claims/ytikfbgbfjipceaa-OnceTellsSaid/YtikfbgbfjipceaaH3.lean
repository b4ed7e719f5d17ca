/-
  Plain programs of functions, and that the functions do what they say. Printed by wip/tools/gen.py.
-/
import Derived.Test.YtikfbgbfjipceaaG2
namespace Go.Proofs.Ytikfbgbfjipceaa
open Go.RowKit
attribute [local irreducible] IntKind.wrap
set_option linter.unusedVariables false
set_option maxHeartbeats 4000000
set_option maxRecDepth 100000
noncomputable def law32_OnceTells (p_ : Int) (p1_ : (List Arr2_Int)) (p2_ : Int) (p3_ : Int) : Option (Bool) :=
  (law32_small).bind fun y1 =>
  (bif (decide ((40 : Int) < (p1_.length : Int))) then
    some y1
  else
    (once_Take (once_List.mk p_ p1_) p2_ p3_).bind fun y2 =>
    (ref32_Take p_ p1_ p2_ p3_).bind fun y3 =>
    (seqF (A := Int) (
      (ref32_Right p_ p1_).bind fun y5 =>
      (bif y5 then
        some (.inl p_)
      else
        some (.inl (-1 : Int))))
    fun s1 =>
      (bif y1 then
        (bif (y2.1.Low == y3.1) then
          (ref32_Same y2.1.Ranges y3.2.1).bind fun y6 =>
          (bif y6 then
            (bif (y2.2 == y3.2.2) then
              (once_Right (once_List.mk p_ p1_)).bind fun y7 =>
              (ref32_Right p_ p1_).bind fun y8 =>
              (bif (y7 == y8) then
                (once_Has (once_List.mk p_ p1_) p2_).bind fun y9 =>
                (ref32_Has p_ p1_ p2_).bind fun y10 =>
                (bif (y9 == y10) then
                  (once_Floor (once_List.mk p_ p1_)).bind fun y11 =>
                  some (y11 == s1)
                else
                  some false)
              else
                some false)
            else
              some false)
          else
            some false)
        else
          some false)
      else
        some false)))
theorem law32_OnceTells_fn {p_ : Int} {p1_ : (List Arr2_Int)} {p2_ : Int} {p3_ : Int} {r : Bool} (h : law32_OnceTells p_ p1_ p2_ p3_ = some r) : Fn Try.prog 3 [.d (.v (.int .i64 p_)), .d (.fz (List.map Arr2_Int.enc p1_)), .d (.v (.int .i64 p2_)), .d (.v (.int .i64 p3_))] (.d (.v (.bool r))) := by
  refine Fn.of_AW (F := FnX Try.prog) (base := 0) (js := [10]) mixed tok noeqs (fun _ _ _ h => h) Try.call3 Try.func3 rfl Try.ntmps3 (by rw [Try.results3]) (by simp) ?_
  have hG : (fun x => x = r) r := rfl
  unfold law32_OnceTells at h
  refine A.seq rfl ?_
  refine A.region ?_
  refine R.one rfl ?_
  refine W.det (.kb false) _ rfl ?_
  refine R.nil ?_
  refine seqK.n ?_
  refine A.seq rfl ?_
  refine A.region ?_
  refine R.one rfl ?_
  refine bindK h fun y1 hy1 h => ?_
  refine W.call rfl (law32_small_fn hy1) ?_
  refine W.det (.d (.v (.bool y1))) _ rfl ?_
  refine R.one rfl ?_
  refine W.det (.d (.v (.bool y1))) _ rfl ?_
  refine R.nil ?_
  refine seqK.n ?_
  refine A.seq rfl ?_
  refine A.seq rfl ?_
  refine A.region ?_
  refine R.one rfl ?_
  refine W.det (.d (.fz (List.map Arr2_Int.enc p1_))) _ rfl ?_
  refine R.one rfl ?_
  refine W.len rfl ?_
  refine R.one rfl ?_
  refine W.det (.d (.v (.bool (decide ((40 : Int) < (p1_.length : Int)))))) _ rfl ?_
  refine R.nil ?_
  refine seqK.n ?_
  refine A.condB rfl h (fun _ h => ?_) (fun _ h => ?_)
  · refine A.seq rfl ?_
    refine A.region ?_
    refine R.one rfl ?_
    refine W.det (.d (.v (.bool y1))) _ rfl ?_
    refine R.one rfl ?_
    refine W.det (.d (.v (.bool y1))) _ rfl ?_
    refine R.nil ?_
    refine seqK.n ?_
    refine A.ret ?_
    refine seqK.r ?_
    injection h with h
    subst h
    cases hG
    exact ⟨rfl, trivial⟩
  · refine A.skip ?_
    refine seqK.n ?_
    refine A.seq rfl ?_
    refine A.region ?_
    refine R.one rfl ?_
    refine W.det (.d (.v (.int .i64 p_))) _ rfl ?_
    refine R.one rfl ?_
    refine W.det (.d (.fz (List.map Arr2_Int.enc p1_))) _ rfl ?_
    refine R.one rfl ?_
    refine W.det (.agg [.d (.v (.int .i64 p_)), .d (.fz (List.map Arr2_Int.enc p1_))]) _ rfl ?_
    refine R.one rfl ?_
    refine W.det (.lp 10 1 0) (Mem.add (Mem.add _ 131082 (.rows 2 (List.map Arr2_Int.enc ([] : List Arr2_Int)) false)) 10 (.box [.d (.v (.int .i64 (0 : Int))), .row 131082 1 0])) rfl ?_
    refine R.one rfl ?_
    refine W.det (.tup []) (Mem.set _ 10 1 (some (.box [.d (.v (.int .i64 p_)), .d (.fz (List.map Arr2_Int.enc p1_))]))) rfl ?_
    refine R.nil ?_
    refine seqK.n ?_
    refine A.seq rfl ?_
    refine A.region ?_
    refine R.one rfl ?_
    refine W.det (.agg [.d (.v (.int .i64 p_)), .d (.fz (List.map Arr2_Int.enc p1_))]) _ rfl ?_
    refine R.one rfl ?_
    refine W.det (.d (.v (.int .i64 p2_))) _ rfl ?_
    refine R.one rfl ?_
    refine W.det (.d (.v (.int .i64 p3_))) _ rfl ?_
    refine R.one rfl ?_
    refine bindK h fun y2 hy2 h => ?_
    refine W.call rfl (once_Take_fn hy2) ?_
    refine W.det (.tup [.agg [.d (.v (.int .i64 y2.1.Low)), .d (.fz (List.map Arr2_Int.enc y2.1.Ranges))], .d (.v (.bool y2.2))]) _ rfl ?_
    refine R.one rfl ?_
    refine W.det (.tup [.agg [.d (.v (.int .i64 y2.1.Low)), .d (.fz (List.map Arr2_Int.enc y2.1.Ranges))], .d (.v (.bool y2.2))]) _ rfl ?_
    refine R.one rfl ?_
    refine W.det (.agg [.d (.v (.int .i64 y2.1.Low)), .d (.fz (List.map Arr2_Int.enc y2.1.Ranges))]) _ rfl ?_
    refine R.one rfl ?_
    refine W.det (.d (.v (.bool y2.2))) _ rfl ?_
    refine R.one rfl ?_
    refine W.det (.lp 11 1 0) (Mem.add (Mem.add _ 131083 (.rows 2 (List.map Arr2_Int.enc ([] : List Arr2_Int)) false)) 11 (.box [.d (.v (.int .i64 (0 : Int))), .row 131083 1 0])) rfl ?_
    refine R.one rfl ?_
    refine W.det (.tup []) (Mem.set _ 11 1 (some (.box [.d (.v (.int .i64 y2.1.Low)), .d (.fz (List.map Arr2_Int.enc y2.1.Ranges))]))) rfl ?_
    refine R.one rfl ?_
    refine W.det (.d (.v (.bool y2.2))) _ rfl ?_
    refine R.nil ?_
    refine seqK.n ?_
    refine A.seq rfl ?_
    refine A.region ?_
    refine R.one rfl ?_
    refine W.det (.d (.v (.int .i64 p_))) _ rfl ?_
    refine R.one rfl ?_
    refine W.det (.d (.fz (List.map Arr2_Int.enc p1_))) _ rfl ?_
    refine R.one rfl ?_
    refine W.det (.d (.v (.int .i64 p2_))) _ rfl ?_
    refine R.one rfl ?_
    refine W.det (.d (.v (.int .i64 p3_))) _ rfl ?_
    refine R.one rfl ?_
    refine bindK h fun y3 hy3 h => ?_
    refine W.call rfl (ref32_Take_fn hy3) ?_
    refine W.det (.tup [.d (.v (.int .i64 y3.1)), .d (.fz (List.map Arr2_Int.enc y3.2.1)), .d (.v (.bool y3.2.2))]) _ rfl ?_
    refine R.one rfl ?_
    refine W.det (.tup [.d (.v (.int .i64 y3.1)), .d (.fz (List.map Arr2_Int.enc y3.2.1)), .d (.v (.bool y3.2.2))]) _ rfl ?_
    refine R.one rfl ?_
    refine W.det (.d (.v (.int .i64 y3.1))) _ rfl ?_
    refine R.one rfl ?_
    refine W.det (.d (.fz (List.map Arr2_Int.enc y3.2.1))) _ rfl ?_
    refine R.one rfl ?_
    refine W.det (.d (.v (.bool y3.2.2))) _ rfl ?_
    refine R.one rfl ?_
    refine W.det (.d (.v (.int .i64 y3.1))) _ rfl ?_
    refine R.one rfl ?_
    refine W.det (.d (.fz (List.map Arr2_Int.enc y3.2.1))) _ rfl ?_
    refine R.one rfl ?_
    refine W.det (.d (.v (.bool y3.2.2))) _ rfl ?_
    refine R.nil ?_
    refine seqK.n ?_
    refine A.seq rfl ?_
    refine A.region ?_
    refine R.one rfl ?_
    refine W.det (.d (.v (.int .i64 (-1 : Int)))) _ rfl ?_
    refine R.nil ?_
    refine seqK.n ?_
    refine A.join (fun (s1 : Int) => [(0, .d (.v (.int .i64 p_))), (1, .d (.fz (List.map Arr2_Int.enc p1_))), (2, .d (.v (.int .i64 p2_))), (9, .d (.v (.bool y1))), (10, .lp 900000 1 0), (11, .lp 900001 1 0), (12, .d (.v (.bool y2.2))), (13, .d (.v (.int .i64 y3.1))), (14, .d (.fz (List.map Arr2_Int.enc y3.2.1))), (15, .d (.v (.bool y3.2.2))), (16, .d (.v (.int .i64 s1)))]) (fun s1 => [(900000, .box [.d (.v (.int .i64 p_)), .d (.fz (List.map Arr2_Int.enc p1_))]), (900001, .box [.d (.v (.int .i64 y2.1.Low)), .d (.fz (List.map Arr2_Int.enc y2.1.Ranges))])]) _ h hG rfl ?_ ?_
    · intro J f h hG
      refine A.seq rfl ?_
      refine A.region ?_
      refine R.one rfl ?_
      refine W.det (.d (.v (.int .i64 p_))) _ rfl ?_
      refine R.one rfl ?_
      refine W.det (.d (.fz (List.map Arr2_Int.enc p1_))) _ rfl ?_
      refine R.one rfl ?_
      refine bindK h fun y5 hy5 h => ?_
      refine W.call rfl (ref32_Right_fn hy5) ?_
      refine W.det (.d (.v (.bool y5))) _ rfl ?_
      refine R.nil ?_
      refine seqK.n ?_
      refine A.condB rfl h (fun _ h => ?_) (fun _ h => ?_)
      · refine A.region ?_
        refine R.one rfl ?_
        refine W.det (.d (.v (.int .i64 p_))) _ rfl ?_
        refine R.one rfl ?_
        refine W.det (.d (.v (.int .i64 p_))) _ rfl ?_
        refine R.nil ?_
        injection h with h
        subst h
        exact headK.n hG (Enters.of [] [(900000, (10, 1)), (900001, (11, 1))] _ rfl rfl (chkE.c rfl rfl (chkE.c rfl rfl (chkE.c rfl rfl (chkE.c rfl rfl (chkE.c rfl rfl (chkE.c rfl rfl (chkE.c rfl rfl (chkE.c rfl rfl (chkE.c rfl rfl (chkE.c rfl rfl (chkE.c rfl rfl trivial))))))))))) (chkM.c rfl rfl (chkM.c rfl rfl trivial)))
      · refine A.skip ?_
        injection h with h
        subst h
        exact headK.n hG (Enters.of [] [(900000, (10, 1)), (900001, (11, 1))] _ rfl rfl (chkE.c rfl rfl (chkE.c rfl rfl (chkE.c rfl rfl (chkE.c rfl rfl (chkE.c rfl rfl (chkE.c rfl rfl (chkE.c rfl rfl (chkE.c rfl rfl (chkE.c rfl rfl (chkE.c rfl rfl (chkE.c rfl rfl trivial))))))))))) (chkM.c rfl rfl (chkM.c rfl rfl trivial)))
    · intro s1 r2 h hG
      refine A.seq rfl ?_
      refine A.region ?_
      refine R.one rfl ?_
      refine W.det (.d (.v (.bool y1))) _ rfl ?_
      refine R.one rfl ?_
      refine W.det (.d (.v (.bool y1))) _ rfl ?_
      refine R.gT rfl rfl rfl h (fun _ h => ?_) (fun _ h => ?_)
      · refine W.det (.lp 900001 1 0) _ rfl ?_
        refine R.run rfl rfl rfl ?_
        refine W.det (.d (.v (.int .i64 y2.1.Low))) _ rfl ?_
        refine R.run rfl rfl rfl ?_
        refine W.det (.d (.v (.int .i64 y3.1))) _ rfl ?_
        refine R.run rfl rfl rfl ?_
        refine W.det (.d (.v (.bool (y2.1.Low == y3.1)))) _ rfl ?_
        refine R.one rfl ?_
        refine W.det (.d (.v (.bool (y2.1.Low == y3.1)))) _ rfl ?_
        refine R.one rfl ?_
        refine W.det (.d (.v (.bool (y2.1.Low == y3.1)))) _ rfl ?_
        refine R.gT rfl rfl rfl h (fun _ h => ?_) (fun _ h => ?_)
        · refine W.det (.lp 900001 1 1) _ rfl ?_
          refine R.run rfl rfl rfl ?_
          refine W.det (.d (.fz (List.map Arr2_Int.enc y2.1.Ranges))) _ rfl ?_
          refine R.run rfl rfl rfl ?_
          refine W.det (.d (.fz (List.map Arr2_Int.enc y3.2.1))) _ rfl ?_
          refine R.run rfl rfl rfl ?_
          refine bindK h fun y6 hy6 h => ?_
          refine W.call rfl (ref32_Same_fn hy6) ?_
          refine W.det (.d (.v (.bool y6))) _ rfl ?_
          refine R.one rfl ?_
          refine W.det (.d (.v (.bool y6))) _ rfl ?_
          refine R.one rfl ?_
          refine W.det (.d (.v (.bool y6))) _ rfl ?_
          refine R.gT rfl rfl rfl h (fun _ h => ?_) (fun _ h => ?_)
          · refine W.det (.d (.v (.bool y2.2))) _ rfl ?_
            refine R.run rfl rfl rfl ?_
            refine W.det (.d (.v (.bool y3.2.2))) _ rfl ?_
            refine R.run rfl rfl rfl ?_
            refine W.det (.d (.v (.bool (y2.2 == y3.2.2)))) _ rfl ?_
            refine R.one rfl ?_
            refine W.det (.d (.v (.bool (y2.2 == y3.2.2)))) _ rfl ?_
            refine R.one rfl ?_
            refine W.det (.d (.v (.bool (y2.2 == y3.2.2)))) _ rfl ?_
            refine R.gT rfl rfl rfl h (fun _ h => ?_) (fun _ h => ?_)
            · refine W.det (.agg [.d (.v (.int .i64 p_)), .d (.fz (List.map Arr2_Int.enc p1_))]) _ rfl ?_
              refine R.run rfl rfl rfl ?_
              refine bindK h fun y7 hy7 h => ?_
              refine W.call rfl (once_Right_fn hy7) ?_
              refine W.det (.d (.v (.bool y7))) _ rfl ?_
              refine R.run rfl rfl rfl ?_
              refine W.det (.d (.v (.int .i64 p_))) _ rfl ?_
              refine R.run rfl rfl rfl ?_
              refine W.det (.d (.fz (List.map Arr2_Int.enc p1_))) _ rfl ?_
              refine R.run rfl rfl rfl ?_
              refine bindK h fun y8 hy8 h => ?_
              refine W.call rfl (ref32_Right_fn hy8) ?_
              refine W.det (.d (.v (.bool y8))) _ rfl ?_
              refine R.run rfl rfl rfl ?_
              refine W.det (.d (.v (.bool (y7 == y8)))) _ rfl ?_
              refine R.one rfl ?_
              refine W.det (.d (.v (.bool (y7 == y8)))) _ rfl ?_
              refine R.one rfl ?_
              refine W.det (.d (.v (.bool (y7 == y8)))) _ rfl ?_
              refine R.gT rfl rfl rfl h (fun _ h => ?_) (fun _ h => ?_)
              · refine W.det (.agg [.d (.v (.int .i64 p_)), .d (.fz (List.map Arr2_Int.enc p1_))]) _ rfl ?_
                refine R.run rfl rfl rfl ?_
                refine W.det (.d (.v (.int .i64 p2_))) _ rfl ?_
                refine R.run rfl rfl rfl ?_
                refine bindK h fun y9 hy9 h => ?_
                refine W.call rfl (once_Has_fn hy9) ?_
                refine W.det (.d (.v (.bool y9))) _ rfl ?_
                refine R.run rfl rfl rfl ?_
                refine W.det (.d (.v (.int .i64 p_))) _ rfl ?_
                refine R.run rfl rfl rfl ?_
                refine W.det (.d (.fz (List.map Arr2_Int.enc p1_))) _ rfl ?_
                refine R.run rfl rfl rfl ?_
                refine W.det (.d (.v (.int .i64 p2_))) _ rfl ?_
                refine R.run rfl rfl rfl ?_
                refine bindK h fun y10 hy10 h => ?_
                refine W.call rfl (ref32_Has_fn hy10) ?_
                refine W.det (.d (.v (.bool y10))) _ rfl ?_
                refine R.run rfl rfl rfl ?_
                refine W.det (.d (.v (.bool (y9 == y10)))) _ rfl ?_
                refine R.one rfl ?_
                refine W.det (.d (.v (.bool (y9 == y10)))) _ rfl ?_
                refine R.one rfl ?_
                refine W.det (.d (.v (.bool (y9 == y10)))) _ rfl ?_
                refine R.gT rfl rfl rfl h (fun _ h => ?_) (fun _ h => ?_)
                · refine W.det (.agg [.d (.v (.int .i64 p_)), .d (.fz (List.map Arr2_Int.enc p1_))]) _ rfl ?_
                  refine R.run rfl rfl rfl ?_
                  refine bindK h fun y11 hy11 h => ?_
                  refine W.call rfl (once_Floor_fn hy11) ?_
                  refine W.det (.d (.v (.int .i64 y11))) _ rfl ?_
                  refine R.run rfl rfl rfl ?_
                  refine W.det (.d (.v (.int .i64 s1))) _ rfl ?_
                  refine R.run rfl rfl rfl ?_
                  refine W.det (.d (.v (.bool (y11 == s1)))) _ rfl ?_
                  refine R.one rfl ?_
                  refine W.det (.d (.v (.bool (y11 == s1)))) _ rfl ?_
                  refine R.one rfl ?_
                  refine W.det (.d (.v (.bool (y11 == s1)))) _ rfl ?_
                  refine R.nil ?_
                  refine seqK.n ?_
                  refine A.ret ?_
                  injection h with h
                  subst h
                  cases hG
                  exact ⟨rfl, trivial⟩
                · refine R.skip rfl rfl rfl ?_
                  refine R.skip rfl rfl rfl ?_
                  refine R.skip rfl rfl rfl ?_
                  refine R.one rfl ?_
                  refine W.det (.kb false) _ rfl ?_
                  refine R.one rfl ?_
                  refine W.det (.kb false) _ rfl ?_
                  refine R.nil ?_
                  refine seqK.n ?_
                  refine A.ret ?_
                  injection h with h
                  subst h
                  cases hG
                  exact ⟨rfl, trivial⟩
              · refine R.skip rfl rfl rfl ?_
                refine R.skip rfl rfl rfl ?_
                refine R.skip rfl rfl rfl ?_
                refine R.skip rfl rfl rfl ?_
                refine R.skip rfl rfl rfl ?_
                refine R.skip rfl rfl rfl ?_
                refine R.skip rfl rfl rfl ?_
                refine R.one rfl ?_
                refine W.det (.kb false) _ rfl ?_
                refine R.one rfl ?_
                refine W.det (.kb false) _ rfl ?_
                refine R.skip rfl rfl rfl ?_
                refine R.skip rfl rfl rfl ?_
                refine R.skip rfl rfl rfl ?_
                refine R.skip rfl rfl rfl ?_
                refine R.one rfl ?_
                refine W.det (.kb false) _ rfl ?_
                refine R.one rfl ?_
                refine W.det (.kb false) _ rfl ?_
                refine R.nil ?_
                refine seqK.n ?_
                refine A.ret ?_
                injection h with h
                subst h
                cases hG
                exact ⟨rfl, trivial⟩
            · refine R.skip rfl rfl rfl ?_
              refine R.skip rfl rfl rfl ?_
              refine R.skip rfl rfl rfl ?_
              refine R.skip rfl rfl rfl ?_
              refine R.skip rfl rfl rfl ?_
              refine R.one rfl ?_
              refine W.det (.kb false) _ rfl ?_
              refine R.one rfl ?_
              refine W.det (.kb false) _ rfl ?_
              refine R.skip rfl rfl rfl ?_
              refine R.skip rfl rfl rfl ?_
              refine R.skip rfl rfl rfl ?_
              refine R.skip rfl rfl rfl ?_
              refine R.skip rfl rfl rfl ?_
              refine R.skip rfl rfl rfl ?_
              refine R.skip rfl rfl rfl ?_
              refine R.skip rfl rfl rfl ?_
              refine R.one rfl ?_
              refine W.det (.kb false) _ rfl ?_
              refine R.one rfl ?_
              refine W.det (.kb false) _ rfl ?_
              refine R.skip rfl rfl rfl ?_
              refine R.skip rfl rfl rfl ?_
              refine R.skip rfl rfl rfl ?_
              refine R.skip rfl rfl rfl ?_
              refine R.one rfl ?_
              refine W.det (.kb false) _ rfl ?_
              refine R.one rfl ?_
              refine W.det (.kb false) _ rfl ?_
              refine R.nil ?_
              refine seqK.n ?_
              refine A.ret ?_
              injection h with h
              subst h
              cases hG
              exact ⟨rfl, trivial⟩
          · refine R.skip rfl rfl rfl ?_
            refine R.skip rfl rfl rfl ?_
            refine R.one rfl ?_
            refine W.det (.kb false) _ rfl ?_
            refine R.one rfl ?_
            refine W.det (.kb false) _ rfl ?_
            refine R.skip rfl rfl rfl ?_
            refine R.skip rfl rfl rfl ?_
            refine R.skip rfl rfl rfl ?_
            refine R.skip rfl rfl rfl ?_
            refine R.skip rfl rfl rfl ?_
            refine R.skip rfl rfl rfl ?_
            refine R.one rfl ?_
            refine W.det (.kb false) _ rfl ?_
            refine R.one rfl ?_
            refine W.det (.kb false) _ rfl ?_
            refine R.skip rfl rfl rfl ?_
            refine R.skip rfl rfl rfl ?_
            refine R.skip rfl rfl rfl ?_
            refine R.skip rfl rfl rfl ?_
            refine R.skip rfl rfl rfl ?_
            refine R.skip rfl rfl rfl ?_
            refine R.skip rfl rfl rfl ?_
            refine R.skip rfl rfl rfl ?_
            refine R.one rfl ?_
            refine W.det (.kb false) _ rfl ?_
            refine R.one rfl ?_
            refine W.det (.kb false) _ rfl ?_
            refine R.skip rfl rfl rfl ?_
            refine R.skip rfl rfl rfl ?_
            refine R.skip rfl rfl rfl ?_
            refine R.skip rfl rfl rfl ?_
            refine R.one rfl ?_
            refine W.det (.kb false) _ rfl ?_
            refine R.one rfl ?_
            refine W.det (.kb false) _ rfl ?_
            refine R.nil ?_
            refine seqK.n ?_
            refine A.ret ?_
            injection h with h
            subst h
            cases hG
            exact ⟨rfl, trivial⟩
        · refine R.skip rfl rfl rfl ?_
          refine R.skip rfl rfl rfl ?_
          refine R.skip rfl rfl rfl ?_
          refine R.one rfl ?_
          refine W.det (.kb false) _ rfl ?_
          refine R.one rfl ?_
          refine W.det (.kb false) _ rfl ?_
          refine R.skip rfl rfl rfl ?_
          refine R.skip rfl rfl rfl ?_
          refine R.skip rfl rfl rfl ?_
          refine R.one rfl ?_
          refine W.det (.kb false) _ rfl ?_
          refine R.one rfl ?_
          refine W.det (.kb false) _ rfl ?_
          refine R.skip rfl rfl rfl ?_
          refine R.skip rfl rfl rfl ?_
          refine R.skip rfl rfl rfl ?_
          refine R.skip rfl rfl rfl ?_
          refine R.skip rfl rfl rfl ?_
          refine R.skip rfl rfl rfl ?_
          refine R.one rfl ?_
          refine W.det (.kb false) _ rfl ?_
          refine R.one rfl ?_
          refine W.det (.kb false) _ rfl ?_
          refine R.skip rfl rfl rfl ?_
          refine R.skip rfl rfl rfl ?_
          refine R.skip rfl rfl rfl ?_
          refine R.skip rfl rfl rfl ?_
          refine R.skip rfl rfl rfl ?_
          refine R.skip rfl rfl rfl ?_
          refine R.skip rfl rfl rfl ?_
          refine R.skip rfl rfl rfl ?_
          refine R.one rfl ?_
          refine W.det (.kb false) _ rfl ?_
          refine R.one rfl ?_
          refine W.det (.kb false) _ rfl ?_
          refine R.skip rfl rfl rfl ?_
          refine R.skip rfl rfl rfl ?_
          refine R.skip rfl rfl rfl ?_
          refine R.skip rfl rfl rfl ?_
          refine R.one rfl ?_
          refine W.det (.kb false) _ rfl ?_
          refine R.one rfl ?_
          refine W.det (.kb false) _ rfl ?_
          refine R.nil ?_
          refine seqK.n ?_
          refine A.ret ?_
          injection h with h
          subst h
          cases hG
          exact ⟨rfl, trivial⟩
      · refine R.skip rfl rfl rfl ?_
        refine R.skip rfl rfl rfl ?_
        refine R.skip rfl rfl rfl ?_
        refine R.one rfl ?_
        refine W.det (.kb false) _ rfl ?_
        refine R.one rfl ?_
        refine W.det (.kb false) _ rfl ?_
        refine R.skip rfl rfl rfl ?_
        refine R.skip rfl rfl rfl ?_
        refine R.skip rfl rfl rfl ?_
        refine R.skip rfl rfl rfl ?_
        refine R.one rfl ?_
        refine W.det (.kb false) _ rfl ?_
        refine R.one rfl ?_
        refine W.det (.kb false) _ rfl ?_
        refine R.skip rfl rfl rfl ?_
        refine R.skip rfl rfl rfl ?_
        refine R.skip rfl rfl rfl ?_
        refine R.one rfl ?_
        refine W.det (.kb false) _ rfl ?_
        refine R.one rfl ?_
        refine W.det (.kb false) _ rfl ?_
        refine R.skip rfl rfl rfl ?_
        refine R.skip rfl rfl rfl ?_
        refine R.skip rfl rfl rfl ?_
        refine R.skip rfl rfl rfl ?_
        refine R.skip rfl rfl rfl ?_
        refine R.skip rfl rfl rfl ?_
        refine R.one rfl ?_
        refine W.det (.kb false) _ rfl ?_
        refine R.one rfl ?_
        refine W.det (.kb false) _ rfl ?_
        refine R.skip rfl rfl rfl ?_
        refine R.skip rfl rfl rfl ?_
        refine R.skip rfl rfl rfl ?_
        refine R.skip rfl rfl rfl ?_
        refine R.skip rfl rfl rfl ?_
        refine R.skip rfl rfl rfl ?_
        refine R.skip rfl rfl rfl ?_
        refine R.skip rfl rfl rfl ?_
        refine R.one rfl ?_
        refine W.det (.kb false) _ rfl ?_
        refine R.one rfl ?_
        refine W.det (.kb false) _ rfl ?_
        refine R.skip rfl rfl rfl ?_
        refine R.skip rfl rfl rfl ?_
        refine R.skip rfl rfl rfl ?_
        refine R.skip rfl rfl rfl ?_
        refine R.one rfl ?_
        refine W.det (.kb false) _ rfl ?_
        refine R.one rfl ?_
        refine W.det (.kb false) _ rfl ?_
        refine R.nil ?_
        refine seqK.n ?_
        refine A.ret ?_
        injection h with h
        subst h
        cases hG
        exact ⟨rfl, trivial⟩
end Go.Proofs.Ytikfbgbfjipceaa

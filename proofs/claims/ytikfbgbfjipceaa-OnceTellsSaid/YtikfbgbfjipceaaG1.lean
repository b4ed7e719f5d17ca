/-
  Plain programs of functions, and that the functions do what they say. Printed by wip/tools/gen.py.
-/
import Derived.Test.YtikfbgbfjipceaaTy
import Derived.Test.YtikfbgbfjipceaaEvS
namespace Go.Proofs.Ytikfbgbfjipceaa
open Go.RowKit
attribute [local irreducible] IntKind.wrap
set_option linter.unusedVariables false
set_option maxHeartbeats 4000000
set_option maxRecDepth 100000
structure Arr2_Int where
  a0 : Int
  a1 : Int
def Arr2_Int.enc (x : Arr2_Int) : List D := [.v (.int .i64 x.a0), .v (.int .i64 x.a1)]
noncomputable def ref32_Right_L1 (ranges_ : (List Arr2_Int)) (s3 : Int × Int) : Option ((Int × Int) ⊕ ((Unit) ⊕ (Bool))) :=
  (bif (decide (s3.2 < (ranges_.length : Int))) then
    (getI ranges_ s3.2).bind fun x48 =>
    (bif (decide (x48.a0 ≤ s3.1)) then
      some (.inr (.inr false))
    else
      (bif (decide (x48.a1 ≤ x48.a0)) then
        some (.inr (.inr false))
      else
        (bif (decide ((1099511627776 : Int) < x48.a1)) then
          some (.inr (.inr false))
        else
          some (.inl (x48.a1, (IntKind.i64.wrap (s3.2 + (1 : Int))))))))
  else
    some (.inr (.inl ())))
noncomputable def ref32_Right (low_ : Int) (ranges_ : (List Arr2_Int)) : Option (Bool) :=
  (bif (decide (low_ < (0 : Int))) then
    some false
  else
    (bif (decide ((1099511627776 : Int) < low_)) then
      some false
    else
      (seqF (A := Unit) (
        loopF (ref32_Right_L1 ranges_) (low_, (0 : Int)))
      fun s2 =>
        some true)))
theorem ref32_Right_fn {low_ : Int} {ranges_ : (List Arr2_Int)} {r : Bool} (h : ref32_Right low_ ranges_ = some r) : Fn Try.prog 10 [.d (.v (.int .i64 low_)), .d (.fz (List.map Arr2_Int.enc ranges_))] (.d (.v (.bool r))) := by
  refine Fn.of_AW (F := FnX Try.prog) (base := 0) (js := [9]) mixed tok noeqs (fun _ _ _ h => h) Try.call10 Try.func10 rfl Try.ntmps10 (by rw [Try.results10]) (by simp) ?_
  have hG : (fun x => x = r) r := rfl
  unfold ref32_Right at h
  refine A.seq rfl ?_
  refine A.region ?_
  refine R.one rfl ?_
  refine W.det (.kb false) _ rfl ?_
  refine R.nil ?_
  refine seqK.n ?_
  refine A.seq rfl ?_
  refine A.seq rfl ?_
  refine A.region ?_
  refine R.one rfl ?_
  refine W.det (.d (.v (.int .i64 low_))) _ rfl ?_
  refine R.one rfl ?_
  refine W.det (.d (.v (.bool (decide (low_ < (0 : Int)))))) _ rfl ?_
  refine R.one rfl ?_
  refine W.det (.d (.v (.bool (decide (low_ < (0 : Int)))))) _ rfl ?_
  refine R.gF rfl rfl rfl h (fun _ h => ?_) (fun _ h => ?_)
  · refine R.skip rfl rfl rfl ?_
    refine R.one rfl ?_
    refine W.det (.kb true) _ rfl ?_
    refine R.nil ?_
    refine seqK.n ?_
    refine A.condT rfl ?_
    refine A.seq rfl ?_
    refine A.region ?_
    refine R.one rfl ?_
    refine W.det (.kb false) _ rfl ?_
    refine R.nil ?_
    refine seqK.n ?_
    refine A.ret ?_
    refine seqK.r ?_
    injection h with h
    subst h
    cases hG
    exact ⟨rfl, trivial⟩
  · refine W.det (.d (.v (.int .i64 low_))) _ rfl ?_
    refine R.run rfl rfl rfl ?_
    refine W.det (.d (.v (.bool (decide ((1099511627776 : Int) < low_))))) _ rfl ?_
    refine R.one rfl ?_
    refine W.det (.d (.v (.bool (decide ((1099511627776 : Int) < low_))))) _ rfl ?_
    refine R.nil ?_
    refine seqK.n ?_
    refine A.condB rfl h (fun _ h => ?_) (fun _ h => ?_)
    · refine A.seq rfl ?_
      refine A.region ?_
      refine R.one rfl ?_
      refine W.det (.kb false) _ rfl ?_
      refine R.nil ?_
      refine seqK.n ?_
      refine A.ret ?_
      refine seqK.r ?_
      injection h with h
      subst h
      cases hG
      exact ⟨rfl, trivial⟩
    · refine A.skip ?_
      refine seqK.n ?_
      refine A.join (fun (s2 : Unit) => []) (fun s2 => []) _ h hG rfl ?_ ?_
      · intro J f h hG
        refine A.seq rfl ?_
        refine A.region ?_
        refine R.one rfl ?_
        refine W.det (.d (.v (.int .i64 (0 : Int)))) _ rfl ?_
        refine R.nil ?_
        refine seqK.n ?_
        refine A.block ?_
        refine A.loop (fun (s3 : Int × Int) => [(0, .d (.v (.int .i64 s3.1))), (1, .d (.fz (List.map Arr2_Int.enc ranges_))), (5, .d (.v (.int .i64 s3.2)))]) (fun s3 => []) _ h hG (Enters.of [] [] _ rfl rfl (chkE.c rfl rfl (chkE.c rfl rfl (chkE.c rfl rfl trivial))) trivial) ?_
        intro J s3 f h hG
        unfold ref32_Right_L1 at h
        refine A.seq rfl ?_
        refine A.seq rfl ?_
        refine A.region ?_
        refine R.one rfl ?_
        refine W.det (.d (.v (.int .i64 s3.2))) _ rfl ?_
        refine R.one rfl ?_
        refine W.det (.d (.fz (List.map Arr2_Int.enc ranges_))) _ rfl ?_
        refine R.one rfl ?_
        refine W.len rfl ?_
        refine R.one rfl ?_
        refine W.det (.d (.v (.bool (decide (s3.2 < (ranges_.length : Int)))))) _ rfl ?_
        refine R.nil ?_
        refine seqK.n ?_
        refine A.condB rfl h (fun _ h => ?_) (fun _ h => ?_)
        · refine A.skip ?_
          refine seqK.n ?_
          refine A.seq rfl ?_
          refine A.block ?_
          refine A.seq rfl ?_
          refine A.seq rfl ?_
          refine A.regionD (by kernel_rfl) ?_
          refine R.one rfl ?_
          refine W.det (.d (.fz (List.map Arr2_Int.enc ranges_))) _ rfl ?_
          refine R.one rfl ?_
          refine W.det (.d (.v (.int .i64 s3.2))) _ rfl ?_
          refine R.one rfl ?_
          refine bindK h fun x48 hx48 h => ?_
          refine W.chk rfl (elemB hx48) ?_
          refine W.elem rfl (elemG hx48) ?_
          refine W.chk rfl rfl ?_
          refine W.det (.fp [.v (.int .i64 x48.a0), .v (.int .i64 x48.a1)]) _ rfl ?_
          refine R.one rfl ?_
          refine W.chk rfl (by decide) ?_
          refine W.det (.fp [.v (.int .i64 x48.a0), .v (.int .i64 x48.a1)]) _ rfl ?_
          refine R.one rfl ?_
          refine W.det (.d (.v (.int .i64 x48.a0))) _ rfl ?_
          refine R.one rfl ?_
          refine W.det (.d (.v (.int .i64 s3.1))) _ rfl ?_
          refine R.one rfl ?_
          refine W.det (.d (.v (.bool (decide (x48.a0 ≤ s3.1))))) _ rfl ?_
          refine R.one rfl ?_
          refine W.det (.d (.v (.bool (decide (x48.a0 ≤ s3.1))))) _ rfl ?_
          refine R.gF rfl rfl rfl h (fun _ h => ?_) (fun _ h => ?_)
          · refine R.skip rfl rfl rfl ?_
            refine R.skip rfl rfl rfl ?_
            refine R.skip rfl rfl rfl ?_
            refine R.skip rfl rfl rfl ?_
            refine R.skip rfl rfl rfl ?_
            refine R.skip rfl rfl rfl ?_
            refine R.skip rfl rfl rfl ?_
            refine R.skip rfl rfl rfl ?_
            refine R.skip rfl rfl rfl ?_
            refine R.skip rfl rfl rfl ?_
            refine R.one rfl ?_
            refine W.det (.kb true) _ rfl ?_
            refine R.one rfl ?_
            refine W.det (.kb true) _ rfl ?_
            refine R.skip rfl rfl rfl ?_
            refine R.skip rfl rfl rfl ?_
            refine R.skip rfl rfl rfl ?_
            refine R.skip rfl rfl rfl ?_
            refine R.skip rfl rfl rfl ?_
            refine R.skip rfl rfl rfl ?_
            refine R.one rfl ?_
            refine W.det (.kb true) _ rfl ?_
            refine R.nil ?_
            refine seqK.n ?_
            refine A.condT rfl ?_
            refine A.seq rfl ?_
            refine A.region ?_
            refine R.one rfl ?_
            refine W.det (.kb false) _ rfl ?_
            refine R.nil ?_
            refine seqK.n ?_
            refine A.ret ?_
            refine seqK.r ?_
            refine blockK.r ?_
            refine seqK.r ?_
            refine headK.r ?_
            refine blockK.r ?_
            refine headK.r ?_
            injection h with h
            subst h
            cases hG
            exact ⟨rfl, trivial⟩
          · refine W.det (.d (.fz (List.map Arr2_Int.enc ranges_))) _ rfl ?_
            refine R.run rfl rfl rfl ?_
            refine W.det (.d (.v (.int .i64 s3.2))) _ rfl ?_
            refine R.run rfl rfl rfl ?_
            refine W.chk rfl (elemB hx48) ?_
            refine W.elem rfl (elemG hx48) ?_
            refine W.chk rfl rfl ?_
            refine W.det (.fp [.v (.int .i64 x48.a0), .v (.int .i64 x48.a1)]) _ rfl ?_
            refine R.run rfl rfl rfl ?_
            refine W.chk rfl (by decide) ?_
            refine W.det (.fp [.v (.int .i64 x48.a1)]) _ rfl ?_
            refine R.run rfl rfl rfl ?_
            refine W.det (.d (.v (.int .i64 x48.a1))) _ rfl ?_
            refine R.run rfl rfl rfl ?_
            refine W.det (.d (.fz (List.map Arr2_Int.enc ranges_))) _ rfl ?_
            refine R.run rfl rfl rfl ?_
            refine W.det (.d (.v (.int .i64 s3.2))) _ rfl ?_
            refine R.run rfl rfl rfl ?_
            refine W.chk rfl (elemB hx48) ?_
            refine W.elem rfl (elemG hx48) ?_
            refine W.chk rfl rfl ?_
            refine W.det (.fp [.v (.int .i64 x48.a0), .v (.int .i64 x48.a1)]) _ rfl ?_
            refine R.run rfl rfl rfl ?_
            refine W.chk rfl (by decide) ?_
            refine W.det (.fp [.v (.int .i64 x48.a0), .v (.int .i64 x48.a1)]) _ rfl ?_
            refine R.run rfl rfl rfl ?_
            refine W.det (.d (.v (.int .i64 x48.a0))) _ rfl ?_
            refine R.run rfl rfl rfl ?_
            refine W.det (.d (.v (.bool (decide (x48.a1 ≤ x48.a0))))) _ rfl ?_
            refine R.one rfl ?_
            refine W.det (.d (.v (.bool (decide (x48.a1 ≤ x48.a0))))) _ rfl ?_
            refine R.one rfl ?_
            refine W.det (.d (.v (.bool (decide (x48.a1 ≤ x48.a0))))) _ rfl ?_
            refine R.gF rfl rfl rfl h (fun _ h => ?_) (fun _ h => ?_)
            · refine R.skip rfl rfl rfl ?_
              refine R.skip rfl rfl rfl ?_
              refine R.skip rfl rfl rfl ?_
              refine R.skip rfl rfl rfl ?_
              refine R.skip rfl rfl rfl ?_
              refine R.one rfl ?_
              refine W.det (.kb true) _ rfl ?_
              refine R.nil ?_
              refine seqK.n ?_
              refine A.condT rfl ?_
              refine A.seq rfl ?_
              refine A.region ?_
              refine R.one rfl ?_
              refine W.det (.kb false) _ rfl ?_
              refine R.nil ?_
              refine seqK.n ?_
              refine A.ret ?_
              refine seqK.r ?_
              refine blockK.r ?_
              refine seqK.r ?_
              refine headK.r ?_
              refine blockK.r ?_
              refine headK.r ?_
              injection h with h
              subst h
              cases hG
              exact ⟨rfl, trivial⟩
            · refine W.det (.d (.fz (List.map Arr2_Int.enc ranges_))) _ rfl ?_
              refine R.run rfl rfl rfl ?_
              refine W.det (.d (.v (.int .i64 s3.2))) _ rfl ?_
              refine R.run rfl rfl rfl ?_
              refine W.chk rfl (elemB hx48) ?_
              refine W.elem rfl (elemG hx48) ?_
              refine W.chk rfl rfl ?_
              refine W.det (.fp [.v (.int .i64 x48.a0), .v (.int .i64 x48.a1)]) _ rfl ?_
              refine R.run rfl rfl rfl ?_
              refine W.chk rfl (by decide) ?_
              refine W.det (.fp [.v (.int .i64 x48.a1)]) _ rfl ?_
              refine R.run rfl rfl rfl ?_
              refine W.det (.d (.v (.int .i64 x48.a1))) _ rfl ?_
              refine R.run rfl rfl rfl ?_
              refine W.det (.d (.v (.bool (decide ((1099511627776 : Int) < x48.a1))))) _ rfl ?_
              refine R.one rfl ?_
              refine W.det (.d (.v (.bool (decide ((1099511627776 : Int) < x48.a1))))) _ rfl ?_
              refine R.nil ?_
              refine seqK.n ?_
              refine A.condB rfl h (fun _ h => ?_) (fun _ h => ?_)
              · refine A.seq rfl ?_
                refine A.region ?_
                refine R.one rfl ?_
                refine W.det (.kb false) _ rfl ?_
                refine R.nil ?_
                refine seqK.n ?_
                refine A.ret ?_
                refine seqK.r ?_
                refine blockK.r ?_
                refine seqK.r ?_
                refine headK.r ?_
                refine blockK.r ?_
                refine headK.r ?_
                injection h with h
                subst h
                cases hG
                exact ⟨rfl, trivial⟩
              · refine A.skip ?_
                refine seqK.n ?_
                refine A.region ?_
                refine R.one rfl ?_
                refine W.det (.d (.fz (List.map Arr2_Int.enc ranges_))) _ rfl ?_
                refine R.one rfl ?_
                refine W.det (.d (.v (.int .i64 s3.2))) _ rfl ?_
                refine R.one rfl ?_
                refine W.chk rfl (elemB hx48) ?_
                refine W.elem rfl (elemG hx48) ?_
                refine W.chk rfl rfl ?_
                refine W.det (.fp [.v (.int .i64 x48.a0), .v (.int .i64 x48.a1)]) _ rfl ?_
                refine R.one rfl ?_
                refine W.chk rfl (by decide) ?_
                refine W.det (.fp [.v (.int .i64 x48.a1)]) _ rfl ?_
                refine R.one rfl ?_
                refine W.det (.d (.v (.int .i64 x48.a1))) _ rfl ?_
                refine R.one rfl ?_
                refine W.det (.d (.v (.int .i64 x48.a1))) _ rfl ?_
                refine R.nil ?_
                refine blockK.n ?_
                refine seqK.n ?_
                refine A.region ?_
                refine R.one rfl ?_
                refine W.det (.d (.v (.int .i64 s3.2))) _ rfl ?_
                refine R.one rfl ?_
                refine W.det (.d (.v (.int .i64 (IntKind.i64.wrap (s3.2 + (1 : Int)))))) _ rfl ?_
                refine R.one rfl ?_
                refine W.det (.d (.v (.int .i64 (IntKind.i64.wrap (s3.2 + (1 : Int)))))) _ rfl ?_
                refine R.nil ?_
                injection h with h
                subst h
                exact headK.n hG (Enters.of [] [] _ rfl rfl (chkE.c rfl rfl (chkE.c rfl rfl (chkE.c rfl rfl trivial))) trivial)
        · refine A.exit ?_
          refine seqK.e ?_
          refine headK.e ?_
          refine blockK.x ?_
          injection h with h
          subst h
          exact headK.n hG (Enters.of [] [] _ rfl rfl trivial trivial)
      · intro s2 r2 h hG
        refine A.seq rfl ?_
        refine A.region ?_
        refine R.one rfl ?_
        refine W.det (.kb true) _ rfl ?_
        refine R.nil ?_
        refine seqK.n ?_
        refine A.ret ?_
        injection h with h
        subst h
        cases hG
        exact ⟨rfl, trivial⟩
noncomputable def ref32_Has_L1 (ranges_ : (List Arr2_Int)) (n_ : Int) (s3 : Int) : Option ((Int) ⊕ ((Unit) ⊕ (Bool))) :=
  (bif (decide (s3 < (ranges_.length : Int))) then
    (getI ranges_ s3).bind fun x26 =>
    (bif (decide (x26.a0 ≤ n_)) then
      (bif (decide (n_ < x26.a1)) then
        some (.inr (.inr true))
      else
        some (.inl (IntKind.i64.wrap (s3 + (1 : Int)))))
    else
      some (.inl (IntKind.i64.wrap (s3 + (1 : Int)))))
  else
    some (.inr (.inl ())))
noncomputable def ref32_Has (low_ : Int) (ranges_ : (List Arr2_Int)) (n_ : Int) : Option (Bool) :=
  (ref32_Right low_ ranges_).bind fun y2 =>
  (bif (!y2) then
    some false
  else
    (bif (decide (n_ < low_)) then
      some true
    else
      (seqF (A := Unit) (
        loopF (ref32_Has_L1 ranges_ n_) (0 : Int))
      fun s2 =>
        some false)))
theorem ref32_Has_fn {low_ : Int} {ranges_ : (List Arr2_Int)} {n_ : Int} {r : Bool} (h : ref32_Has low_ ranges_ n_ = some r) : Fn Try.prog 14 [.d (.v (.int .i64 low_)), .d (.fz (List.map Arr2_Int.enc ranges_)), .d (.v (.int .i64 n_))] (.d (.v (.bool r))) := by
  refine Fn.of_AW (F := FnX Try.prog) (base := 0) (js := [10]) mixed tok noeqs (fun _ _ _ h => h) Try.call14 Try.func14 rfl Try.ntmps14 (by rw [Try.results14]) (by simp) ?_
  have hG : (fun x => x = r) r := rfl
  unfold ref32_Has at h
  refine A.seq rfl ?_
  refine A.region ?_
  refine R.one rfl ?_
  refine W.det (.kb false) _ rfl ?_
  refine R.nil ?_
  refine seqK.n ?_
  refine A.seq rfl ?_
  refine A.seq rfl ?_
  refine A.region ?_
  refine R.one rfl ?_
  refine W.det (.d (.v (.int .i64 low_))) _ rfl ?_
  refine R.one rfl ?_
  refine W.det (.d (.fz (List.map Arr2_Int.enc ranges_))) _ rfl ?_
  refine R.one rfl ?_
  refine bindK h fun y2 hy2 h => ?_
  refine W.call rfl (ref32_Right_fn hy2) ?_
  refine W.det (.d (.v (.bool y2))) _ rfl ?_
  refine R.one rfl ?_
  refine W.det (.d (.v (.bool (!y2)))) _ rfl ?_
  refine R.nil ?_
  refine seqK.n ?_
  refine A.condB rfl h (fun _ h => ?_) (fun _ h => ?_)
  · refine A.seq rfl ?_
    refine A.region ?_
    refine R.one rfl ?_
    refine W.det (.kb false) _ rfl ?_
    refine R.nil ?_
    refine seqK.n ?_
    refine A.ret ?_
    refine seqK.r ?_
    injection h with h
    subst h
    cases hG
    exact ⟨rfl, trivial⟩
  · refine A.skip ?_
    refine seqK.n ?_
    refine A.seq rfl ?_
    refine A.seq rfl ?_
    refine A.region ?_
    refine R.one rfl ?_
    refine W.det (.d (.v (.int .i64 n_))) _ rfl ?_
    refine R.one rfl ?_
    refine W.det (.d (.v (.int .i64 low_))) _ rfl ?_
    refine R.one rfl ?_
    refine W.det (.d (.v (.bool (decide (n_ < low_))))) _ rfl ?_
    refine R.nil ?_
    refine seqK.n ?_
    refine A.condB rfl h (fun _ h => ?_) (fun _ h => ?_)
    · refine A.seq rfl ?_
      refine A.region ?_
      refine R.one rfl ?_
      refine W.det (.kb true) _ rfl ?_
      refine R.nil ?_
      refine seqK.n ?_
      refine A.ret ?_
      refine seqK.r ?_
      injection h with h
      subst h
      cases hG
      exact ⟨rfl, trivial⟩
    · refine A.skip ?_
      refine seqK.n ?_
      refine A.join (fun (s2 : Unit) => []) (fun s2 => []) _ h hG rfl ?_ ?_
      · intro J f h hG
        refine A.seq rfl ?_
        refine A.region ?_
        refine R.one rfl ?_
        refine W.det (.d (.v (.int .i64 (0 : Int)))) _ rfl ?_
        refine R.nil ?_
        refine seqK.n ?_
        refine A.block ?_
        refine A.loop (fun (s3 : Int) => [(1, .d (.fz (List.map Arr2_Int.enc ranges_))), (2, .d (.v (.int .i64 n_))), (7, .d (.v (.int .i64 s3)))]) (fun s3 => []) _ h hG (Enters.of [] [] _ rfl rfl (chkE.c rfl rfl (chkE.c rfl rfl (chkE.c rfl rfl trivial))) trivial) ?_
        intro J s3 f h hG
        unfold ref32_Has_L1 at h
        refine A.seq rfl ?_
        refine A.seq rfl ?_
        refine A.region ?_
        refine R.one rfl ?_
        refine W.det (.d (.v (.int .i64 s3))) _ rfl ?_
        refine R.one rfl ?_
        refine W.det (.d (.fz (List.map Arr2_Int.enc ranges_))) _ rfl ?_
        refine R.one rfl ?_
        refine W.len rfl ?_
        refine R.one rfl ?_
        refine W.det (.d (.v (.bool (decide (s3 < (ranges_.length : Int)))))) _ rfl ?_
        refine R.nil ?_
        refine seqK.n ?_
        refine A.condB rfl h (fun _ h => ?_) (fun _ h => ?_)
        · refine A.skip ?_
          refine seqK.n ?_
          refine A.seq rfl ?_
          refine A.block ?_
          refine A.seq rfl ?_
          refine A.region ?_
          refine R.one rfl ?_
          refine W.det (.d (.fz (List.map Arr2_Int.enc ranges_))) _ rfl ?_
          refine R.one rfl ?_
          refine W.det (.d (.v (.int .i64 s3))) _ rfl ?_
          refine R.one rfl ?_
          refine bindK h fun x26 hx26 h => ?_
          refine W.chk rfl (elemB hx26) ?_
          refine W.elem rfl (elemG hx26) ?_
          refine W.chk rfl rfl ?_
          refine W.det (.fp [.v (.int .i64 x26.a0), .v (.int .i64 x26.a1)]) _ rfl ?_
          refine R.one rfl ?_
          refine W.chk rfl (by decide) ?_
          refine W.det (.fp [.v (.int .i64 x26.a0), .v (.int .i64 x26.a1)]) _ rfl ?_
          refine R.one rfl ?_
          refine W.det (.d (.v (.int .i64 x26.a0))) _ rfl ?_
          refine R.one rfl ?_
          refine W.det (.d (.v (.int .i64 n_))) _ rfl ?_
          refine R.one rfl ?_
          refine W.det (.d (.v (.bool (decide (x26.a0 ≤ n_))))) _ rfl ?_
          refine R.one rfl ?_
          refine W.det (.d (.v (.bool (decide (x26.a0 ≤ n_))))) _ rfl ?_
          refine R.gT rfl rfl rfl h (fun _ h => ?_) (fun _ h => ?_)
          · refine W.det (.d (.v (.int .i64 n_))) _ rfl ?_
            refine R.run rfl rfl rfl ?_
            refine W.det (.d (.fz (List.map Arr2_Int.enc ranges_))) _ rfl ?_
            refine R.run rfl rfl rfl ?_
            refine W.det (.d (.v (.int .i64 s3))) _ rfl ?_
            refine R.run rfl rfl rfl ?_
            refine W.chk rfl (elemB hx26) ?_
            refine W.elem rfl (elemG hx26) ?_
            refine W.chk rfl rfl ?_
            refine W.det (.fp [.v (.int .i64 x26.a0), .v (.int .i64 x26.a1)]) _ rfl ?_
            refine R.run rfl rfl rfl ?_
            refine W.chk rfl (by decide) ?_
            refine W.det (.fp [.v (.int .i64 x26.a1)]) _ rfl ?_
            refine R.run rfl rfl rfl ?_
            refine W.det (.d (.v (.int .i64 x26.a1))) _ rfl ?_
            refine R.run rfl rfl rfl ?_
            refine W.det (.d (.v (.bool (decide (n_ < x26.a1))))) _ rfl ?_
            refine R.one rfl ?_
            refine W.det (.d (.v (.bool (decide (n_ < x26.a1))))) _ rfl ?_
            refine R.nil ?_
            refine seqK.n ?_
            refine A.condB rfl h (fun _ h => ?_) (fun _ h => ?_)
            · refine A.seq rfl ?_
              refine A.region ?_
              refine R.one rfl ?_
              refine W.det (.kb true) _ rfl ?_
              refine R.nil ?_
              refine seqK.n ?_
              refine A.ret ?_
              refine blockK.r ?_
              refine seqK.r ?_
              refine headK.r ?_
              refine blockK.r ?_
              refine headK.r ?_
              injection h with h
              subst h
              cases hG
              exact ⟨rfl, trivial⟩
            · refine A.skip ?_
              refine blockK.n ?_
              refine seqK.n ?_
              refine A.region ?_
              refine R.one rfl ?_
              refine W.det (.d (.v (.int .i64 s3))) _ rfl ?_
              refine R.one rfl ?_
              refine W.det (.d (.v (.int .i64 (IntKind.i64.wrap (s3 + (1 : Int)))))) _ rfl ?_
              refine R.one rfl ?_
              refine W.det (.d (.v (.int .i64 (IntKind.i64.wrap (s3 + (1 : Int)))))) _ rfl ?_
              refine R.nil ?_
              injection h with h
              subst h
              exact headK.n hG (Enters.of [] [] _ rfl rfl (chkE.c rfl rfl (chkE.c rfl rfl (chkE.c rfl rfl trivial))) trivial)
          · refine R.skip rfl rfl rfl ?_
            refine R.skip rfl rfl rfl ?_
            refine R.skip rfl rfl rfl ?_
            refine R.skip rfl rfl rfl ?_
            refine R.skip rfl rfl rfl ?_
            refine R.skip rfl rfl rfl ?_
            refine R.one rfl ?_
            refine W.det (.kb false) _ rfl ?_
            refine R.nil ?_
            refine seqK.n ?_
            refine A.condF rfl ?_
            refine A.skip ?_
            refine blockK.n ?_
            refine seqK.n ?_
            refine A.region ?_
            refine R.one rfl ?_
            refine W.det (.d (.v (.int .i64 s3))) _ rfl ?_
            refine R.one rfl ?_
            refine W.det (.d (.v (.int .i64 (IntKind.i64.wrap (s3 + (1 : Int)))))) _ rfl ?_
            refine R.one rfl ?_
            refine W.det (.d (.v (.int .i64 (IntKind.i64.wrap (s3 + (1 : Int)))))) _ rfl ?_
            refine R.nil ?_
            injection h with h
            subst h
            exact headK.n hG (Enters.of [] [] _ rfl rfl (chkE.c rfl rfl (chkE.c rfl rfl (chkE.c rfl rfl trivial))) trivial)
        · refine A.exit ?_
          refine seqK.e ?_
          refine headK.e ?_
          refine blockK.x ?_
          injection h with h
          subst h
          exact headK.n hG (Enters.of [] [] _ rfl rfl trivial trivial)
      · intro s2 r2 h hG
        refine A.seq rfl ?_
        refine A.region ?_
        refine R.one rfl ?_
        refine W.det (.kb false) _ rfl ?_
        refine R.nil ?_
        refine seqK.n ?_
        refine A.ret ?_
        injection h with h
        subst h
        cases hG
        exact ⟨rfl, trivial⟩
noncomputable def ref32_Take_L1 (p1_ : (List Arr2_Int)) (p2_ : Int) (s3 : Bool × Int × (List Arr2_Int)) : Option ((Bool × Int × (List Arr2_Int)) ⊕ ((Bool × (List Arr2_Int)) ⊕ (Int × (List Arr2_Int) × Bool))) :=
  (bif (decide (s3.2.1 < (p1_.length : Int))) then
    (bif (!s3.1) then
      (getI p1_ s3.2.1).bind fun x123 =>
      (bif (decide (p2_ < x123.a0)) then
        (chkO (decide (s3.2.2.length + [(Arr2_Int.mk p2_ (IntKind.i64.wrap (p2_ + (1 : Int))))].length ≤ 1000000))).bind fun _ =>
        (chkO (decide ((s3.2.2 ++ [(Arr2_Int.mk p2_ (IntKind.i64.wrap (p2_ + (1 : Int))))]).length + [x123].length ≤ 1000000))).bind fun _ =>
        some (.inl (true, (IntKind.i64.wrap (s3.2.1 + (1 : Int))), ((s3.2.2 ++ [(Arr2_Int.mk p2_ (IntKind.i64.wrap (p2_ + (1 : Int))))]) ++ [x123])))
      else
        (chkO (decide (s3.2.2.length + [x123].length ≤ 1000000))).bind fun _ =>
        some (.inl (s3.1, (IntKind.i64.wrap (s3.2.1 + (1 : Int))), (s3.2.2 ++ [x123]))))
    else
      (getI p1_ s3.2.1).bind fun x127 =>
      (chkO (decide (s3.2.2.length + [x127].length ≤ 1000000))).bind fun _ =>
      some (.inl (s3.1, (IntKind.i64.wrap (s3.2.1 + (1 : Int))), (s3.2.2 ++ [x127]))))
  else
    some (.inr (.inl (s3.1, s3.2.2))))
noncomputable def ref32_Take_L2 (s4 : ((List Arr2_Int))) (s13 : Int × Int × (List Arr2_Int)) : Option ((Int × Int × (List Arr2_Int)) ⊕ ((Int × (List Arr2_Int)) ⊕ (Int × (List Arr2_Int) × Bool))) :=
  (bif (decide (s13.2.1 < ((s4.length : Nat) : Int))) then
    (seqF (A := Bool) (
      (bif (decide ((IntKind.i64.wrap (((s13.2.2.length : Nat) : Int) - (1 : Int))) < (0 : Int))) then
        (chkO (decide (0 ≤ s13.2.1) && decide (s13.2.1 < ((s4.length : Nat) : Int)))).bind fun _ =>
        (getI s4 s13.2.1).bind fun x376 =>
        some (.inl (x376.a0 == s13.1))
      else
        some (.inl false)))
    fun s19 =>
      (bif s19 then
        (chkO (decide (0 ≤ s13.2.1) && decide (s13.2.1 < ((s4.length : Nat) : Int)))).bind fun _ =>
        (getI s4 s13.2.1).bind fun x378 =>
        some (.inl (x378.a1, (IntKind.i64.wrap (s13.2.1 + (1 : Int))), s13.2.2))
      else
        (bif (decide ((0 : Int) ≤ (IntKind.i64.wrap (((s13.2.2.length : Nat) : Int) - (1 : Int))))) then
          (chkO (decide (0 ≤ (if (IntKind.i64.wrap (((s13.2.2.length : Nat) : Int) - (1 : Int))) < (0 : Int) then (0 : Int) else (IntKind.i64.wrap (((s13.2.2.length : Nat) : Int) - (1 : Int))))) && decide ((if (IntKind.i64.wrap (((s13.2.2.length : Nat) : Int) - (1 : Int))) < (0 : Int) then (0 : Int) else (IntKind.i64.wrap (((s13.2.2.length : Nat) : Int) - (1 : Int)))) < ((s13.2.2.length : Nat) : Int)))).bind fun _ =>
          (getI s13.2.2 (if (IntKind.i64.wrap (((s13.2.2.length : Nat) : Int) - (1 : Int))) < (0 : Int) then (0 : Int) else (IntKind.i64.wrap (((s13.2.2.length : Nat) : Int) - (1 : Int))))).bind fun x384 =>
          (chkO (decide (0 ≤ s13.2.1) && decide (s13.2.1 < ((s4.length : Nat) : Int)))).bind fun _ =>
          (getI s4 s13.2.1).bind fun x386 =>
          (bif (x384.a1 == x386.a0) then
            (chkO (decide (0 ≤ (IntKind.i64.wrap (((s13.2.2.length : Nat) : Int) - (1 : Int)))) && decide ((IntKind.i64.wrap (((s13.2.2.length : Nat) : Int) - (1 : Int))) < ((s13.2.2.length : Nat) : Int)))).bind fun _ =>
            (getI s13.2.2 (IntKind.i64.wrap (((s13.2.2.length : Nat) : Int) - (1 : Int)))).bind fun x389 =>
            some (.inl (s13.1, (IntKind.i64.wrap (s13.2.1 + (1 : Int))), (List.set s13.2.2 (IntKind.i64.wrap (((s13.2.2.length : Nat) : Int) - (1 : Int))).toNat (Arr2_Int.mk x389.a0 x386.a1))))
          else
            (chkO (decide (s13.2.2.length + [x386].length ≤ 1000000))).bind fun _ =>
            some (.inl (s13.1, (IntKind.i64.wrap (s13.2.1 + (1 : Int))), (s13.2.2 ++ [x386]))))
        else
          (chkO (decide (0 ≤ s13.2.1) && decide (s13.2.1 < ((s4.length : Nat) : Int)))).bind fun _ =>
          (getI s4 s13.2.1).bind fun x393 =>
          (chkO (decide (s13.2.2.length + [x393].length ≤ 1000000))).bind fun _ =>
          some (.inl (s13.1, (IntKind.i64.wrap (s13.2.1 + (1 : Int))), (s13.2.2 ++ [x393]))))))
  else
    some (.inr (.inl (s13.1, s13.2.2))))
noncomputable def ref32_Take_L3 (p3_ : Int) (s12 : (Int × (List Arr2_Int))) (s22 : Int × Nat × Nat) : Option ((Int × Nat × Nat) ⊕ ((Int × Nat × Nat) ⊕ (Int × (List Arr2_Int) × Bool))) :=
  (bif (decide (p3_ < ((s22.2.2 : Nat) : Int))) then
    (chkO (decide (0 ≤ (0 : Int)) && decide ((0 : Int) < ((s22.2.2 : Nat) : Int)))).bind fun _ =>
    (getI s12.2 (((s22.2.1 + (0 : Int).toNat) : Nat) : Int)).bind fun x411 =>
    (chkO (cutO (1 : Int) ((s22.2.2 : Nat) : Int) ((s22.2.2 : Nat) : Int))).bind fun _ =>
    some (.inl (x411.a1, (s22.2.1 + (1 : Int).toNat), (((s22.2.2 : Nat) : Int) - (1 : Int)).toNat))
  else
    some (.inr (.inl (s22.1, s22.2.1, s22.2.2))))
noncomputable def ref32_Take (p_ : Int) (p1_ : (List Arr2_Int)) (p2_ : Int) (p3_ : Int) : Option (Int × (List Arr2_Int) × Bool) :=
  (ref32_Right p_ p1_).bind fun y7 =>
  (bif (!y7) then
    some (p_, p1_, false)
  else
    (bif (decide (p2_ < (0 : Int))) then
      some (p_, p1_, false)
    else
      (bif (decide ((1099511627776 : Int) ≤ p2_)) then
        some (p_, p1_, false)
      else
        (bif (decide (p3_ < (0 : Int))) then
          some (p_, p1_, false)
        else
          (ref32_Has p_ p1_ p2_).bind fun y8 =>
          (bif y8 then
            some (p_, p1_, false)
          else
            (seqF (A := Bool × (List Arr2_Int)) (
              loopF (ref32_Take_L1 p1_ p2_) (false, (0 : Int), ([] : List Arr2_Int)))
            fun s2 =>
              (seqF (A := (List Arr2_Int)) (
                (bif (!s2.1) then
                  (chkO (decide (s2.2.length + [(Arr2_Int.mk p2_ (IntKind.i64.wrap (p2_ + (1 : Int))))].length ≤ 1000000))).bind fun _ =>
                  some (.inl (s2.2 ++ [(Arr2_Int.mk p2_ (IntKind.i64.wrap (p2_ + (1 : Int))))]))
                else
                  some (.inl s2.2)))
              fun s4 =>
                (seqF (A := Int × (List Arr2_Int)) (
                  loopF (ref32_Take_L2 s4) (p_, (0 : Int), ([] : List Arr2_Int)))
                fun s12 =>
                  (seqF (A := Int × Nat × Nat) (
                    loopF (ref32_Take_L3 p3_ s12) (s12.1, 0, s12.2.length))
                  fun s21 =>
                    some (s21.1, (List.take s21.2.2 (List.drop s21.2.1 s12.2)), true))))))))))
theorem ref32_Take_fn {p_ : Int} {p1_ : (List Arr2_Int)} {p2_ : Int} {p3_ : Int} {r : Int × (List Arr2_Int) × Bool} (h : ref32_Take p_ p1_ p2_ p3_ = some r) : Fn Try.prog 9 [.d (.v (.int .i64 p_)), .d (.fz (List.map Arr2_Int.enc p1_)), .d (.v (.int .i64 p2_)), .d (.v (.int .i64 p3_))] (.tup [.d (.v (.int .i64 r.1)), .d (.fz (List.map Arr2_Int.enc r.2.1)), .d (.v (.bool r.2.2))]) := by
  refine Fn.of_AW (F := FnX Try.prog) (base := 0) (js := [12, 14, 20, 24, 27]) mixed tok noeqs (fun _ _ _ h => h) Try.call9 Try.func9 rfl Try.ntmps9 (by rw [Try.results9]) (by simp) ?_
  have hG : (fun x => x = r) r := rfl
  unfold ref32_Take at h
  refine A.seq rfl ?_
  refine A.region ?_
  refine R.one rfl ?_
  refine W.det (.d (.v (.int .i64 (0 : Int)))) _ rfl ?_
  refine R.one rfl ?_
  refine W.det (.row 9 1 0) (Mem.add _ 9 (.rows 2 (List.map Arr2_Int.enc ([] : List Arr2_Int)) false)) rfl ?_
  refine R.one rfl ?_
  refine W.det (.kb false) _ rfl ?_
  refine R.nil ?_
  refine seqK.n ?_
  refine A.seq rfl ?_
  refine A.seq rfl ?_
  refine A.region ?_
  refine R.one rfl ?_
  refine W.det (.d (.v (.int .i64 p_))) _ rfl ?_
  refine R.one rfl ?_
  refine W.det (.d (.fz (List.map Arr2_Int.enc p1_))) _ rfl ?_
  refine R.one rfl ?_
  refine bindK h fun y7 hy7 h => ?_
  refine W.call rfl (ref32_Right_fn hy7) ?_
  refine W.det (.d (.v (.bool y7))) _ rfl ?_
  refine R.one rfl ?_
  refine W.det (.d (.v (.bool (!y7)))) _ rfl ?_
  refine R.one rfl ?_
  refine W.det (.d (.v (.bool (!y7)))) _ rfl ?_
  refine R.gF rfl rfl rfl h (fun _ h => ?_) (fun _ h => ?_)
  · refine R.skip rfl rfl rfl ?_
    refine R.one rfl ?_
    refine W.det (.kb true) _ rfl ?_
    refine R.one rfl ?_
    refine W.det (.kb true) _ rfl ?_
    refine R.skip rfl rfl rfl ?_
    refine R.skip rfl rfl rfl ?_
    refine R.one rfl ?_
    refine W.det (.kb true) _ rfl ?_
    refine R.one rfl ?_
    refine W.det (.kb true) _ rfl ?_
    refine R.skip rfl rfl rfl ?_
    refine R.skip rfl rfl rfl ?_
    refine R.one rfl ?_
    refine W.det (.kb true) _ rfl ?_
    refine R.one rfl ?_
    refine W.det (.kb true) _ rfl ?_
    refine R.skip rfl rfl rfl ?_
    refine R.skip rfl rfl rfl ?_
    refine R.skip rfl rfl rfl ?_
    refine R.skip rfl rfl rfl ?_
    refine R.one rfl ?_
    refine W.det (.kb true) _ rfl ?_
    refine R.nil ?_
    refine seqK.n ?_
    refine A.condT rfl ?_
    refine A.seq rfl ?_
    refine A.region ?_
    refine R.one rfl ?_
    refine W.det (.d (.v (.int .i64 p_))) _ rfl ?_
    refine R.one rfl ?_
    refine W.det (.d (.fz (List.map Arr2_Int.enc p1_))) _ rfl ?_
    refine R.one rfl ?_
    refine W.det (.d (.v (.int .i64 p_))) _ rfl ?_
    refine R.one rfl ?_
    refine W.det (.d (.fz (List.map Arr2_Int.enc p1_))) _ rfl ?_
    refine R.one rfl ?_
    refine W.det (.kb false) _ rfl ?_
    refine R.nil ?_
    refine seqK.n ?_
    refine A.ret ?_
    refine seqK.r ?_
    injection h with h
    subst h
    cases hG
    exact ⟨rfl, rfl, rfl, trivial⟩
  · refine W.det (.d (.v (.int .i64 p2_))) _ rfl ?_
    refine R.run rfl rfl rfl ?_
    refine W.det (.d (.v (.bool (decide (p2_ < (0 : Int)))))) _ rfl ?_
    refine R.one rfl ?_
    refine W.det (.d (.v (.bool (decide (p2_ < (0 : Int)))))) _ rfl ?_
    refine R.one rfl ?_
    refine W.det (.d (.v (.bool (decide (p2_ < (0 : Int)))))) _ rfl ?_
    refine R.gF rfl rfl rfl h (fun _ h => ?_) (fun _ h => ?_)
    · refine R.skip rfl rfl rfl ?_
      refine R.one rfl ?_
      refine W.det (.kb true) _ rfl ?_
      refine R.one rfl ?_
      refine W.det (.kb true) _ rfl ?_
      refine R.skip rfl rfl rfl ?_
      refine R.skip rfl rfl rfl ?_
      refine R.one rfl ?_
      refine W.det (.kb true) _ rfl ?_
      refine R.one rfl ?_
      refine W.det (.kb true) _ rfl ?_
      refine R.skip rfl rfl rfl ?_
      refine R.skip rfl rfl rfl ?_
      refine R.skip rfl rfl rfl ?_
      refine R.skip rfl rfl rfl ?_
      refine R.one rfl ?_
      refine W.det (.kb true) _ rfl ?_
      refine R.nil ?_
      refine seqK.n ?_
      refine A.condT rfl ?_
      refine A.seq rfl ?_
      refine A.region ?_
      refine R.one rfl ?_
      refine W.det (.d (.v (.int .i64 p_))) _ rfl ?_
      refine R.one rfl ?_
      refine W.det (.d (.fz (List.map Arr2_Int.enc p1_))) _ rfl ?_
      refine R.one rfl ?_
      refine W.det (.d (.v (.int .i64 p_))) _ rfl ?_
      refine R.one rfl ?_
      refine W.det (.d (.fz (List.map Arr2_Int.enc p1_))) _ rfl ?_
      refine R.one rfl ?_
      refine W.det (.kb false) _ rfl ?_
      refine R.nil ?_
      refine seqK.n ?_
      refine A.ret ?_
      refine seqK.r ?_
      injection h with h
      subst h
      cases hG
      exact ⟨rfl, rfl, rfl, trivial⟩
    · refine W.det (.d (.v (.int .i64 p2_))) _ rfl ?_
      refine R.run rfl rfl rfl ?_
      refine W.det (.d (.v (.bool (decide ((1099511627776 : Int) ≤ p2_))))) _ rfl ?_
      refine R.one rfl ?_
      refine W.det (.d (.v (.bool (decide ((1099511627776 : Int) ≤ p2_))))) _ rfl ?_
      refine R.one rfl ?_
      refine W.det (.d (.v (.bool (decide ((1099511627776 : Int) ≤ p2_))))) _ rfl ?_
      refine R.gF rfl rfl rfl h (fun _ h => ?_) (fun _ h => ?_)
      · refine R.skip rfl rfl rfl ?_
        refine R.one rfl ?_
        refine W.det (.kb true) _ rfl ?_
        refine R.one rfl ?_
        refine W.det (.kb true) _ rfl ?_
        refine R.skip rfl rfl rfl ?_
        refine R.skip rfl rfl rfl ?_
        refine R.skip rfl rfl rfl ?_
        refine R.skip rfl rfl rfl ?_
        refine R.one rfl ?_
        refine W.det (.kb true) _ rfl ?_
        refine R.nil ?_
        refine seqK.n ?_
        refine A.condT rfl ?_
        refine A.seq rfl ?_
        refine A.region ?_
        refine R.one rfl ?_
        refine W.det (.d (.v (.int .i64 p_))) _ rfl ?_
        refine R.one rfl ?_
        refine W.det (.d (.fz (List.map Arr2_Int.enc p1_))) _ rfl ?_
        refine R.one rfl ?_
        refine W.det (.d (.v (.int .i64 p_))) _ rfl ?_
        refine R.one rfl ?_
        refine W.det (.d (.fz (List.map Arr2_Int.enc p1_))) _ rfl ?_
        refine R.one rfl ?_
        refine W.det (.kb false) _ rfl ?_
        refine R.nil ?_
        refine seqK.n ?_
        refine A.ret ?_
        refine seqK.r ?_
        injection h with h
        subst h
        cases hG
        exact ⟨rfl, rfl, rfl, trivial⟩
      · refine W.det (.d (.v (.int .i64 p3_))) _ rfl ?_
        refine R.run rfl rfl rfl ?_
        refine W.det (.d (.v (.bool (decide (p3_ < (0 : Int)))))) _ rfl ?_
        refine R.one rfl ?_
        refine W.det (.d (.v (.bool (decide (p3_ < (0 : Int)))))) _ rfl ?_
        refine R.one rfl ?_
        refine W.det (.d (.v (.bool (decide (p3_ < (0 : Int)))))) _ rfl ?_
        refine R.gF rfl rfl rfl h (fun _ h => ?_) (fun _ h => ?_)
        · refine R.skip rfl rfl rfl ?_
          refine R.skip rfl rfl rfl ?_
          refine R.skip rfl rfl rfl ?_
          refine R.one rfl ?_
          refine W.det (.kb true) _ rfl ?_
          refine R.nil ?_
          refine seqK.n ?_
          refine A.condT rfl ?_
          refine A.seq rfl ?_
          refine A.region ?_
          refine R.one rfl ?_
          refine W.det (.d (.v (.int .i64 p_))) _ rfl ?_
          refine R.one rfl ?_
          refine W.det (.d (.fz (List.map Arr2_Int.enc p1_))) _ rfl ?_
          refine R.one rfl ?_
          refine W.det (.d (.v (.int .i64 p_))) _ rfl ?_
          refine R.one rfl ?_
          refine W.det (.d (.fz (List.map Arr2_Int.enc p1_))) _ rfl ?_
          refine R.one rfl ?_
          refine W.det (.kb false) _ rfl ?_
          refine R.nil ?_
          refine seqK.n ?_
          refine A.ret ?_
          refine seqK.r ?_
          injection h with h
          subst h
          cases hG
          exact ⟨rfl, rfl, rfl, trivial⟩
        · refine W.det (.d (.v (.int .i64 p_))) _ rfl ?_
          refine R.run rfl rfl rfl ?_
          refine W.det (.d (.fz (List.map Arr2_Int.enc p1_))) _ rfl ?_
          refine R.run rfl rfl rfl ?_
          refine W.det (.d (.v (.int .i64 p2_))) _ rfl ?_
          refine R.run rfl rfl rfl ?_
          refine bindK h fun y8 hy8 h => ?_
          refine W.call rfl (ref32_Has_fn hy8) ?_
          refine W.det (.d (.v (.bool y8))) _ rfl ?_
          refine R.one rfl ?_
          refine W.det (.d (.v (.bool y8))) _ rfl ?_
          refine R.nil ?_
          refine seqK.n ?_
          refine A.condB rfl h (fun _ h => ?_) (fun _ h => ?_)
          · refine A.seq rfl ?_
            refine A.region ?_
            refine R.one rfl ?_
            refine W.det (.d (.v (.int .i64 p_))) _ rfl ?_
            refine R.one rfl ?_
            refine W.det (.d (.fz (List.map Arr2_Int.enc p1_))) _ rfl ?_
            refine R.one rfl ?_
            refine W.det (.d (.v (.int .i64 p_))) _ rfl ?_
            refine R.one rfl ?_
            refine W.det (.d (.fz (List.map Arr2_Int.enc p1_))) _ rfl ?_
            refine R.one rfl ?_
            refine W.det (.kb false) _ rfl ?_
            refine R.nil ?_
            refine seqK.n ?_
            refine A.ret ?_
            refine seqK.r ?_
            injection h with h
            subst h
            cases hG
            exact ⟨rfl, rfl, rfl, trivial⟩
          · refine A.skip ?_
            refine seqK.n ?_
            refine A.seq rfl ?_
            refine A.region ?_
            refine R.one rfl ?_
            refine W.det (.row 11 1 0) (Mem.add _ 11 (.rows 2 (List.map Arr2_Int.enc ([] : List Arr2_Int)) false)) rfl ?_
            refine R.nil ?_
            refine seqK.n ?_
            refine A.seq rfl ?_
            refine A.region ?_
            refine R.one rfl ?_
            refine W.det (.kb false) _ rfl ?_
            refine R.nil ?_
            refine seqK.n ?_
            refine A.join (fun (s2 : Bool × (List Arr2_Int)) => [(0, .d (.v (.int .i64 p_))), (2, .d (.v (.int .i64 p2_))), (3, .d (.v (.int .i64 p3_))), (11, .row 900000 1 s2.2.length), (12, .d (.v (.bool s2.1)))]) (fun s2 => [(900000, .rows 2 (List.map Arr2_Int.enc s2.2) false)]) _ h hG rfl ?_ ?_
            · intro J f h hG
              refine A.seq rfl ?_
              refine A.region ?_
              refine R.one rfl ?_
              refine W.det (.d (.v (.int .i64 (0 : Int)))) _ rfl ?_
              refine R.nil ?_
              refine seqK.n ?_
              refine A.block ?_
              refine A.loop (fun (s3 : Bool × Int × (List Arr2_Int)) => [(0, .d (.v (.int .i64 p_))), (1, .d (.fz (List.map Arr2_Int.enc p1_))), (2, .d (.v (.int .i64 p2_))), (3, .d (.v (.int .i64 p3_))), (11, .row 900000 1 s3.2.2.length), (12, .d (.v (.bool s3.1))), (13, .d (.v (.int .i64 s3.2.1)))]) (fun s3 => [(900000, .rows 2 (List.map Arr2_Int.enc s3.2.2) false)]) _ h hG (Enters.of [] [(900000, (11, 1))] _ rfl rfl (chkE.c rfl rfl (chkE.c rfl rfl (chkE.c rfl rfl (chkE.c rfl rfl (chkE.c rfl rfl (chkE.c rfl rfl (chkE.c rfl rfl trivial))))))) (chkM.c rfl rfl trivial)) ?_
              intro J s3 f h hG
              unfold ref32_Take_L1 at h
              refine A.seq rfl ?_
              refine A.seq rfl ?_
              refine A.region ?_
              refine R.one rfl ?_
              refine W.det (.d (.v (.int .i64 s3.2.1))) _ rfl ?_
              refine R.one rfl ?_
              refine W.det (.d (.fz (List.map Arr2_Int.enc p1_))) _ rfl ?_
              refine R.one rfl ?_
              refine W.len rfl ?_
              refine R.one rfl ?_
              refine W.det (.d (.v (.bool (decide (s3.2.1 < (p1_.length : Int)))))) _ rfl ?_
              refine R.nil ?_
              refine seqK.n ?_
              refine A.condB rfl h (fun _ h => ?_) (fun _ h => ?_)
              · refine A.skip ?_
                refine seqK.n ?_
                refine A.seq rfl ?_
                refine A.block ?_
                refine A.seq rfl ?_
                refine A.seq rfl ?_
                refine A.region ?_
                refine R.one rfl ?_
                refine W.det (.d (.v (.bool s3.1))) _ rfl ?_
                refine R.one rfl ?_
                refine W.det (.d (.v (.bool (!s3.1)))) _ rfl ?_
                refine R.one rfl ?_
                refine W.det (.d (.v (.bool (!s3.1)))) _ rfl ?_
                refine R.gT rfl rfl rfl h (fun _ h => ?_) (fun _ h => ?_)
                · refine W.det (.d (.fz (List.map Arr2_Int.enc p1_))) _ rfl ?_
                  refine R.run rfl rfl rfl ?_
                  refine W.det (.d (.v (.int .i64 s3.2.1))) _ rfl ?_
                  refine R.run rfl rfl rfl ?_
                  refine bindK h fun x123 hx123 h => ?_
                  refine W.chk rfl (elemB hx123) ?_
                  refine W.elem rfl (elemG hx123) ?_
                  refine W.chk rfl rfl ?_
                  refine W.det (.fp [.v (.int .i64 x123.a0), .v (.int .i64 x123.a1)]) _ rfl ?_
                  refine R.run rfl rfl rfl ?_
                  refine W.chk rfl (by decide) ?_
                  refine W.det (.fp [.v (.int .i64 x123.a0), .v (.int .i64 x123.a1)]) _ rfl ?_
                  refine R.run rfl rfl rfl ?_
                  refine W.det (.d (.v (.int .i64 x123.a0))) _ rfl ?_
                  refine R.run rfl rfl rfl ?_
                  refine W.det (.d (.v (.int .i64 p2_))) _ rfl ?_
                  refine R.run rfl rfl rfl ?_
                  refine W.det (.d (.v (.bool (decide (p2_ < x123.a0))))) _ rfl ?_
                  refine R.one rfl ?_
                  refine W.det (.d (.v (.bool (decide (p2_ < x123.a0))))) _ rfl ?_
                  refine R.nil ?_
                  refine seqK.n ?_
                  refine A.condB rfl h (fun _ h => ?_) (fun _ h => ?_)
                  · refine A.seq rfl ?_
                    refine A.region ?_
                    refine R.one rfl ?_
                    refine W.det (.row 900000 1 s3.2.2.length) _ rfl ?_
                    refine R.one rfl ?_
                    refine W.det (.d (.v (.int .i64 p2_))) _ rfl ?_
                    refine R.one rfl ?_
                    refine W.det (.d (.v (.int .i64 p2_))) _ rfl ?_
                    refine R.one rfl ?_
                    refine W.det (.d (.v (.int .i64 (IntKind.i64.wrap (p2_ + (1 : Int)))))) _ rfl ?_
                    refine R.one rfl ?_
                    refine W.det (.agg [.d (.v (.int .i64 p2_)), .d (.v (.int .i64 (IntKind.i64.wrap (p2_ + (1 : Int)))))]) _ rfl ?_
                    refine R.one rfl ?_
                    refine W.det (.row 63 2 1) (Mem.add _ 63 (.rows 2 (List.map Arr2_Int.enc [(Arr2_Int.mk p2_ (IntKind.i64.wrap (p2_ + (1 : Int))))]) false)) rfl ?_
                    refine R.one rfl ?_
                    refine chkK h fun g124 h => ?_
                    refine W.chk rfl (appChk (fun _ => rfl) g124) ?_
                    refine W.app rfl rfl ?_
                    refine R.one rfl ?_
                    refine W.det (.row 900000 2 (s3.2.2 ++ [(Arr2_Int.mk p2_ (IntKind.i64.wrap (p2_ + (1 : Int))))]).length) _ rfl ?_
                    refine R.nil ?_
                    refine seqK.n ?_
                    refine A.region ?_
                    refine R.one rfl ?_
                    refine W.det (.kb true) _ rfl ?_
                    refine R.nil ?_
                    refine seqK.n ?_
                    refine A.region ?_
                    refine R.one rfl ?_
                    refine W.det (.row 900000 2 (s3.2.2 ++ [(Arr2_Int.mk p2_ (IntKind.i64.wrap (p2_ + (1 : Int))))]).length) _ rfl ?_
                    refine R.one rfl ?_
                    refine W.det (.d (.fz (List.map Arr2_Int.enc p1_))) _ rfl ?_
                    refine R.one rfl ?_
                    refine W.det (.d (.v (.int .i64 s3.2.1))) _ rfl ?_
                    refine R.one rfl ?_
                    refine W.chk rfl (elemB hx123) ?_
                    refine W.elem rfl (elemG hx123) ?_
                    refine W.chk rfl rfl ?_
                    refine W.det (.fp [.v (.int .i64 x123.a0), .v (.int .i64 x123.a1)]) _ rfl ?_
                    refine R.one rfl ?_
                    refine W.det (.agg [.d (.v (.int .i64 x123.a0)), .d (.v (.int .i64 x123.a1))]) _ rfl ?_
                    refine R.one rfl ?_
                    refine W.det (.row 70 2 1) (Mem.add _ 70 (.rows 2 (List.map Arr2_Int.enc [x123]) false)) rfl ?_
                    refine R.one rfl ?_
                    refine chkK h fun g125 h => ?_
                    refine W.chk rfl (appChk (fun _ => rfl) g125) ?_
                    refine W.app rfl rfl ?_
                    refine R.one rfl ?_
                    refine W.det (.row 900000 3 ((s3.2.2 ++ [(Arr2_Int.mk p2_ (IntKind.i64.wrap (p2_ + (1 : Int))))]) ++ [x123]).length) _ rfl ?_
                    refine R.nil ?_
                    refine blockK.n ?_
                    refine seqK.n ?_
                    refine A.region ?_
                    refine R.one rfl ?_
                    refine W.det (.d (.v (.int .i64 s3.2.1))) _ rfl ?_
                    refine R.one rfl ?_
                    refine W.det (.d (.v (.int .i64 (IntKind.i64.wrap (s3.2.1 + (1 : Int)))))) _ rfl ?_
                    refine R.one rfl ?_
                    refine W.det (.d (.v (.int .i64 (IntKind.i64.wrap (s3.2.1 + (1 : Int)))))) _ rfl ?_
                    refine R.nil ?_
                    injection h with h
                    subst h
                    exact headK.n hG (Enters.of [] [(900000, (900000, 3))] _ rfl rfl (chkE.c rfl rfl (chkE.c rfl rfl (chkE.c rfl rfl (chkE.c rfl rfl (chkE.c rfl rfl (chkE.c rfl rfl (chkE.c rfl rfl trivial))))))) (chkM.c rfl rfl trivial))
                  · refine A.skip ?_
                    refine seqK.n ?_
                    refine A.region ?_
                    refine R.one rfl ?_
                    refine W.det (.row 900000 1 s3.2.2.length) _ rfl ?_
                    refine R.one rfl ?_
                    refine W.det (.d (.fz (List.map Arr2_Int.enc p1_))) _ rfl ?_
                    refine R.one rfl ?_
                    refine W.det (.d (.v (.int .i64 s3.2.1))) _ rfl ?_
                    refine R.one rfl ?_
                    refine W.chk rfl (elemB hx123) ?_
                    refine W.elem rfl (elemG hx123) ?_
                    refine W.chk rfl rfl ?_
                    refine W.det (.fp [.v (.int .i64 x123.a0), .v (.int .i64 x123.a1)]) _ rfl ?_
                    refine R.one rfl ?_
                    refine W.det (.agg [.d (.v (.int .i64 x123.a0)), .d (.v (.int .i64 x123.a1))]) _ rfl ?_
                    refine R.one rfl ?_
                    refine W.det (.row 70 2 1) (Mem.add _ 70 (.rows 2 (List.map Arr2_Int.enc [x123]) false)) rfl ?_
                    refine R.one rfl ?_
                    refine chkK h fun g126 h => ?_
                    refine W.chk rfl (appChk (fun _ => rfl) g126) ?_
                    refine W.app rfl rfl ?_
                    refine R.one rfl ?_
                    refine W.det (.row 900000 2 (s3.2.2 ++ [x123]).length) _ rfl ?_
                    refine R.nil ?_
                    refine blockK.n ?_
                    refine seqK.n ?_
                    refine A.region ?_
                    refine R.one rfl ?_
                    refine W.det (.d (.v (.int .i64 s3.2.1))) _ rfl ?_
                    refine R.one rfl ?_
                    refine W.det (.d (.v (.int .i64 (IntKind.i64.wrap (s3.2.1 + (1 : Int)))))) _ rfl ?_
                    refine R.one rfl ?_
                    refine W.det (.d (.v (.int .i64 (IntKind.i64.wrap (s3.2.1 + (1 : Int)))))) _ rfl ?_
                    refine R.nil ?_
                    injection h with h
                    subst h
                    exact headK.n hG (Enters.of [] [(900000, (900000, 2))] _ rfl rfl (chkE.c rfl rfl (chkE.c rfl rfl (chkE.c rfl rfl (chkE.c rfl rfl (chkE.c rfl rfl (chkE.c rfl rfl (chkE.c rfl rfl trivial))))))) (chkM.c rfl rfl trivial))
                · refine R.skip rfl rfl rfl ?_
                  refine R.skip rfl rfl rfl ?_
                  refine R.skip rfl rfl rfl ?_
                  refine R.skip rfl rfl rfl ?_
                  refine R.skip rfl rfl rfl ?_
                  refine R.skip rfl rfl rfl ?_
                  refine R.one rfl ?_
                  refine W.det (.kb false) _ rfl ?_
                  refine R.nil ?_
                  refine seqK.n ?_
                  refine A.condF rfl ?_
                  refine A.skip ?_
                  refine seqK.n ?_
                  refine A.region ?_
                  refine R.one rfl ?_
                  refine W.det (.row 900000 1 s3.2.2.length) _ rfl ?_
                  refine R.one rfl ?_
                  refine W.det (.d (.fz (List.map Arr2_Int.enc p1_))) _ rfl ?_
                  refine R.one rfl ?_
                  refine W.det (.d (.v (.int .i64 s3.2.1))) _ rfl ?_
                  refine R.one rfl ?_
                  refine bindK h fun x127 hx127 h => ?_
                  refine W.chk rfl (elemB hx127) ?_
                  refine W.elem rfl (elemG hx127) ?_
                  refine W.chk rfl rfl ?_
                  refine W.det (.fp [.v (.int .i64 x127.a0), .v (.int .i64 x127.a1)]) _ rfl ?_
                  refine R.one rfl ?_
                  refine W.det (.agg [.d (.v (.int .i64 x127.a0)), .d (.v (.int .i64 x127.a1))]) _ rfl ?_
                  refine R.one rfl ?_
                  refine W.det (.row 70 2 1) (Mem.add _ 70 (.rows 2 (List.map Arr2_Int.enc [x127]) false)) rfl ?_
                  refine R.one rfl ?_
                  refine chkK h fun g128 h => ?_
                  refine W.chk rfl (appChk (fun _ => rfl) g128) ?_
                  refine W.app rfl rfl ?_
                  refine R.one rfl ?_
                  refine W.det (.row 900000 2 (s3.2.2 ++ [x127]).length) _ rfl ?_
                  refine R.nil ?_
                  refine blockK.n ?_
                  refine seqK.n ?_
                  refine A.region ?_
                  refine R.one rfl ?_
                  refine W.det (.d (.v (.int .i64 s3.2.1))) _ rfl ?_
                  refine R.one rfl ?_
                  refine W.det (.d (.v (.int .i64 (IntKind.i64.wrap (s3.2.1 + (1 : Int)))))) _ rfl ?_
                  refine R.one rfl ?_
                  refine W.det (.d (.v (.int .i64 (IntKind.i64.wrap (s3.2.1 + (1 : Int)))))) _ rfl ?_
                  refine R.nil ?_
                  injection h with h
                  subst h
                  exact headK.n hG (Enters.of [] [(900000, (900000, 2))] _ rfl rfl (chkE.c rfl rfl (chkE.c rfl rfl (chkE.c rfl rfl (chkE.c rfl rfl (chkE.c rfl rfl (chkE.c rfl rfl (chkE.c rfl rfl trivial))))))) (chkM.c rfl rfl trivial))
              · refine A.exit ?_
                refine seqK.e ?_
                refine headK.e ?_
                refine blockK.x ?_
                injection h with h
                subst h
                exact headK.n hG (Enters.of [] [(900000, (900000, 1))] _ rfl rfl (chkE.c rfl rfl (chkE.c rfl rfl (chkE.c rfl rfl (chkE.c rfl rfl (chkE.c rfl rfl trivial))))) (chkM.c rfl rfl trivial))
            · intro s2 r2 h hG
              refine A.join (fun (s4 : (List Arr2_Int)) => [(0, .d (.v (.int .i64 p_))), (3, .d (.v (.int .i64 p3_))), (11, .row 900000 1 s4.length)]) (fun s4 => [(900000, .rows 2 (List.map Arr2_Int.enc s4) false)]) _ h hG rfl ?_ ?_
              · intro J f h hG
                refine A.seq rfl ?_
                refine A.region ?_
                refine R.one rfl ?_
                refine W.det (.d (.v (.bool s2.1))) _ rfl ?_
                refine R.one rfl ?_
                refine W.det (.d (.v (.bool (!s2.1)))) _ rfl ?_
                refine R.nil ?_
                refine seqK.n ?_
                refine A.condB rfl h (fun _ h => ?_) (fun _ h => ?_)
                · refine A.region ?_
                  refine R.one rfl ?_
                  refine W.det (.row 900000 1 s2.2.length) _ rfl ?_
                  refine R.one rfl ?_
                  refine W.det (.d (.v (.int .i64 p2_))) _ rfl ?_
                  refine R.one rfl ?_
                  refine W.det (.d (.v (.int .i64 p2_))) _ rfl ?_
                  refine R.one rfl ?_
                  refine W.det (.d (.v (.int .i64 (IntKind.i64.wrap (p2_ + (1 : Int)))))) _ rfl ?_
                  refine R.one rfl ?_
                  refine W.det (.agg [.d (.v (.int .i64 p2_)), .d (.v (.int .i64 (IntKind.i64.wrap (p2_ + (1 : Int)))))]) _ rfl ?_
                  refine R.one rfl ?_
                  refine W.det (.row 79 2 1) (Mem.add _ 79 (.rows 2 (List.map Arr2_Int.enc [(Arr2_Int.mk p2_ (IntKind.i64.wrap (p2_ + (1 : Int))))]) false)) rfl ?_
                  refine R.one rfl ?_
                  refine chkK h fun g130 h => ?_
                  refine W.chk rfl (appChk (fun _ => rfl) g130) ?_
                  refine W.app rfl rfl ?_
                  refine R.one rfl ?_
                  refine W.det (.row 900000 2 (s2.2 ++ [(Arr2_Int.mk p2_ (IntKind.i64.wrap (p2_ + (1 : Int))))]).length) _ rfl ?_
                  refine R.nil ?_
                  injection h with h
                  subst h
                  exact headK.n hG (Enters.of [] [(900000, (900000, 2))] _ rfl rfl (chkE.c rfl rfl (chkE.c rfl rfl (chkE.c rfl rfl trivial))) (chkM.c rfl rfl trivial))
                · refine A.skip ?_
                  injection h with h
                  subst h
                  exact headK.n hG (Enters.of [] [(900000, (900000, 1))] _ rfl rfl (chkE.c rfl rfl (chkE.c rfl rfl (chkE.c rfl rfl trivial))) (chkM.c rfl rfl trivial))
              · intro s4 r2 h hG
                refine A.seq rfl ?_
                refine A.region ?_
                refine R.one rfl ?_
                refine W.det (.row 14 2 0) (Mem.add _ 14 (.rows 2 (List.map Arr2_Int.enc ([] : List Arr2_Int)) false)) rfl ?_
                refine R.nil ?_
                refine seqK.n ?_
                refine A.join (fun (s12 : Int × (List Arr2_Int)) => [(0, .d (.v (.int .i64 s12.1))), (3, .d (.v (.int .i64 p3_))), (14, .row 900000 1 s12.2.length)]) (fun s12 => [(900000, .rows 2 (List.map Arr2_Int.enc s12.2) false)]) _ h hG rfl ?_ ?_
                · intro J f h hG
                  refine A.seq rfl ?_
                  refine A.region ?_
                  refine R.one rfl ?_
                  refine W.det (.d (.v (.int .i64 (0 : Int)))) _ rfl ?_
                  refine R.nil ?_
                  refine seqK.n ?_
                  refine A.block ?_
                  refine A.loop (fun (s13 : Int × Int × (List Arr2_Int)) => [(0, .d (.v (.int .i64 s13.1))), (3, .d (.v (.int .i64 p3_))), (11, .row 900000 1 s4.length), (14, .row 900001 1 s13.2.2.length), (15, .d (.v (.int .i64 s13.2.1)))]) (fun s13 => [(900000, .rows 2 (List.map Arr2_Int.enc s4) false), (900001, .rows 2 (List.map Arr2_Int.enc s13.2.2) false)]) _ h hG (Enters.of [] [(900000, (900000, 1)), (900001, (14, 2))] _ rfl rfl (chkE.c rfl rfl (chkE.c rfl rfl (chkE.c rfl rfl (chkE.c rfl rfl (chkE.c rfl rfl trivial))))) (chkM.c rfl rfl (chkM.c rfl rfl trivial))) ?_
                  intro J s13 f h hG
                  unfold ref32_Take_L2 at h
                  refine A.seq rfl ?_
                  refine A.seq rfl ?_
                  refine A.region ?_
                  refine R.one rfl ?_
                  refine W.det (.d (.v (.int .i64 s13.2.1))) _ rfl ?_
                  refine R.one rfl ?_
                  refine W.det (.row 900000 1 s4.length) _ rfl ?_
                  refine R.one rfl ?_
                  refine W.det (.d (.v (.int .i64 ((s4.length : Nat) : Int)))) _ rfl ?_
                  refine R.one rfl ?_
                  refine W.det (.d (.v (.bool (decide (s13.2.1 < ((s4.length : Nat) : Int)))))) _ rfl ?_
                  refine R.nil ?_
                  refine seqK.n ?_
                  refine A.condB rfl h (fun _ h => ?_) (fun _ h => ?_)
                  · refine A.skip ?_
                    refine seqK.n ?_
                    refine A.seq rfl ?_
                    refine A.block ?_
                    refine A.seq rfl ?_
                    refine A.region ?_
                    refine R.one rfl ?_
                    refine W.det (.row 900001 1 s13.2.2.length) _ rfl ?_
                    refine R.one rfl ?_
                    refine W.det (.d (.v (.int .i64 ((s13.2.2.length : Nat) : Int)))) _ rfl ?_
                    refine R.one rfl ?_
                    refine W.det (.d (.v (.int .i64 (IntKind.i64.wrap (((s13.2.2.length : Nat) : Int) - (1 : Int)))))) _ rfl ?_
                    refine R.one rfl ?_
                    refine W.det (.d (.v (.int .i64 (IntKind.i64.wrap (((s13.2.2.length : Nat) : Int) - (1 : Int)))))) _ rfl ?_
                    refine R.nil ?_
                    refine seqK.n ?_
                    refine A.join (fun (s19 : Bool) => [(0, .d (.v (.int .i64 s13.1))), (3, .d (.v (.int .i64 p3_))), (11, .row 900000 1 s4.length), (14, .row 900001 1 s13.2.2.length), (15, .d (.v (.int .i64 s13.2.1))), (16, .d (.v (.int .i64 (IntKind.i64.wrap (((s13.2.2.length : Nat) : Int) - (1 : Int)))))), (100, .d (.v (.bool s19)))]) (fun s19 => [(900000, .rows 2 (List.map Arr2_Int.enc s4) false), (900001, .rows 2 (List.map Arr2_Int.enc s13.2.2) false)]) _ h hG rfl ?_ ?_
                    · intro J f h hG
                      refine A.region ?_
                      refine R.one rfl ?_
                      refine W.det (.d (.v (.int .i64 (IntKind.i64.wrap (((s13.2.2.length : Nat) : Int) - (1 : Int)))))) _ rfl ?_
                      refine R.one rfl ?_
                      refine W.det (.d (.v (.bool (decide ((IntKind.i64.wrap (((s13.2.2.length : Nat) : Int) - (1 : Int))) < (0 : Int)))))) _ rfl ?_
                      refine R.one rfl ?_
                      refine W.det (.d (.v (.bool (decide ((IntKind.i64.wrap (((s13.2.2.length : Nat) : Int) - (1 : Int))) < (0 : Int)))))) _ rfl ?_
                      refine R.gT rfl rfl rfl h (fun _ h => ?_) (fun _ h => ?_)
                      · refine W.det (.row 900000 1 s4.length) _ rfl ?_
                        refine R.run rfl rfl rfl ?_
                        refine W.det (.d (.v (.int .i64 s13.2.1))) _ rfl ?_
                        refine R.run rfl rfl rfl ?_
                        refine chkK h fun g375 h => ?_
                        refine W.chk rfl (by simpa using g375) ?_
                        refine W.det (.rp 900000 1 s13.2.1.toNat 0) _ rfl ?_
                        refine R.run rfl rfl rfl ?_
                        refine W.chk rfl (by decide) ?_
                        refine W.det (.rp 900000 1 s13.2.1.toNat 0) _ rfl ?_
                        refine R.run rfl rfl rfl ?_
                        refine bindK h fun x376 hx376 h => ?_
                        refine W.elem rfl (elemG hx376) ?_
                        refine W.det (.d (.v (.int .i64 x376.a0))) _ rfl ?_
                        refine R.run rfl rfl rfl ?_
                        refine W.det (.d (.v (.int .i64 s13.1))) _ rfl ?_
                        refine R.run rfl rfl rfl ?_
                        refine W.det (.d (.v (.bool (x376.a0 == s13.1)))) _ rfl ?_
                        refine R.one rfl ?_
                        refine W.det (.d (.v (.bool (x376.a0 == s13.1)))) _ rfl ?_
                        refine R.nil ?_
                        injection h with h
                        subst h
                        exact headK.n hG (Enters.of [] [(900000, (900000, 1)), (900001, (900001, 1))] _ rfl rfl (chkE.c rfl rfl (chkE.c rfl rfl (chkE.c rfl rfl (chkE.c rfl rfl (chkE.c rfl rfl (chkE.c rfl rfl (chkE.c rfl rfl trivial))))))) (chkM.c rfl rfl (chkM.c rfl rfl trivial)))
                      · refine R.skip rfl rfl rfl ?_
                        refine R.skip rfl rfl rfl ?_
                        refine R.skip rfl rfl rfl ?_
                        refine R.skip rfl rfl rfl ?_
                        refine R.skip rfl rfl rfl ?_
                        refine R.skip rfl rfl rfl ?_
                        refine R.one rfl ?_
                        refine W.det (.kb false) _ rfl ?_
                        refine R.nil ?_
                        injection h with h
                        subst h
                        exact headK.n hG (Enters.of [] [(900000, (900000, 1)), (900001, (900001, 1))] _ rfl rfl (chkE.c rfl rfl (chkE.c rfl rfl (chkE.c rfl rfl (chkE.c rfl rfl (chkE.c rfl rfl (chkE.c rfl rfl (chkE.c rfl rfl trivial))))))) (chkM.c rfl rfl (chkM.c rfl rfl trivial)))
                    · intro s19 r2 h hG
                      refine A.condB rfl h (fun _ h => ?_) (fun _ h => ?_)
                      · refine A.region ?_
                        refine R.one rfl ?_
                        refine W.det (.row 900000 1 s4.length) _ rfl ?_
                        refine R.one rfl ?_
                        refine W.det (.d (.v (.int .i64 s13.2.1))) _ rfl ?_
                        refine R.one rfl ?_
                        refine chkK h fun g377 h => ?_
                        refine W.chk rfl (by simpa using g377) ?_
                        refine W.det (.rp 900000 1 s13.2.1.toNat 0) _ rfl ?_
                        refine R.one rfl ?_
                        refine W.chk rfl (by decide) ?_
                        refine W.det (.rp 900000 1 s13.2.1.toNat 1) _ rfl ?_
                        refine R.one rfl ?_
                        refine bindK h fun x378 hx378 h => ?_
                        refine W.elem rfl (elemG hx378) ?_
                        refine W.det (.d (.v (.int .i64 x378.a1))) _ rfl ?_
                        refine R.one rfl ?_
                        refine W.det (.d (.v (.int .i64 x378.a1))) _ rfl ?_
                        refine R.nil ?_
                        refine blockK.n ?_
                        refine seqK.n ?_
                        refine A.region ?_
                        refine R.one rfl ?_
                        refine W.det (.d (.v (.int .i64 s13.2.1))) _ rfl ?_
                        refine R.one rfl ?_
                        refine W.det (.d (.v (.int .i64 (IntKind.i64.wrap (s13.2.1 + (1 : Int)))))) _ rfl ?_
                        refine R.one rfl ?_
                        refine W.det (.d (.v (.int .i64 (IntKind.i64.wrap (s13.2.1 + (1 : Int)))))) _ rfl ?_
                        refine R.nil ?_
                        injection h with h
                        subst h
                        exact headK.n hG (Enters.of [] [(900000, (900000, 1)), (900001, (900001, 1))] _ rfl rfl (chkE.c rfl rfl (chkE.c rfl rfl (chkE.c rfl rfl (chkE.c rfl rfl (chkE.c rfl rfl trivial))))) (chkM.c rfl rfl (chkM.c rfl rfl trivial)))
                      · refine A.seq rfl ?_
                        refine A.regionD (by kernel_rfl) ?_
                        refine R.one rfl ?_
                        refine W.det (.d (.v (.int .i64 (IntKind.i64.wrap (((s13.2.2.length : Nat) : Int) - (1 : Int)))))) _ rfl ?_
                        refine R.one rfl ?_
                        refine W.det (.d (.v (.bool (decide ((0 : Int) ≤ (IntKind.i64.wrap (((s13.2.2.length : Nat) : Int) - (1 : Int)))))))) _ rfl ?_
                        refine R.one rfl ?_
                        refine W.det (.d (.v (.bool (decide ((0 : Int) ≤ (IntKind.i64.wrap (((s13.2.2.length : Nat) : Int) - (1 : Int)))))))) _ rfl ?_
                        refine R.gT rfl rfl rfl h (fun _ h => ?_) (fun _ h => ?_)
                        · refine W.det (.row 900001 1 s13.2.2.length) _ rfl ?_
                          refine R.run rfl rfl rfl ?_
                          refine W.det (.d (.v (.int .i64 (IntKind.i64.wrap (((s13.2.2.length : Nat) : Int) - (1 : Int)))))) _ rfl ?_
                          refine R.run rfl rfl rfl ?_
                          refine W.det (.d (.v (.int .i64 (if (IntKind.i64.wrap (((s13.2.2.length : Nat) : Int) - (1 : Int))) < (0 : Int) then (0 : Int) else (IntKind.i64.wrap (((s13.2.2.length : Nat) : Int) - (1 : Int))))))) _ rfl ?_
                          refine R.run rfl rfl rfl ?_
                          refine chkK h fun g383 h => ?_
                          refine W.chk rfl (by simpa using g383) ?_
                          refine W.det (.rp 900001 1 (if (IntKind.i64.wrap (((s13.2.2.length : Nat) : Int) - (1 : Int))) < (0 : Int) then (0 : Int) else (IntKind.i64.wrap (((s13.2.2.length : Nat) : Int) - (1 : Int)))).toNat 0) _ rfl ?_
                          refine R.run rfl rfl rfl ?_
                          refine W.chk rfl (by decide) ?_
                          refine W.det (.rp 900001 1 (if (IntKind.i64.wrap (((s13.2.2.length : Nat) : Int) - (1 : Int))) < (0 : Int) then (0 : Int) else (IntKind.i64.wrap (((s13.2.2.length : Nat) : Int) - (1 : Int)))).toNat 1) _ rfl ?_
                          refine R.run rfl rfl rfl ?_
                          refine bindK h fun x384 hx384 h => ?_
                          refine W.elem rfl (elemG hx384) ?_
                          refine W.det (.d (.v (.int .i64 x384.a1))) _ rfl ?_
                          refine R.run rfl rfl rfl ?_
                          refine W.det (.row 900000 1 s4.length) _ rfl ?_
                          refine R.run rfl rfl rfl ?_
                          refine W.det (.d (.v (.int .i64 s13.2.1))) _ rfl ?_
                          refine R.run rfl rfl rfl ?_
                          refine chkK h fun g385 h => ?_
                          refine W.chk rfl (by simpa using g385) ?_
                          refine W.det (.rp 900000 1 s13.2.1.toNat 0) _ rfl ?_
                          refine R.run rfl rfl rfl ?_
                          refine W.chk rfl (by decide) ?_
                          refine W.det (.rp 900000 1 s13.2.1.toNat 0) _ rfl ?_
                          refine R.run rfl rfl rfl ?_
                          refine bindK h fun x386 hx386 h => ?_
                          refine W.elem rfl (elemG hx386) ?_
                          refine W.det (.d (.v (.int .i64 x386.a0))) _ rfl ?_
                          refine R.run rfl rfl rfl ?_
                          refine W.det (.d (.v (.bool (x384.a1 == x386.a0)))) _ rfl ?_
                          refine R.one rfl ?_
                          refine W.det (.d (.v (.bool (x384.a1 == x386.a0)))) _ rfl ?_
                          refine R.nil ?_
                          refine seqK.n ?_
                          refine A.condB rfl h (fun _ h => ?_) (fun _ h => ?_)
                          · refine A.regionD (by kernel_rfl) ?_
                            refine R.one rfl ?_
                            refine W.det (.row 900001 1 s13.2.2.length) _ rfl ?_
                            refine R.one rfl ?_
                            refine W.det (.d (.v (.int .i64 (IntKind.i64.wrap (((s13.2.2.length : Nat) : Int) - (1 : Int)))))) _ rfl ?_
                            refine R.one rfl ?_
                            refine W.det (.row 900000 1 s4.length) _ rfl ?_
                            refine R.one rfl ?_
                            refine W.det (.d (.v (.int .i64 s13.2.1))) _ rfl ?_
                            refine R.one rfl ?_
                            refine W.chk rfl (by simpa using g385) ?_
                            refine W.det (.rp 900000 1 s13.2.1.toNat 0) _ rfl ?_
                            refine R.one rfl ?_
                            refine W.chk rfl (by decide) ?_
                            refine W.det (.rp 900000 1 s13.2.1.toNat 1) _ rfl ?_
                            refine R.one rfl ?_
                            refine W.elem rfl (elemG hx386) ?_
                            refine W.det (.d (.v (.int .i64 x386.a1))) _ rfl ?_
                            refine R.one rfl ?_
                            refine chkK h fun g388 h => ?_
                            refine W.chk rfl (by simpa using g388) ?_
                            refine W.det (.rp 900001 1 (IntKind.i64.wrap (((s13.2.2.length : Nat) : Int) - (1 : Int))).toNat 0) _ rfl ?_
                            refine R.one rfl ?_
                            refine W.chk rfl (by decide) ?_
                            refine W.det (.rp 900001 1 (IntKind.i64.wrap (((s13.2.2.length : Nat) : Int) - (1 : Int))).toNat 1) _ rfl ?_
                            refine R.one rfl ?_
                            refine bindK h fun x389 hx389 h => ?_
                            refine W.elem rfl (elemG hx389) ?_
                            refine W.set (Arr2_Int.mk x389.a0 x386.a1) rfl rfl ?_
                            refine R.nil ?_
                            refine blockK.n ?_
                            refine seqK.n ?_
                            refine A.region ?_
                            refine R.one rfl ?_
                            refine W.det (.d (.v (.int .i64 s13.2.1))) _ rfl ?_
                            refine R.one rfl ?_
                            refine W.det (.d (.v (.int .i64 (IntKind.i64.wrap (s13.2.1 + (1 : Int)))))) _ rfl ?_
                            refine R.one rfl ?_
                            refine W.det (.d (.v (.int .i64 (IntKind.i64.wrap (s13.2.1 + (1 : Int)))))) _ rfl ?_
                            refine R.nil ?_
                            injection h with h
                            subst h
                            exact headK.n hG (Enters.of [] [(900000, (900000, 1)), (900001, (900001, 1))] _ rfl rfl (chkE.c rfl rfl (chkE.c rfl rfl (chkE.c rfl rfl (chkE.c rfl (by simp only [List.length_set]; rfl) (chkE.c rfl rfl trivial))))) (chkM.c rfl rfl (chkM.c rfl rfl trivial)))
                          · refine A.region ?_
                            refine R.one rfl ?_
                            refine W.det (.row 900001 1 s13.2.2.length) _ rfl ?_
                            refine R.one rfl ?_
                            refine W.det (.row 900000 1 s4.length) _ rfl ?_
                            refine R.one rfl ?_
                            refine W.det (.d (.v (.int .i64 s13.2.1))) _ rfl ?_
                            refine R.one rfl ?_
                            refine W.chk rfl (by simpa using g385) ?_
                            refine W.det (.rp 900000 1 s13.2.1.toNat 0) _ rfl ?_
                            refine R.one rfl ?_
                            refine W.elem rfl (elemG hx386) ?_
                            refine W.det (.agg [.d (.v (.int .i64 x386.a0)), .d (.v (.int .i64 x386.a1))]) _ rfl ?_
                            refine R.one rfl ?_
                            refine W.det (.row 136 2 1) (Mem.add _ 136 (.rows 2 (List.map Arr2_Int.enc [x386]) false)) rfl ?_
                            refine R.one rfl ?_
                            refine chkK h fun g391 h => ?_
                            refine W.chk rfl (appChk (fun _ => rfl) g391) ?_
                            refine W.app rfl rfl ?_
                            refine R.one rfl ?_
                            refine W.det (.row 900001 2 (s13.2.2 ++ [x386]).length) _ rfl ?_
                            refine R.nil ?_
                            refine blockK.n ?_
                            refine seqK.n ?_
                            refine A.region ?_
                            refine R.one rfl ?_
                            refine W.det (.d (.v (.int .i64 s13.2.1))) _ rfl ?_
                            refine R.one rfl ?_
                            refine W.det (.d (.v (.int .i64 (IntKind.i64.wrap (s13.2.1 + (1 : Int)))))) _ rfl ?_
                            refine R.one rfl ?_
                            refine W.det (.d (.v (.int .i64 (IntKind.i64.wrap (s13.2.1 + (1 : Int)))))) _ rfl ?_
                            refine R.nil ?_
                            injection h with h
                            subst h
                            exact headK.n hG (Enters.of [] [(900000, (900000, 1)), (900001, (900001, 2))] _ rfl rfl (chkE.c rfl rfl (chkE.c rfl rfl (chkE.c rfl rfl (chkE.c rfl rfl (chkE.c rfl rfl trivial))))) (chkM.c rfl rfl (chkM.c rfl rfl trivial)))
                        · refine R.skip rfl rfl rfl ?_
                          refine R.skip rfl rfl rfl ?_
                          refine R.skip rfl rfl rfl ?_
                          refine R.skip rfl rfl rfl ?_
                          refine R.skip rfl rfl rfl ?_
                          refine R.skip rfl rfl rfl ?_
                          refine R.skip rfl rfl rfl ?_
                          refine R.skip rfl rfl rfl ?_
                          refine R.skip rfl rfl rfl ?_
                          refine R.skip rfl rfl rfl ?_
                          refine R.skip rfl rfl rfl ?_
                          refine R.one rfl ?_
                          refine W.det (.kb false) _ rfl ?_
                          refine R.nil ?_
                          refine seqK.n ?_
                          refine A.condF rfl ?_
                          refine A.region ?_
                          refine R.one rfl ?_
                          refine W.det (.row 900001 1 s13.2.2.length) _ rfl ?_
                          refine R.one rfl ?_
                          refine W.det (.row 900000 1 s4.length) _ rfl ?_
                          refine R.one rfl ?_
                          refine W.det (.d (.v (.int .i64 s13.2.1))) _ rfl ?_
                          refine R.one rfl ?_
                          refine chkK h fun g392 h => ?_
                          refine W.chk rfl (by simpa using g392) ?_
                          refine W.det (.rp 900000 1 s13.2.1.toNat 0) _ rfl ?_
                          refine R.one rfl ?_
                          refine bindK h fun x393 hx393 h => ?_
                          refine W.elem rfl (elemG hx393) ?_
                          refine W.det (.agg [.d (.v (.int .i64 x393.a0)), .d (.v (.int .i64 x393.a1))]) _ rfl ?_
                          refine R.one rfl ?_
                          refine W.det (.row 136 2 1) (Mem.add _ 136 (.rows 2 (List.map Arr2_Int.enc [x393]) false)) rfl ?_
                          refine R.one rfl ?_
                          refine chkK h fun g394 h => ?_
                          refine W.chk rfl (appChk (fun _ => rfl) g394) ?_
                          refine W.app rfl rfl ?_
                          refine R.one rfl ?_
                          refine W.det (.row 900001 2 (s13.2.2 ++ [x393]).length) _ rfl ?_
                          refine R.nil ?_
                          refine blockK.n ?_
                          refine seqK.n ?_
                          refine A.region ?_
                          refine R.one rfl ?_
                          refine W.det (.d (.v (.int .i64 s13.2.1))) _ rfl ?_
                          refine R.one rfl ?_
                          refine W.det (.d (.v (.int .i64 (IntKind.i64.wrap (s13.2.1 + (1 : Int)))))) _ rfl ?_
                          refine R.one rfl ?_
                          refine W.det (.d (.v (.int .i64 (IntKind.i64.wrap (s13.2.1 + (1 : Int)))))) _ rfl ?_
                          refine R.nil ?_
                          injection h with h
                          subst h
                          exact headK.n hG (Enters.of [] [(900000, (900000, 1)), (900001, (900001, 2))] _ rfl rfl (chkE.c rfl rfl (chkE.c rfl rfl (chkE.c rfl rfl (chkE.c rfl rfl (chkE.c rfl rfl trivial))))) (chkM.c rfl rfl (chkM.c rfl rfl trivial)))
                  · refine A.exit ?_
                    refine seqK.e ?_
                    refine headK.e ?_
                    refine blockK.x ?_
                    injection h with h
                    subst h
                    exact headK.n hG (Enters.of [] [(900000, (900001, 1))] _ rfl rfl (chkE.c rfl rfl (chkE.c rfl rfl (chkE.c rfl rfl trivial))) (chkM.c rfl rfl trivial))
                · intro s12 r2 h hG
                  refine A.join (fun (s21 : Int × Nat × Nat) => [(0, .d (.v (.int .i64 s21.1))), (14, .sub 900000 1 s21.2.1 s21.2.2)]) (fun s21 => [(900000, .rows 2 (List.map Arr2_Int.enc s12.2) false)]) _ h hG rfl ?_ ?_
                  · intro J f h hG
                    refine A.block ?_
                    refine A.loop (fun (s22 : Int × Nat × Nat) => [(0, .d (.v (.int .i64 s22.1))), (3, .d (.v (.int .i64 p3_))), (14, .sub 900000 1 s22.2.1 s22.2.2)]) (fun s22 => [(900000, .rows 2 (List.map Arr2_Int.enc s12.2) false)]) _ h hG (Enters.of [] [(900000, (900000, 1))] _ rfl rfl (chkE.c rfl rfl (chkE.c rfl rfl (chkE.c rfl rfl trivial))) (chkM.c rfl rfl trivial)) ?_
                    intro J s22 f h hG
                    unfold ref32_Take_L3 at h
                    refine A.seq rfl ?_
                    refine A.seq rfl ?_
                    refine A.region ?_
                    refine R.one rfl ?_
                    refine W.det (.sub 900000 1 s22.2.1 s22.2.2) _ rfl ?_
                    refine R.one rfl ?_
                    refine W.det (.d (.v (.int .i64 ((s22.2.2 : Nat) : Int)))) _ rfl ?_
                    refine R.one rfl ?_
                    refine W.det (.d (.v (.int .i64 p3_))) _ rfl ?_
                    refine R.one rfl ?_
                    refine W.det (.d (.v (.bool (decide (p3_ < ((s22.2.2 : Nat) : Int)))))) _ rfl ?_
                    refine R.nil ?_
                    refine seqK.n ?_
                    refine A.condB rfl h (fun _ h => ?_) (fun _ h => ?_)
                    · refine A.skip ?_
                      refine seqK.n ?_
                      refine A.block ?_
                      refine A.seq rfl ?_
                      refine A.region ?_
                      refine R.one rfl ?_
                      refine W.det (.sub 900000 1 s22.2.1 s22.2.2) _ rfl ?_
                      refine R.one rfl ?_
                      refine chkK h fun g410 h => ?_
                      refine W.chk rfl (by simpa using g410) ?_
                      refine W.det (.rp 900000 1 (s22.2.1 + (0 : Int).toNat) 0) _ rfl ?_
                      refine R.one rfl ?_
                      refine W.chk rfl (by decide) ?_
                      refine W.det (.rp 900000 1 (s22.2.1 + (0 : Int).toNat) 1) _ rfl ?_
                      refine R.one rfl ?_
                      refine bindK h fun x411 hx411 h => ?_
                      refine W.elem rfl (elemG hx411) ?_
                      refine W.det (.d (.v (.int .i64 x411.a1))) _ rfl ?_
                      refine R.one rfl ?_
                      refine W.det (.d (.v (.int .i64 x411.a1))) _ rfl ?_
                      refine R.nil ?_
                      refine seqK.n ?_
                      refine A.region ?_
                      refine R.one rfl ?_
                      refine W.det (.sub 900000 1 s22.2.1 s22.2.2) _ rfl ?_
                      refine R.one rfl ?_
                      refine chkK h fun g412 h => ?_
                      refine W.chk rfl (cutO_all g412) ?_
                      refine W.det (.sub 900000 1 (s22.2.1 + (1 : Int).toNat) (((s22.2.2 : Nat) : Int) - (1 : Int)).toNat) _ rfl ?_
                      refine R.one rfl ?_
                      refine W.det (.sub 900000 1 (s22.2.1 + (1 : Int).toNat) (((s22.2.2 : Nat) : Int) - (1 : Int)).toNat) _ rfl ?_
                      refine R.nil ?_
                      refine blockK.n ?_
                      injection h with h
                      subst h
                      exact headK.n hG (Enters.of [] [(900000, (900000, 1))] _ rfl rfl (chkE.c rfl rfl (chkE.c rfl rfl (chkE.c rfl rfl trivial))) (chkM.c rfl rfl trivial))
                    · refine A.exit ?_
                      refine seqK.e ?_
                      refine headK.e ?_
                      refine blockK.x ?_
                      injection h with h
                      subst h
                      exact headK.n hG (Enters.of [] [(900000, (900000, 1))] _ rfl rfl (chkE.c rfl rfl (chkE.c rfl rfl trivial)) (chkM.c rfl rfl trivial))
                  · intro s21 r2 h hG
                    refine A.seq rfl ?_
                    refine A.region ?_
                    refine R.one rfl ?_
                    refine W.det (.d (.v (.int .i64 s21.1))) _ rfl ?_
                    refine R.one rfl ?_
                    refine W.det (.sub 900000 1 s21.2.1 s21.2.2) _ rfl ?_
                    refine R.one rfl ?_
                    refine W.det (.d (.v (.int .i64 s21.1))) _ rfl ?_
                    refine R.one rfl ?_
                    refine W.det (.sub 900000 1 s21.2.1 s21.2.2) _ rfl ?_
                    refine R.one rfl ?_
                    refine W.det (.kb true) _ rfl ?_
                    refine R.nil ?_
                    refine seqK.n ?_
                    refine A.ret ?_
                    injection h with h
                    subst h
                    cases hG
                    exact ⟨rfl, by simp only [partMap], rfl, trivial⟩
noncomputable def ref32_Same_L1 (a_ : (List Arr2_Int)) (b_ : (List Arr2_Int)) (s3 : Int) : Option ((Int) ⊕ ((Unit) ⊕ (Bool))) :=
  (bif (decide (s3 < (a_.length : Int))) then
    (getI a_ s3).bind fun x23 =>
    (getI b_ s3).bind fun x24 =>
    (bif (!((x23.a0 == x24.a0) && ((x23.a1 == x24.a1) && true))) then
      some (.inr (.inr false))
    else
      some (.inl (IntKind.i64.wrap (s3 + (1 : Int)))))
  else
    some (.inr (.inl ())))
noncomputable def ref32_Same (a_ : (List Arr2_Int)) (b_ : (List Arr2_Int)) : Option (Bool) :=
  (bif ((a_.length : Int) != (b_.length : Int)) then
    some false
  else
    (seqF (A := Unit) (
      loopF (ref32_Same_L1 a_ b_) (0 : Int))
    fun s2 =>
      some true))
theorem ref32_Same_fn {a_ : (List Arr2_Int)} {b_ : (List Arr2_Int)} {r : Bool} (h : ref32_Same a_ b_ = some r) : Fn Try.prog 11 [.d (.fz (List.map Arr2_Int.enc a_)), .d (.fz (List.map Arr2_Int.enc b_))] (.d (.v (.bool r))) := by
  refine Fn.of_AW (F := FnX Try.prog) (base := 0) (js := [8]) mixed tok noeqs (fun _ _ _ h => h) Try.call11 Try.func11 rfl Try.ntmps11 (by rw [Try.results11]) (by simp) ?_
  have hG : (fun x => x = r) r := rfl
  unfold ref32_Same at h
  refine A.seq rfl ?_
  refine A.region ?_
  refine R.one rfl ?_
  refine W.det (.kb false) _ rfl ?_
  refine R.nil ?_
  refine seqK.n ?_
  refine A.seq rfl ?_
  refine A.seq rfl ?_
  refine A.region ?_
  refine R.one rfl ?_
  refine W.det (.d (.fz (List.map Arr2_Int.enc a_))) _ rfl ?_
  refine R.one rfl ?_
  refine W.len rfl ?_
  refine R.one rfl ?_
  refine W.det (.d (.fz (List.map Arr2_Int.enc b_))) _ rfl ?_
  refine R.one rfl ?_
  refine W.len rfl ?_
  refine R.one rfl ?_
  refine W.det (.d (.v (.bool ((a_.length : Int) != (b_.length : Int))))) _ rfl ?_
  refine R.nil ?_
  refine seqK.n ?_
  refine A.condB rfl h (fun _ h => ?_) (fun _ h => ?_)
  · refine A.seq rfl ?_
    refine A.region ?_
    refine R.one rfl ?_
    refine W.det (.kb false) _ rfl ?_
    refine R.nil ?_
    refine seqK.n ?_
    refine A.ret ?_
    refine seqK.r ?_
    injection h with h
    subst h
    cases hG
    exact ⟨rfl, trivial⟩
  · refine A.skip ?_
    refine seqK.n ?_
    refine A.join (fun (s2 : Unit) => []) (fun s2 => []) _ h hG rfl ?_ ?_
    · intro J f h hG
      refine A.seq rfl ?_
      refine A.region ?_
      refine R.one rfl ?_
      refine W.det (.d (.v (.int .i64 (0 : Int)))) _ rfl ?_
      refine R.nil ?_
      refine seqK.n ?_
      refine A.block ?_
      refine A.loop (fun (s3 : Int) => [(0, .d (.fz (List.map Arr2_Int.enc a_))), (1, .d (.fz (List.map Arr2_Int.enc b_))), (5, .d (.v (.int .i64 s3)))]) (fun s3 => []) _ h hG (Enters.of [] [] _ rfl rfl (chkE.c rfl rfl (chkE.c rfl rfl (chkE.c rfl rfl trivial))) trivial) ?_
      intro J s3 f h hG
      unfold ref32_Same_L1 at h
      refine A.seq rfl ?_
      refine A.seq rfl ?_
      refine A.region ?_
      refine R.one rfl ?_
      refine W.det (.d (.v (.int .i64 s3))) _ rfl ?_
      refine R.one rfl ?_
      refine W.det (.d (.fz (List.map Arr2_Int.enc a_))) _ rfl ?_
      refine R.one rfl ?_
      refine W.len rfl ?_
      refine R.one rfl ?_
      refine W.det (.d (.v (.bool (decide (s3 < (a_.length : Int)))))) _ rfl ?_
      refine R.nil ?_
      refine seqK.n ?_
      refine A.condB rfl h (fun _ h => ?_) (fun _ h => ?_)
      · refine A.skip ?_
        refine seqK.n ?_
        refine A.seq rfl ?_
        refine A.block ?_
        refine A.seq rfl ?_
        refine A.regionD (by kernel_rfl) ?_
        refine R.one rfl ?_
        refine W.det (.d (.fz (List.map Arr2_Int.enc a_))) _ rfl ?_
        refine R.one rfl ?_
        refine W.det (.d (.v (.int .i64 s3))) _ rfl ?_
        refine R.one rfl ?_
        refine bindK h fun x23 hx23 h => ?_
        refine W.chk rfl (elemB hx23) ?_
        refine W.elem rfl (elemG hx23) ?_
        refine W.chk rfl rfl ?_
        refine W.det (.fp [.v (.int .i64 x23.a0), .v (.int .i64 x23.a1)]) _ rfl ?_
        refine R.one rfl ?_
        refine W.det (.agg [.d (.v (.int .i64 x23.a0)), .d (.v (.int .i64 x23.a1))]) _ rfl ?_
        refine R.one rfl ?_
        refine W.det (.d (.fz (List.map Arr2_Int.enc b_))) _ rfl ?_
        refine R.one rfl ?_
        refine W.det (.d (.v (.int .i64 s3))) _ rfl ?_
        refine R.one rfl ?_
        refine bindK h fun x24 hx24 h => ?_
        refine W.chk rfl (elemB hx24) ?_
        refine W.elem rfl (elemG hx24) ?_
        refine W.chk rfl rfl ?_
        refine W.det (.fp [.v (.int .i64 x24.a0), .v (.int .i64 x24.a1)]) _ rfl ?_
        refine R.one rfl ?_
        refine W.det (.agg [.d (.v (.int .i64 x24.a0)), .d (.v (.int .i64 x24.a1))]) _ rfl ?_
        refine R.one rfl ?_
        refine W.det (.d (.v (.bool (!((x23.a0 == x24.a0) && ((x23.a1 == x24.a1) && true)))))) _ rfl ?_
        refine R.nil ?_
        refine seqK.n ?_
        refine A.condB rfl h (fun _ h => ?_) (fun _ h => ?_)
        · refine A.seq rfl ?_
          refine A.region ?_
          refine R.one rfl ?_
          refine W.det (.kb false) _ rfl ?_
          refine R.nil ?_
          refine seqK.n ?_
          refine A.ret ?_
          refine blockK.r ?_
          refine seqK.r ?_
          refine headK.r ?_
          refine blockK.r ?_
          refine headK.r ?_
          injection h with h
          subst h
          cases hG
          exact ⟨rfl, trivial⟩
        · refine A.skip ?_
          refine blockK.n ?_
          refine seqK.n ?_
          refine A.region ?_
          refine R.one rfl ?_
          refine W.det (.d (.v (.int .i64 s3))) _ rfl ?_
          refine R.one rfl ?_
          refine W.det (.d (.v (.int .i64 (IntKind.i64.wrap (s3 + (1 : Int)))))) _ rfl ?_
          refine R.one rfl ?_
          refine W.det (.d (.v (.int .i64 (IntKind.i64.wrap (s3 + (1 : Int)))))) _ rfl ?_
          refine R.nil ?_
          injection h with h
          subst h
          exact headK.n hG (Enters.of [] [] _ rfl rfl (chkE.c rfl rfl (chkE.c rfl rfl (chkE.c rfl rfl trivial))) trivial)
      · refine A.exit ?_
        refine seqK.e ?_
        refine headK.e ?_
        refine blockK.x ?_
        injection h with h
        subst h
        exact headK.n hG (Enters.of [] [] _ rfl rfl trivial trivial)
    · intro s2 r2 h hG
      refine A.seq rfl ?_
      refine A.region ?_
      refine R.one rfl ?_
      refine W.det (.kb true) _ rfl ?_
      refine R.nil ?_
      refine seqK.n ?_
      refine A.ret ?_
      injection h with h
      subst h
      cases hG
      exact ⟨rfl, trivial⟩
structure once_List where
  Low : Int
  Ranges : (List Arr2_Int)
def once_List.enc (x : once_List) : List D := [.v (.int .i64 x.Low), .fz (List.map Arr2_Int.enc x.Ranges)]
noncomputable def once_Right_L1 (l_ : once_List) (s3 : Int × Int) : Option ((Int × Int) ⊕ ((Int) ⊕ (Bool))) :=
  (bif (decide (s3.2 < (l_.Ranges.length : Int))) then
    (getI l_.Ranges s3.2).bind fun x12 =>
    (bif (decide (x12.a0 ≤ s3.1)) then
      some (.inr (.inr false))
    else
      (bif (decide (x12.a1 ≤ x12.a0)) then
        some (.inr (.inr false))
      else
        some (.inl (x12.a1, (IntKind.i64.wrap (s3.2 + (1 : Int)))))))
  else
    some (.inr (.inl s3.1)))
noncomputable def once_Right (l_ : once_List) : Option (Bool) :=
  (seqF (A := Int) (
    loopF (once_Right_L1 l_) (l_.Low, (0 : Int)))
  fun s2 =>
    (bif (decide ((0 : Int) ≤ l_.Low)) then
      (bif (decide (l_.Low ≤ (1099511627776 : Int))) then
        some (decide (s2 ≤ (1099511627776 : Int)))
      else
        some false)
    else
      some false))
theorem once_Right_fn {l_ : once_List} {r : Bool} (h : once_Right l_ = some r) : Fn Try.prog 12 [.agg [.d (.v (.int .i64 l_.Low)), .d (.fz (List.map Arr2_Int.enc l_.Ranges))]] (.d (.v (.bool r))) := by
  refine Fn.of_AW (F := FnX Try.prog) (base := 0) (js := [9]) mixed tok noeqs (fun _ _ _ h => h) Try.call12 Try.func12 rfl Try.ntmps12 (by rw [Try.results12]) (by simp) ?_
  have hG : (fun x => x = r) r := rfl
  unfold once_Right at h
  refine A.seq rfl ?_
  refine A.region ?_
  refine R.one rfl ?_
  refine W.det (.lp 1 1 0) (Mem.add _ 1 (.box [.d (.v (.int .i64 l_.Low)), .d (.fz (List.map Arr2_Int.enc l_.Ranges))])) rfl ?_
  refine R.one rfl ?_
  refine W.det (.kb false) _ rfl ?_
  refine R.nil ?_
  refine seqK.n ?_
  refine A.seq rfl ?_
  refine A.region ?_
  refine R.one rfl ?_
  refine W.det (.lp 1 1 0) _ rfl ?_
  refine R.one rfl ?_
  refine W.det (.d (.v (.int .i64 l_.Low))) _ rfl ?_
  refine R.one rfl ?_
  refine W.det (.d (.v (.int .i64 l_.Low))) _ rfl ?_
  refine R.nil ?_
  refine seqK.n ?_
  refine A.join (fun (s2 : Int) => [(1, .lp 900000 1 0), (3, .d (.v (.int .i64 s2)))]) (fun s2 => [(900000, .box [.d (.v (.int .i64 l_.Low)), .d (.fz (List.map Arr2_Int.enc l_.Ranges))])]) _ h hG rfl ?_ ?_
  · intro J f h hG
    refine A.seq rfl ?_
    refine A.region ?_
    refine R.one rfl ?_
    refine W.det (.lp 1 1 1) _ rfl ?_
    refine R.one rfl ?_
    refine W.det (.d (.fz (List.map Arr2_Int.enc l_.Ranges))) _ rfl ?_
    refine R.one rfl ?_
    refine W.len rfl ?_
    refine R.one rfl ?_
    refine W.det (.d (.v (.int .i64 (0 : Int)))) _ rfl ?_
    refine R.nil ?_
    refine seqK.n ?_
    refine A.block ?_
    refine A.loop (fun (s3 : Int × Int) => [(1, .lp 900000 1 0), (3, .d (.v (.int .i64 s3.1))), (9, .d (.fz (List.map Arr2_Int.enc l_.Ranges))), (10, .d (.v (.int .i64 (l_.Ranges.length : Int)))), (11, .d (.v (.int .i64 s3.2)))]) (fun s3 => [(900000, .box [.d (.v (.int .i64 l_.Low)), .d (.fz (List.map Arr2_Int.enc l_.Ranges))])]) _ h hG (Enters.of [] [(900000, (1, 1))] _ rfl rfl (chkE.c rfl rfl (chkE.c rfl rfl (chkE.c rfl rfl (chkE.c rfl rfl (chkE.c rfl rfl trivial))))) (chkM.c rfl rfl trivial)) ?_
    intro J s3 f h hG
    unfold once_Right_L1 at h
    refine A.seq rfl ?_
    refine A.region ?_
    refine R.one rfl ?_
    refine W.det (.d (.v (.bool (decide (s3.2 < (l_.Ranges.length : Int)))))) _ rfl ?_
    refine R.nil ?_
    refine seqK.n ?_
    refine A.seq rfl ?_
    refine A.condB rfl h (fun _ h => ?_) (fun _ h => ?_)
    · refine A.skip ?_
      refine seqK.n ?_
      refine A.seq rfl ?_
      refine A.block ?_
      refine A.seq rfl ?_
      refine A.region ?_
      refine R.one rfl ?_
      refine bindK h fun x12 hx12 h => ?_
      refine W.chk rfl (elemB hx12) ?_
      refine W.elem rfl (elemG hx12) ?_
      refine W.chk rfl rfl ?_
      refine W.det (.fp [.v (.int .i64 x12.a0), .v (.int .i64 x12.a1)]) _ rfl ?_
      refine R.one rfl ?_
      refine W.det (.agg [.d (.v (.int .i64 x12.a0)), .d (.v (.int .i64 x12.a1))]) _ rfl ?_
      refine R.one rfl ?_
      refine W.det (.lp 5 2 0) (Mem.add _ 5 (.box [.d (.v (.int .i64 (0 : Int))), .d (.v (.int .i64 (0 : Int)))])) rfl ?_
      refine R.one rfl ?_
      refine W.det (.tup []) (Mem.set _ 5 2 (some (.box [.d (.v (.int .i64 x12.a0)), .d (.v (.int .i64 x12.a1))]))) rfl ?_
      refine R.nil ?_
      refine seqK.n ?_
      refine A.seq rfl ?_
      refine A.seq rfl ?_
      refine A.region ?_
      refine R.one rfl ?_
      refine W.chk rfl (by decide) ?_
      refine W.det (.lp 5 2 0) _ rfl ?_
      refine R.one rfl ?_
      refine W.det (.d (.v (.int .i64 x12.a0))) _ rfl ?_
      refine R.one rfl ?_
      refine W.det (.d (.v (.int .i64 s3.1))) _ rfl ?_
      refine R.one rfl ?_
      refine W.det (.d (.v (.bool (decide (x12.a0 ≤ s3.1))))) _ rfl ?_
      refine R.one rfl ?_
      refine W.det (.d (.v (.bool (decide (x12.a0 ≤ s3.1))))) _ rfl ?_
      refine R.gF rfl rfl rfl h (fun _ h => ?_) (fun _ h => ?_)
      · refine R.skip rfl rfl rfl ?_
        refine R.skip rfl rfl rfl ?_
        refine R.skip rfl rfl rfl ?_
        refine R.skip rfl rfl rfl ?_
        refine R.one rfl ?_
        refine W.det (.kb true) _ rfl ?_
        refine R.nil ?_
        refine seqK.n ?_
        refine A.condT rfl ?_
        refine A.seq rfl ?_
        refine A.region ?_
        refine R.one rfl ?_
        refine W.det (.kb false) _ rfl ?_
        refine R.nil ?_
        refine seqK.n ?_
        refine A.ret ?_
        refine seqK.r ?_
        refine blockK.r ?_
        refine seqK.r ?_
        refine headK.r ?_
        refine blockK.r ?_
        refine headK.r ?_
        injection h with h
        subst h
        cases hG
        exact ⟨rfl, trivial⟩
      · refine W.chk rfl (by decide) ?_
        refine W.det (.lp 5 2 0) _ rfl ?_
        refine R.run rfl rfl rfl ?_
        refine W.det (.d (.v (.int .i64 x12.a0))) _ rfl ?_
        refine R.run rfl rfl rfl ?_
        refine W.chk rfl (by decide) ?_
        refine W.det (.lp 5 2 1) _ rfl ?_
        refine R.run rfl rfl rfl ?_
        refine W.det (.d (.v (.int .i64 x12.a1))) _ rfl ?_
        refine R.run rfl rfl rfl ?_
        refine W.det (.d (.v (.bool (decide (x12.a1 ≤ x12.a0))))) _ rfl ?_
        refine R.one rfl ?_
        refine W.det (.d (.v (.bool (decide (x12.a1 ≤ x12.a0))))) _ rfl ?_
        refine R.nil ?_
        refine seqK.n ?_
        refine A.condB rfl h (fun _ h => ?_) (fun _ h => ?_)
        · refine A.seq rfl ?_
          refine A.region ?_
          refine R.one rfl ?_
          refine W.det (.kb false) _ rfl ?_
          refine R.nil ?_
          refine seqK.n ?_
          refine A.ret ?_
          refine seqK.r ?_
          refine blockK.r ?_
          refine seqK.r ?_
          refine headK.r ?_
          refine blockK.r ?_
          refine headK.r ?_
          injection h with h
          subst h
          cases hG
          exact ⟨rfl, trivial⟩
        · refine A.skip ?_
          refine seqK.n ?_
          refine A.region ?_
          refine R.one rfl ?_
          refine W.chk rfl (by decide) ?_
          refine W.det (.lp 5 2 1) _ rfl ?_
          refine R.one rfl ?_
          refine W.det (.d (.v (.int .i64 x12.a1))) _ rfl ?_
          refine R.one rfl ?_
          refine W.det (.d (.v (.int .i64 x12.a1))) _ rfl ?_
          refine R.nil ?_
          refine blockK.n ?_
          refine seqK.n ?_
          refine A.region ?_
          refine R.one rfl ?_
          refine W.det (.d (.v (.int .i64 (IntKind.i64.wrap (s3.2 + (1 : Int)))))) _ rfl ?_
          refine R.one rfl ?_
          refine W.det (.d (.v (.int .i64 (IntKind.i64.wrap (s3.2 + (1 : Int)))))) _ rfl ?_
          refine R.nil ?_
          injection h with h
          subst h
          exact headK.n hG (Enters.of [] [(900000, (900000, 1))] _ rfl rfl (chkE.c rfl rfl (chkE.c rfl rfl (chkE.c rfl rfl (chkE.c rfl rfl (chkE.c rfl rfl trivial))))) (chkM.c rfl rfl trivial))
    · refine A.exit ?_
      refine seqK.e ?_
      refine headK.e ?_
      refine blockK.x ?_
      injection h with h
      subst h
      exact headK.n hG (Enters.of [] [(900000, (900000, 1))] _ rfl rfl (chkE.c rfl rfl (chkE.c rfl rfl trivial)) (chkM.c rfl rfl trivial))
  · intro s2 r2 h hG
    refine A.seq rfl ?_
    refine A.region ?_
    refine R.one rfl ?_
    refine W.det (.lp 900000 1 0) _ rfl ?_
    refine R.one rfl ?_
    refine W.det (.d (.v (.int .i64 l_.Low))) _ rfl ?_
    refine R.one rfl ?_
    refine W.det (.d (.v (.bool (decide ((0 : Int) ≤ l_.Low))))) _ rfl ?_
    refine R.one rfl ?_
    refine W.det (.d (.v (.bool (decide ((0 : Int) ≤ l_.Low))))) _ rfl ?_
    refine R.gT rfl rfl rfl h (fun _ h => ?_) (fun _ h => ?_)
    · refine W.det (.lp 900000 1 0) _ rfl ?_
      refine R.run rfl rfl rfl ?_
      refine W.det (.d (.v (.int .i64 l_.Low))) _ rfl ?_
      refine R.run rfl rfl rfl ?_
      refine W.det (.d (.v (.bool (decide (l_.Low ≤ (1099511627776 : Int)))))) _ rfl ?_
      refine R.one rfl ?_
      refine W.det (.d (.v (.bool (decide (l_.Low ≤ (1099511627776 : Int)))))) _ rfl ?_
      refine R.one rfl ?_
      refine W.det (.d (.v (.bool (decide (l_.Low ≤ (1099511627776 : Int)))))) _ rfl ?_
      refine R.gT rfl rfl rfl h (fun _ h => ?_) (fun _ h => ?_)
      · refine W.det (.d (.v (.int .i64 s2))) _ rfl ?_
        refine R.run rfl rfl rfl ?_
        refine W.det (.d (.v (.bool (decide (s2 ≤ (1099511627776 : Int)))))) _ rfl ?_
        refine R.one rfl ?_
        refine W.det (.d (.v (.bool (decide (s2 ≤ (1099511627776 : Int)))))) _ rfl ?_
        refine R.one rfl ?_
        refine W.det (.d (.v (.bool (decide (s2 ≤ (1099511627776 : Int)))))) _ rfl ?_
        refine R.nil ?_
        refine seqK.n ?_
        refine A.ret ?_
        injection h with h
        subst h
        cases hG
        exact ⟨rfl, trivial⟩
      · refine R.skip rfl rfl rfl ?_
        refine R.one rfl ?_
        refine W.det (.kb false) _ rfl ?_
        refine R.one rfl ?_
        refine W.det (.kb false) _ rfl ?_
        refine R.nil ?_
        refine seqK.n ?_
        refine A.ret ?_
        injection h with h
        subst h
        cases hG
        exact ⟨rfl, trivial⟩
    · refine R.skip rfl rfl rfl ?_
      refine R.skip rfl rfl rfl ?_
      refine R.one rfl ?_
      refine W.det (.kb false) _ rfl ?_
      refine R.one rfl ?_
      refine W.det (.kb false) _ rfl ?_
      refine R.skip rfl rfl rfl ?_
      refine R.skip rfl rfl rfl ?_
      refine R.one rfl ?_
      refine W.det (.kb false) _ rfl ?_
      refine R.one rfl ?_
      refine W.det (.kb false) _ rfl ?_
      refine R.nil ?_
      refine seqK.n ?_
      refine A.ret ?_
      injection h with h
      subst h
      cases hG
      exact ⟨rfl, trivial⟩
noncomputable def once_at_1 (i_ : Int) (c0_ : once_List) (c1_ : Int) : Option (Bool) :=
  (getI c0_.Ranges i_).bind fun x1 =>
  some (decide (c1_ < x1.a1))
theorem once_at_1_fn {i_ : Int} {c0_ : once_List} {c1_ : Int} {r : Bool} (h : once_at_1 i_ c0_ c1_ = some r) : Fn Try.prog 24 [.d (.v (.int .i64 i_)), .fp [.v (.int .i64 c0_.Low), .fz (List.map Arr2_Int.enc c0_.Ranges)], .fp [.v (.int .i64 c1_)]] (.d (.v (.bool r))) := by
  refine Fn.of_AW (F := FnX Try.prog) (base := 0) (js := []) mixed tok noeqs (fun _ _ _ h => h) Try.call24 Try.func24 rfl Try.ntmps24 (by rw [Try.results24]) (by simp) ?_
  have hG : (fun x => x = r) r := rfl
  unfold once_at_1 at h
  refine A.seq rfl ?_
  refine A.region ?_
  refine R.one rfl ?_
  refine W.det (.kb false) _ rfl ?_
  refine R.nil ?_
  refine seqK.n ?_
  refine A.seq rfl ?_
  refine A.regionD (by kernel_rfl) ?_
  refine R.one rfl ?_
  refine W.det (.fp [.fz (List.map Arr2_Int.enc c0_.Ranges)]) _ rfl ?_
  refine R.one rfl ?_
  refine W.det (.d (.fz (List.map Arr2_Int.enc c0_.Ranges))) _ rfl ?_
  refine R.one rfl ?_
  refine W.det (.d (.v (.int .i64 i_))) _ rfl ?_
  refine R.one rfl ?_
  refine bindK h fun x1 hx1 h => ?_
  refine W.chk rfl (elemB hx1) ?_
  refine W.elem rfl (elemG hx1) ?_
  refine W.chk rfl rfl ?_
  refine W.det (.fp [.v (.int .i64 x1.a0), .v (.int .i64 x1.a1)]) _ rfl ?_
  refine R.one rfl ?_
  refine W.chk rfl (by decide) ?_
  refine W.det (.fp [.v (.int .i64 x1.a1)]) _ rfl ?_
  refine R.one rfl ?_
  refine W.det (.d (.v (.int .i64 x1.a1))) _ rfl ?_
  refine R.one rfl ?_
  refine W.det (.d (.v (.int .i64 c1_))) _ rfl ?_
  refine R.one rfl ?_
  refine W.det (.d (.v (.bool (decide (c1_ < x1.a1))))) _ rfl ?_
  refine R.one rfl ?_
  refine W.det (.d (.v (.bool (decide (c1_ < x1.a1))))) _ rfl ?_
  refine R.nil ?_
  refine seqK.n ?_
  refine A.ret ?_
  injection h with h
  subst h
  cases hG
  exact ⟨rfl, trivial⟩
noncomputable def sort_Search_L1 (f_ : (Int → Option (Bool))) (s3 : Int × Int) : Option ((Int × Int) ⊕ ((Int) ⊕ (Int))) :=
  (bif (decide (s3.1 < s3.2)) then
    (f_ (IntKind.i64.wrap (Int.fdiv (IntKind.u64.wrap (IntKind.i64.wrap (s3.1 + s3.2))) (2 ^ (min (1 : Int).toNat (IntKind.bits .u64)))))).bind fun y6 =>
    (bif (!y6) then
      some (.inl ((IntKind.i64.wrap ((IntKind.i64.wrap (Int.fdiv (IntKind.u64.wrap (IntKind.i64.wrap (s3.1 + s3.2))) (2 ^ (min (1 : Int).toNat (IntKind.bits .u64))))) + (1 : Int))), s3.2))
    else
      some (.inl (s3.1, (IntKind.i64.wrap (Int.fdiv (IntKind.u64.wrap (IntKind.i64.wrap (s3.1 + s3.2))) (2 ^ (min (1 : Int).toNat (IntKind.bits .u64))))))))
  else
    some (.inr (.inl s3.1)))
noncomputable def sort_Search (n_ : Int) (f_ : (Int → Option (Bool))) : Option (Int) :=
  (seqF (A := Int) (
    loopF (sort_Search_L1 f_) ((0 : Int), n_))
  fun s2 =>
    some s2)
theorem sort_Search_fn {n_ : Int} {f_ : (Int → Option (Bool))} {f_F : FuncId} {f_C : List AV} (f_H : f_C.all capd = true) (f_P : ∀ (q0 : Int) (z : Bool), f_ q0 = some z → Fn Try.prog f_F ([.d (.v (.int .i64 q0))] ++ f_C) (.d (.v (.bool z)))) {r : Int} (h : sort_Search n_ f_ = some r) : Fn Try.prog 23 [.d (.v (.int .i64 n_)), .fn f_F f_C] (.d (.v (.int .i64 r))) := by
  refine Fn.of_AW (F := FnX Try.prog) (base := 0) (js := [7]) mixed tok noeqs (fun _ _ _ h => h) Try.call23 Try.func23 rfl Try.ntmps23 (by rw [Try.results23]) (by simp) ?_
  have hG : (fun x => x = r) r := rfl
  unfold sort_Search at h
  refine A.seq rfl ?_
  refine A.region ?_
  refine R.one rfl ?_
  refine W.det (.d (.v (.int .i64 (0 : Int)))) _ rfl ?_
  refine R.nil ?_
  refine seqK.n ?_
  refine A.seq rfl ?_
  refine A.region ?_
  refine R.one rfl ?_
  refine W.det (.d (.v (.int .i64 n_))) _ rfl ?_
  refine R.one rfl ?_
  refine W.det (.d (.v (.int .i64 (0 : Int)))) _ rfl ?_
  refine R.one rfl ?_
  refine W.det (.d (.v (.int .i64 n_))) _ rfl ?_
  refine R.nil ?_
  refine seqK.n ?_
  refine A.join (fun (s2 : Int) => [(5, .d (.v (.int .i64 s2)))]) (fun s2 => []) _ h hG rfl ?_ ?_
  · intro J f h hG
    refine A.block ?_
    refine A.loop (fun (s3 : Int × Int) => [(1, .fn f_F f_C), (5, .d (.v (.int .i64 s3.1))), (6, .d (.v (.int .i64 s3.2)))]) (fun s3 => []) _ h hG (Enters.of [] [] _ rfl rfl (chkE.g f_H rfl (chkE.c rfl rfl (chkE.c rfl rfl trivial))) trivial) ?_
    intro J s3 f h hG
    unfold sort_Search_L1 at h
    refine A.seq rfl ?_
    refine A.seq rfl ?_
    refine A.region ?_
    refine R.one rfl ?_
    refine W.det (.d (.v (.int .i64 s3.1))) _ rfl ?_
    refine R.one rfl ?_
    refine W.det (.d (.v (.int .i64 s3.2))) _ rfl ?_
    refine R.one rfl ?_
    refine W.det (.d (.v (.bool (decide (s3.1 < s3.2))))) _ rfl ?_
    refine R.nil ?_
    refine seqK.n ?_
    refine A.condB rfl h (fun _ h => ?_) (fun _ h => ?_)
    · refine A.skip ?_
      refine seqK.n ?_
      refine A.block ?_
      refine A.seq rfl ?_
      refine A.region ?_
      refine R.one rfl ?_
      refine W.det (.d (.v (.int .i64 s3.1))) _ rfl ?_
      refine R.one rfl ?_
      refine W.det (.d (.v (.int .i64 s3.2))) _ rfl ?_
      refine R.one rfl ?_
      refine W.det (.d (.v (.int .i64 (IntKind.i64.wrap (s3.1 + s3.2))))) _ rfl ?_
      refine R.one rfl ?_
      refine W.det (.d (.v (.int .u64 (IntKind.u64.wrap (IntKind.i64.wrap (s3.1 + s3.2)))))) _ rfl ?_
      refine R.one rfl ?_
      refine W.chk rfl (by decide) ?_
      refine W.det (.d (.v (.int .u64 (Int.fdiv (IntKind.u64.wrap (IntKind.i64.wrap (s3.1 + s3.2))) (2 ^ (min (1 : Int).toNat (IntKind.bits .u64))))))) _ rfl ?_
      refine R.one rfl ?_
      refine W.det (.d (.v (.int .i64 (IntKind.i64.wrap (Int.fdiv (IntKind.u64.wrap (IntKind.i64.wrap (s3.1 + s3.2))) (2 ^ (min (1 : Int).toNat (IntKind.bits .u64)))))))) _ rfl ?_
      refine R.one rfl ?_
      refine W.det (.d (.v (.int .i64 (IntKind.i64.wrap (Int.fdiv (IntKind.u64.wrap (IntKind.i64.wrap (s3.1 + s3.2))) (2 ^ (min (1 : Int).toNat (IntKind.bits .u64)))))))) _ rfl ?_
      refine R.nil ?_
      refine seqK.n ?_
      refine A.seq rfl ?_
      refine A.region ?_
      refine R.one rfl ?_
      refine W.det (.fn f_F f_C) _ rfl ?_
      refine R.one rfl ?_
      refine W.det (.d (.v (.int .i64 (IntKind.i64.wrap (Int.fdiv (IntKind.u64.wrap (IntKind.i64.wrap (s3.1 + s3.2))) (2 ^ (min (1 : Int).toNat (IntKind.bits .u64)))))))) _ rfl ?_
      refine R.one rfl ?_
      refine bindK h fun y6 hy6 h => ?_
      refine callG rfl rfl rfl f_H ?_
      refine W.call rfl (f_P _ _ hy6) ?_
      refine W.det (.d (.v (.bool y6))) _ rfl ?_
      refine R.one rfl ?_
      refine W.det (.d (.v (.bool (!y6)))) _ rfl ?_
      refine R.nil ?_
      refine seqK.n ?_
      refine A.condB rfl h (fun _ h => ?_) (fun _ h => ?_)
      · refine A.region ?_
        refine R.one rfl ?_
        refine W.det (.d (.v (.int .i64 (IntKind.i64.wrap (Int.fdiv (IntKind.u64.wrap (IntKind.i64.wrap (s3.1 + s3.2))) (2 ^ (min (1 : Int).toNat (IntKind.bits .u64)))))))) _ rfl ?_
        refine R.one rfl ?_
        refine W.det (.d (.v (.int .i64 (IntKind.i64.wrap ((IntKind.i64.wrap (Int.fdiv (IntKind.u64.wrap (IntKind.i64.wrap (s3.1 + s3.2))) (2 ^ (min (1 : Int).toNat (IntKind.bits .u64))))) + (1 : Int)))))) _ rfl ?_
        refine R.one rfl ?_
        refine W.det (.d (.v (.int .i64 (IntKind.i64.wrap ((IntKind.i64.wrap (Int.fdiv (IntKind.u64.wrap (IntKind.i64.wrap (s3.1 + s3.2))) (2 ^ (min (1 : Int).toNat (IntKind.bits .u64))))) + (1 : Int)))))) _ rfl ?_
        refine R.nil ?_
        refine blockK.n ?_
        injection h with h
        subst h
        exact headK.n hG (Enters.of [] [] _ rfl rfl (chkE.g f_H rfl (chkE.c rfl rfl (chkE.c rfl rfl trivial))) trivial)
      · refine A.region ?_
        refine R.one rfl ?_
        refine W.det (.d (.v (.int .i64 (IntKind.i64.wrap (Int.fdiv (IntKind.u64.wrap (IntKind.i64.wrap (s3.1 + s3.2))) (2 ^ (min (1 : Int).toNat (IntKind.bits .u64)))))))) _ rfl ?_
        refine R.one rfl ?_
        refine W.det (.d (.v (.int .i64 (IntKind.i64.wrap (Int.fdiv (IntKind.u64.wrap (IntKind.i64.wrap (s3.1 + s3.2))) (2 ^ (min (1 : Int).toNat (IntKind.bits .u64)))))))) _ rfl ?_
        refine R.nil ?_
        refine blockK.n ?_
        injection h with h
        subst h
        exact headK.n hG (Enters.of [] [] _ rfl rfl (chkE.g f_H rfl (chkE.c rfl rfl (chkE.c rfl rfl trivial))) trivial)
    · refine A.exit ?_
      refine seqK.e ?_
      refine headK.e ?_
      refine blockK.x ?_
      injection h with h
      subst h
      exact headK.n hG (Enters.of [] [] _ rfl rfl (chkE.c rfl rfl trivial) trivial)
  · intro s2 r2 h hG
    refine A.seq rfl ?_
    refine A.region ?_
    refine R.one rfl ?_
    refine W.det (.d (.v (.int .i64 s2))) _ rfl ?_
    refine R.one rfl ?_
    refine W.det (.d (.v (.int .i64 s2))) _ rfl ?_
    refine R.nil ?_
    refine seqK.n ?_
    refine A.ret ?_
    injection h with h
    subst h
    cases hG
    exact ⟨rfl, trivial⟩
noncomputable def once_at (l_ : once_List) (n_ : Int) : Option (Int) :=
  (sort_Search (l_.Ranges.length : Int) (fun a0 => once_at_1 a0 l_ n_)).bind fun y1 =>
  some y1
theorem once_at_fn {l_ : once_List} {n_ : Int} {r : Int} (h : once_at l_ n_ = some r) : Fn Try.prog 20 [.agg [.d (.v (.int .i64 l_.Low)), .d (.fz (List.map Arr2_Int.enc l_.Ranges))], .d (.v (.int .i64 n_))] (.d (.v (.int .i64 r))) := by
  refine Fn.of_AW (F := FnX Try.prog) (base := 0) (js := []) mixed tok noeqs (fun _ _ _ h => h) Try.call20 Try.func20 rfl Try.ntmps20 (by rw [Try.results20]) (by simp) ?_
  have hG : (fun x => x = r) r := rfl
  unfold once_at at h
  refine A.seq rfl ?_
  refine A.region ?_
  refine R.one rfl ?_
  refine W.det (.lp 2 1 0) (Mem.add _ 2 (.box [.d (.v (.int .i64 l_.Low)), .d (.fz (List.map Arr2_Int.enc l_.Ranges))])) rfl ?_
  refine R.one rfl ?_
  refine W.det (.lp 3 1 0) (Mem.add _ 3 (.box [.d (.v (.int .i64 n_))])) rfl ?_
  refine R.one rfl ?_
  refine W.det (.d (.v (.int .i64 (0 : Int)))) _ rfl ?_
  refine R.nil ?_
  refine seqK.n ?_
  refine A.seq rfl ?_
  refine A.region ?_
  refine R.one rfl ?_
  refine W.det (.lp 2 1 1) _ rfl ?_
  refine R.one rfl ?_
  refine W.det (.d (.fz (List.map Arr2_Int.enc l_.Ranges))) _ rfl ?_
  refine R.one rfl ?_
  refine W.len rfl ?_
  refine R.one rfl ?_
  refine W.det (.fn 24 [.lp 2 1 0, .lp 3 1 0]) _ rfl ?_
  refine R.one rfl ?_
  refine bindK h fun y1 hy1 h => ?_
  refine W.call rfl (sort_Search_fn (f_F := 24) (f_C := [.fp [.v (.int .i64 l_.Low), .fz (List.map Arr2_Int.enc l_.Ranges)], .fp [.v (.int .i64 n_)]]) rfl (fun _ _ h => once_at_1_fn h) hy1) ?_
  refine W.det (.d (.v (.int .i64 y1))) _ rfl ?_
  refine R.one rfl ?_
  refine W.det (.d (.v (.int .i64 y1))) _ rfl ?_
  refine R.nil ?_
  refine seqK.n ?_
  refine A.ret ?_
  injection h with h
  subst h
  cases hG
  exact ⟨rfl, trivial⟩
noncomputable def once_Has (l_ : once_List) (n_ : Int) : Option (Bool) :=
  (once_Right l_).bind fun y2 =>
  (bif (!y2) then
    some false
  else
    (once_at l_ n_).bind fun y3 =>
    (bif (decide (n_ < l_.Low)) then
      some true
    else
      (bif (decide (y3 < (l_.Ranges.length : Int))) then
        (getI l_.Ranges y3).bind fun x4 =>
        some (decide (x4.a0 ≤ n_))
      else
        some false)))
theorem once_Has_fn {l_ : once_List} {n_ : Int} {r : Bool} (h : once_Has l_ n_ = some r) : Fn Try.prog 13 [.agg [.d (.v (.int .i64 l_.Low)), .d (.fz (List.map Arr2_Int.enc l_.Ranges))], .d (.v (.int .i64 n_))] (.d (.v (.bool r))) := by
  refine Fn.of_AW (F := FnX Try.prog) (base := 0) (js := []) mixed tok noeqs (fun _ _ _ h => h) Try.call13 Try.func13 rfl Try.ntmps13 (by rw [Try.results13]) (by simp) ?_
  have hG : (fun x => x = r) r := rfl
  unfold once_Has at h
  refine A.seq rfl ?_
  refine A.region ?_
  refine R.one rfl ?_
  refine W.det (.lp 2 1 0) (Mem.add _ 2 (.box [.d (.v (.int .i64 l_.Low)), .d (.fz (List.map Arr2_Int.enc l_.Ranges))])) rfl ?_
  refine R.one rfl ?_
  refine W.det (.kb false) _ rfl ?_
  refine R.nil ?_
  refine seqK.n ?_
  refine A.seq rfl ?_
  refine A.seq rfl ?_
  refine A.region ?_
  refine R.one rfl ?_
  refine W.det (.agg [.d (.v (.int .i64 l_.Low)), .d (.fz (List.map Arr2_Int.enc l_.Ranges))]) _ rfl ?_
  refine R.one rfl ?_
  refine bindK h fun y2 hy2 h => ?_
  refine W.call rfl (once_Right_fn hy2) ?_
  refine W.det (.d (.v (.bool y2))) _ rfl ?_
  refine R.one rfl ?_
  refine W.det (.d (.v (.bool (!y2)))) _ rfl ?_
  refine R.nil ?_
  refine seqK.n ?_
  refine A.condB rfl h (fun _ h => ?_) (fun _ h => ?_)
  · refine A.seq rfl ?_
    refine A.region ?_
    refine R.one rfl ?_
    refine W.det (.kb false) _ rfl ?_
    refine R.nil ?_
    refine seqK.n ?_
    refine A.ret ?_
    refine seqK.r ?_
    injection h with h
    subst h
    cases hG
    exact ⟨rfl, trivial⟩
  · refine A.skip ?_
    refine seqK.n ?_
    refine A.seq rfl ?_
    refine A.region ?_
    refine R.one rfl ?_
    refine W.det (.agg [.d (.v (.int .i64 l_.Low)), .d (.fz (List.map Arr2_Int.enc l_.Ranges))]) _ rfl ?_
    refine R.one rfl ?_
    refine W.det (.d (.v (.int .i64 n_))) _ rfl ?_
    refine R.one rfl ?_
    refine bindK h fun y3 hy3 h => ?_
    refine W.call rfl (once_at_fn hy3) ?_
    refine W.det (.d (.v (.int .i64 y3))) _ rfl ?_
    refine R.one rfl ?_
    refine W.det (.d (.v (.int .i64 y3))) _ rfl ?_
    refine R.nil ?_
    refine seqK.n ?_
    refine A.seq rfl ?_
    refine A.region ?_
    refine R.one rfl ?_
    refine W.det (.d (.v (.int .i64 n_))) _ rfl ?_
    refine R.one rfl ?_
    refine W.det (.lp 2 1 0) _ rfl ?_
    refine R.one rfl ?_
    refine W.det (.d (.v (.int .i64 l_.Low))) _ rfl ?_
    refine R.one rfl ?_
    refine W.det (.d (.v (.bool (decide (n_ < l_.Low))))) _ rfl ?_
    refine R.one rfl ?_
    refine W.det (.d (.v (.bool (decide (n_ < l_.Low))))) _ rfl ?_
    refine R.gF rfl rfl rfl h (fun _ h => ?_) (fun _ h => ?_)
    · refine R.skip rfl rfl rfl ?_
      refine R.skip rfl rfl rfl ?_
      refine R.skip rfl rfl rfl ?_
      refine R.skip rfl rfl rfl ?_
      refine R.skip rfl rfl rfl ?_
      refine R.none_ rfl rfl rfl ?_
      refine R.none_ rfl rfl rfl ?_
      refine R.none_ rfl rfl rfl ?_
      refine R.none_ rfl rfl rfl ?_
      refine R.none_ rfl rfl rfl ?_
      refine R.none_ rfl rfl rfl ?_
      refine R.none_ rfl rfl rfl ?_
      refine R.none_ rfl rfl rfl ?_
      refine R.skip rfl rfl rfl ?_
      refine R.one rfl ?_
      refine W.det (.kb true) _ rfl ?_
      refine R.one rfl ?_
      refine W.det (.kb true) _ rfl ?_
      refine R.nil ?_
      refine seqK.n ?_
      refine A.ret ?_
      injection h with h
      subst h
      cases hG
      exact ⟨rfl, trivial⟩
    · refine W.det (.d (.v (.int .i64 y3))) _ rfl ?_
      refine R.run rfl rfl rfl ?_
      refine W.det (.lp 2 1 1) _ rfl ?_
      refine R.run rfl rfl rfl ?_
      refine W.det (.d (.fz (List.map Arr2_Int.enc l_.Ranges))) _ rfl ?_
      refine R.run rfl rfl rfl ?_
      refine W.len rfl ?_
      refine R.run rfl rfl rfl ?_
      refine W.det (.d (.v (.bool (decide (y3 < (l_.Ranges.length : Int)))))) _ rfl ?_
      refine R.run rfl rfl rfl ?_
      refine W.det (.d (.v (.bool (decide (y3 < (l_.Ranges.length : Int)))))) _ rfl ?_
      refine R.gT rfl rfl rfl h (fun _ h => ?_) (fun _ h => ?_)
      · refine W.det (.lp 2 1 1) _ rfl ?_
        refine R.run rfl rfl rfl ?_
        refine W.det (.d (.fz (List.map Arr2_Int.enc l_.Ranges))) _ rfl ?_
        refine R.run rfl rfl rfl ?_
        refine W.det (.d (.v (.int .i64 y3))) _ rfl ?_
        refine R.run rfl rfl rfl ?_
        refine bindK h fun x4 hx4 h => ?_
        refine W.chk rfl (elemB hx4) ?_
        refine W.elem rfl (elemG hx4) ?_
        refine W.chk rfl rfl ?_
        refine W.det (.fp [.v (.int .i64 x4.a0), .v (.int .i64 x4.a1)]) _ rfl ?_
        refine R.run rfl rfl rfl ?_
        refine W.chk rfl (by decide) ?_
        refine W.det (.fp [.v (.int .i64 x4.a0), .v (.int .i64 x4.a1)]) _ rfl ?_
        refine R.run rfl rfl rfl ?_
        refine W.det (.d (.v (.int .i64 x4.a0))) _ rfl ?_
        refine R.run rfl rfl rfl ?_
        refine W.det (.d (.v (.int .i64 n_))) _ rfl ?_
        refine R.run rfl rfl rfl ?_
        refine W.det (.d (.v (.bool (decide (x4.a0 ≤ n_))))) _ rfl ?_
        refine R.run rfl rfl rfl ?_
        refine W.det (.d (.v (.bool (decide (x4.a0 ≤ n_))))) _ rfl ?_
        refine R.one rfl ?_
        refine W.det (.d (.v (.bool (decide (x4.a0 ≤ n_))))) _ rfl ?_
        refine R.one rfl ?_
        refine W.det (.d (.v (.bool (decide (x4.a0 ≤ n_))))) _ rfl ?_
        refine R.nil ?_
        refine seqK.n ?_
        refine A.ret ?_
        injection h with h
        subst h
        cases hG
        exact ⟨rfl, trivial⟩
      · refine R.skip rfl rfl rfl ?_
        refine R.skip rfl rfl rfl ?_
        refine R.skip rfl rfl rfl ?_
        refine R.skip rfl rfl rfl ?_
        refine R.skip rfl rfl rfl ?_
        refine R.skip rfl rfl rfl ?_
        refine R.skip rfl rfl rfl ?_
        refine R.run rfl rfl rfl ?_
        refine W.det (.kb false) _ rfl ?_
        refine R.one rfl ?_
        refine W.det (.kb false) _ rfl ?_
        refine R.one rfl ?_
        refine W.det (.kb false) _ rfl ?_
        refine R.nil ?_
        refine seqK.n ?_
        refine A.ret ?_
        injection h with h
        subst h
        cases hG
        exact ⟨rfl, trivial⟩
noncomputable def once_Floor (l_ : once_List) : Option (Int) :=
  (once_Right l_).bind fun y2 =>
  (bif (!y2) then
    some (-1 : Int)
  else
    some l_.Low)
theorem once_Floor_fn {l_ : once_List} {r : Int} (h : once_Floor l_ = some r) : Fn Try.prog 15 [.agg [.d (.v (.int .i64 l_.Low)), .d (.fz (List.map Arr2_Int.enc l_.Ranges))]] (.d (.v (.int .i64 r))) := by
  refine Fn.of_AW (F := FnX Try.prog) (base := 0) (js := []) mixed tok noeqs (fun _ _ _ h => h) Try.call15 Try.func15 rfl Try.ntmps15 (by rw [Try.results15]) (by simp) ?_
  have hG : (fun x => x = r) r := rfl
  unfold once_Floor at h
  refine A.seq rfl ?_
  refine A.region ?_
  refine R.one rfl ?_
  refine W.det (.lp 1 1 0) (Mem.add _ 1 (.box [.d (.v (.int .i64 l_.Low)), .d (.fz (List.map Arr2_Int.enc l_.Ranges))])) rfl ?_
  refine R.one rfl ?_
  refine W.det (.d (.v (.int .i64 (0 : Int)))) _ rfl ?_
  refine R.nil ?_
  refine seqK.n ?_
  refine A.seq rfl ?_
  refine A.seq rfl ?_
  refine A.region ?_
  refine R.one rfl ?_
  refine W.det (.agg [.d (.v (.int .i64 l_.Low)), .d (.fz (List.map Arr2_Int.enc l_.Ranges))]) _ rfl ?_
  refine R.one rfl ?_
  refine bindK h fun y2 hy2 h => ?_
  refine W.call rfl (once_Right_fn hy2) ?_
  refine W.det (.d (.v (.bool y2))) _ rfl ?_
  refine R.one rfl ?_
  refine W.det (.d (.v (.bool (!y2)))) _ rfl ?_
  refine R.nil ?_
  refine seqK.n ?_
  refine A.condB rfl h (fun _ h => ?_) (fun _ h => ?_)
  · refine A.seq rfl ?_
    refine A.region ?_
    refine R.one rfl ?_
    refine W.det (.d (.v (.int .i64 (-1 : Int)))) _ rfl ?_
    refine R.nil ?_
    refine seqK.n ?_
    refine A.ret ?_
    refine seqK.r ?_
    injection h with h
    subst h
    cases hG
    exact ⟨rfl, trivial⟩
  · refine A.skip ?_
    refine seqK.n ?_
    refine A.seq rfl ?_
    refine A.region ?_
    refine R.one rfl ?_
    refine W.det (.lp 1 1 0) _ rfl ?_
    refine R.one rfl ?_
    refine W.det (.d (.v (.int .i64 l_.Low))) _ rfl ?_
    refine R.one rfl ?_
    refine W.det (.d (.v (.int .i64 l_.Low))) _ rfl ?_
    refine R.nil ?_
    refine seqK.n ?_
    refine A.ret ?_
    injection h with h
    subst h
    cases hG
    exact ⟨rfl, trivial⟩
noncomputable def law32_list (low_ : Int) (ranges_ : (List Arr2_Int)) : Option (once_List) :=
  some (once_List.mk low_ ranges_)
theorem law32_list_fn {low_ : Int} {ranges_ : (List Arr2_Int)} {r : once_List} (h : law32_list low_ ranges_ = some r) : Fn Try.prog 18 [.d (.v (.int .i64 low_)), .d (.fz (List.map Arr2_Int.enc ranges_))] (.agg [.d (.v (.int .i64 r.Low)), .d (.fz (List.map Arr2_Int.enc r.Ranges))]) := by
  refine Fn.of_AW (F := FnX Try.prog) (base := 0) (js := []) mixed tok noeqs (fun _ _ _ h => h) Try.call18 Try.func18 rfl Try.ntmps18 (by rw [Try.results18]) (by simp) ?_
  have hG : (fun x => x = r) r := rfl
  unfold law32_list at h
  refine A.seq rfl ?_
  refine A.region ?_
  refine R.one rfl ?_
  refine W.det (.lp 4 1 0) (Mem.add (Mem.add _ 131076 (.rows 2 (List.map Arr2_Int.enc ([] : List Arr2_Int)) false)) 4 (.box [.d (.v (.int .i64 (0 : Int))), .row 131076 1 0])) rfl ?_
  refine R.nil ?_
  refine seqK.n ?_
  refine A.seq rfl ?_
  refine A.region ?_
  refine R.one rfl ?_
  refine W.det (.d (.v (.int .i64 low_))) _ rfl ?_
  refine R.one rfl ?_
  refine W.det (.d (.fz (List.map Arr2_Int.enc ranges_))) _ rfl ?_
  refine R.one rfl ?_
  refine W.det (.agg [.d (.v (.int .i64 low_)), .d (.fz (List.map Arr2_Int.enc ranges_))]) _ rfl ?_
  refine R.one rfl ?_
  refine W.det (.tup []) (Mem.set _ 4 1 (some (.box [.d (.v (.int .i64 low_)), .d (.fz (List.map Arr2_Int.enc ranges_))]))) rfl ?_
  refine R.nil ?_
  refine seqK.n ?_
  refine A.ret ?_
  injection h with h
  subst h
  cases hG
  exact ⟨rfl, rfl, trivial⟩
end Go.Proofs.Ytikfbgbfjipceaa

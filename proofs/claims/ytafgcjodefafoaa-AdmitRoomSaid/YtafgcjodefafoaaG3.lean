/-
  Plain programs of functions, and that the functions do what they say. Printed by wip/tools/gen.py.
-/
import Derived.Test.YtafgcjodefafoaaG2
namespace Go.Proofs.Ytafgcjodefafoaa
open Go.RowKit
attribute [local irreducible] IntKind.wrap
set_option linter.unusedVariables false
set_option maxHeartbeats 4000000
set_option maxRecDepth 100000
noncomputable def ref29_Order_L1 (s24 : (Int × (List api_Job))) (p_ : (List api_Job)) (s45 : Int) : Option ((Int) ⊕ ((Int) ⊕ (((List api_Job)) ⊕ ((Int × (List api_Job)) ⊕ (((List api_Job)) ⊕ ((List api_Job))))))) :=
  (bif (decide (s45 < ((s24.2.length : Nat) : Int))) then
    (chkO (decide (0 ≤ s45) && decide (s45 < ((s24.2.length : Nat) : Int)))).bind fun _ =>
    (getI s24.2 s45).bind fun x783 =>
    (getI p_ s24.1).bind fun x784 =>
    (bif (decide (x783.Due < x784.Due)) then
      some (.inl (IntKind.i64.wrap (s45 + (1 : Int))))
    else
      (bif (x783.Due == x784.Due) then
        (bif (decide (x783.Id < x784.Id)) then
          some (.inl (IntKind.i64.wrap (s45 + (1 : Int))))
        else
          some (.inr (.inl s45)))
      else
        some (.inr (.inl s45))))
  else
    some (.inr (.inl s45)))
noncomputable def ref29_Order_L2 (p_ : (List api_Job)) (s24 : Int × (List api_Job)) : Option ((Int × (List api_Job)) ⊕ (((List api_Job)) ⊕ ((List api_Job)))) :=
  (bif (decide (s24.1 < (p_.length : Int))) then
    (seqF (A := (List api_Job)) (
      (seqF (A := Int) (
        loopF (ref29_Order_L1 s24 p_) (0 : Int))
      fun s44 =>
        (chkO (cutO (0 : Int) s44 ((s24.2.length : Nat) : Int))).bind fun _ =>
        (chkO (decide (0 + (List.take (s44 - (0 : Int)).toNat (List.drop (0 : Int).toNat s24.2)).length ≤ 1000000))).bind fun _ =>
        (getI p_ s24.1).bind fun x789 =>
        (chkO (decide ((([] : List api_Job) ++ (List.take (s44 - (0 : Int)).toNat (List.drop (0 : Int).toNat s24.2))).length + [x789].length ≤ 1000000))).bind fun _ =>
        (chkO (cutO s44 ((s24.2.length : Nat) : Int) ((s24.2.length : Nat) : Int))).bind fun _ =>
        (chkO (decide (((([] : List api_Job) ++ (List.take (s44 - (0 : Int)).toNat (List.drop (0 : Int).toNat s24.2))) ++ [x789]).length + (List.take (((s24.2.length : Nat) : Int) - s44).toNat (List.drop s44.toNat s24.2)).length ≤ 1000000))).bind fun _ =>
        some (.inl (((([] : List api_Job) ++ (List.take (s44 - (0 : Int)).toNat (List.drop (0 : Int).toNat s24.2))) ++ [x789]) ++ (List.take (((s24.2.length : Nat) : Int) - s44).toNat (List.drop s44.toNat s24.2))))))
    fun s42 =>
      some (.inl ((IntKind.i64.wrap (s24.1 + (1 : Int))), s42)))
  else
    some (.inr (.inl s24.2)))
noncomputable def ref29_Order (p_ : (List api_Job)) : Option ((List api_Job)) :=
  (seqF (A := (List api_Job)) (
    loopF (ref29_Order_L2 p_) ((0 : Int), ([] : List api_Job)))
  fun s23 =>
    some s23)
theorem ref29_Order_fn {p_ : (List api_Job)} {r : (List api_Job)} (h : ref29_Order p_ = some r) : Fn Try.prog 20 [.d (.fz (List.map api_Job.enc p_))] (.ow 3 (List.map api_Job.enc r)) := by
  refine Fn.of_AW (F := FnX Try.prog) (base := 0) (js := [4, 8, 12]) mixed tok noeqs (fun _ _ _ h => h) Try.call20 Try.func20 rfl Try.ntmps20 (by rw [Try.results20]) (by simp) ?_
  have hG : (fun x => x = r) r := rfl
  unfold ref29_Order at h
  refine A.seq rfl ?_
  refine A.region ?_
  refine R.one rfl ?_
  refine W.det (.row 2 1 0) (Mem.add _ 2 (.rows 3 (List.map api_Job.enc ([] : List api_Job)) false)) rfl ?_
  refine R.nil ?_
  refine seqK.n ?_
  refine A.seq rfl ?_
  refine A.region ?_
  refine R.one rfl ?_
  refine W.det (.row 3 1 0) (Mem.add _ 3 (.rows 3 (List.map api_Job.enc ([] : List api_Job)) false)) rfl ?_
  refine R.nil ?_
  refine seqK.n ?_
  refine A.join (fun (s23 : (List api_Job)) => [(3, .row 900000 1 s23.length)]) (fun s23 => [(900000, .rows 3 (List.map api_Job.enc s23) false)]) _ h hG rfl ?_ ?_
  · intro J f h hG
    refine A.seq rfl ?_
    refine A.region ?_
    refine R.one rfl ?_
    refine W.det (.d (.v (.int .i64 (0 : Int)))) _ rfl ?_
    refine R.nil ?_
    refine seqK.n ?_
    refine A.block ?_
    refine A.loop (fun (s24 : Int × (List api_Job)) => [(0, .d (.fz (List.map api_Job.enc p_))), (3, .row 900000 1 s24.2.length), (4, .d (.v (.int .i64 s24.1)))]) (fun s24 => [(900000, .rows 3 (List.map api_Job.enc s24.2) false)]) _ h hG (Enters.of [] [(900000, (3, 1))] _ rfl rfl (chkE.c rfl rfl (chkE.c rfl rfl (chkE.c rfl rfl trivial))) (chkM.c rfl rfl trivial)) ?_
    intro J s24 f h hG
    unfold ref29_Order_L2 at h
    refine A.seq rfl ?_
    refine A.seq rfl ?_
    refine A.region ?_
    refine R.one rfl ?_
    refine W.det (.d (.v (.int .i64 s24.1))) _ rfl ?_
    refine R.one rfl ?_
    refine W.det (.d (.fz (List.map api_Job.enc p_))) _ rfl ?_
    refine R.one rfl ?_
    refine W.len rfl ?_
    refine R.one rfl ?_
    refine W.det (.d (.v (.bool (decide (s24.1 < (p_.length : Int)))))) _ rfl ?_
    refine R.nil ?_
    refine seqK.n ?_
    refine A.condB rfl h (fun _ h => ?_) (fun _ h => ?_)
    · refine A.skip ?_
      refine seqK.n ?_
      refine A.join (fun (s42 : (List api_Job)) => [(0, .d (.fz (List.map api_Job.enc p_))), (3, .row 900000 1 s42.length), (4, .d (.v (.int .i64 s24.1)))]) (fun s42 => [(900000, .rows 3 (List.map api_Job.enc s42) false)]) _ h hG rfl ?_ ?_
      · intro J f h hG
        refine A.block ?_
        refine A.seq rfl ?_
        refine A.region ?_
        refine R.one rfl ?_
        refine W.det (.d (.v (.int .i64 (0 : Int)))) _ rfl ?_
        refine R.nil ?_
        refine seqK.n ?_
        refine A.join (fun (s44 : Int) => [(0, .d (.fz (List.map api_Job.enc p_))), (3, .row 900000 1 s24.2.length), (4, .d (.v (.int .i64 s24.1))), (5, .d (.v (.int .i64 s44)))]) (fun s44 => [(900000, .rows 3 (List.map api_Job.enc s24.2) false)]) _ h hG rfl ?_ ?_
        · intro J f h hG
          refine A.block ?_
          refine A.loop (fun (s45 : Int) => [(0, .d (.fz (List.map api_Job.enc p_))), (3, .row 900000 1 s24.2.length), (4, .d (.v (.int .i64 s24.1))), (5, .d (.v (.int .i64 s45)))]) (fun s45 => [(900000, .rows 3 (List.map api_Job.enc s24.2) false)]) _ h hG (Enters.of [] [(900000, (900000, 1))] _ rfl rfl (chkE.c rfl rfl (chkE.c rfl rfl (chkE.c rfl rfl (chkE.c rfl rfl trivial)))) (chkM.c rfl rfl trivial)) ?_
          intro J s45 f h hG
          unfold ref29_Order_L1 at h
          refine A.seq rfl ?_
          refine A.seq rfl ?_
          refine A.regionD (by kernel_rfl) ?_
          refine R.one rfl ?_
          refine W.det (.d (.v (.int .i64 s45))) _ rfl ?_
          refine R.one rfl ?_
          refine W.det (.row 900000 1 s24.2.length) _ rfl ?_
          refine R.one rfl ?_
          refine W.det (.d (.v (.int .i64 ((s24.2.length : Nat) : Int)))) _ rfl ?_
          refine R.one rfl ?_
          refine W.det (.d (.v (.bool (decide (s45 < ((s24.2.length : Nat) : Int)))))) _ rfl ?_
          refine R.one rfl ?_
          refine W.det (.d (.v (.bool (decide (s45 < ((s24.2.length : Nat) : Int)))))) _ rfl ?_
          refine R.gT rfl rfl rfl h (fun _ h => ?_) (fun _ h => ?_)
          · refine W.det (.row 900000 1 s24.2.length) _ rfl ?_
            refine R.run rfl rfl rfl ?_
            refine W.det (.d (.v (.int .i64 s45))) _ rfl ?_
            refine R.run rfl rfl rfl ?_
            refine chkK h fun g782 h => ?_
            refine W.chk rfl (by simpa using g782) ?_
            refine W.det (.rp 900000 1 s45.toNat 0) _ rfl ?_
            refine R.run rfl rfl rfl ?_
            refine W.det (.rp 900000 1 s45.toNat 2) _ rfl ?_
            refine R.run rfl rfl rfl ?_
            refine bindK h fun x783 hx783 h => ?_
            refine W.elem rfl (elemG hx783) ?_
            refine W.det (.d (.v (.int .i64 x783.Due))) _ rfl ?_
            refine R.run rfl rfl rfl ?_
            refine W.det (.d (.fz (List.map api_Job.enc p_))) _ rfl ?_
            refine R.run rfl rfl rfl ?_
            refine W.det (.d (.v (.int .i64 s24.1))) _ rfl ?_
            refine R.run rfl rfl rfl ?_
            refine bindK h fun x784 hx784 h => ?_
            refine W.chk rfl (elemB hx784) ?_
            refine W.elem rfl (elemG hx784) ?_
            refine W.chk rfl rfl ?_
            refine W.det (.fp [.v (.int .i64 x784.Id), .v (.int .i64 x784.Size), .v (.int .i64 x784.Due)]) _ rfl ?_
            refine R.run rfl rfl rfl ?_
            refine W.det (.fp [.v (.int .i64 x784.Due)]) _ rfl ?_
            refine R.run rfl rfl rfl ?_
            refine W.det (.d (.v (.int .i64 x784.Due))) _ rfl ?_
            refine R.run rfl rfl rfl ?_
            refine W.det (.d (.v (.bool (decide (x783.Due < x784.Due))))) _ rfl ?_
            refine R.run rfl rfl rfl ?_
            refine W.det (.d (.v (.bool (decide (x783.Due < x784.Due))))) _ rfl ?_
            refine R.gF rfl rfl rfl h (fun _ h => ?_) (fun _ h => ?_)
            · refine R.skip rfl rfl rfl ?_
              refine R.skip rfl rfl rfl ?_
              refine R.skip rfl rfl rfl ?_
              refine R.skip rfl rfl rfl ?_
              refine R.skip rfl rfl rfl ?_
              refine R.skip rfl rfl rfl ?_
              refine R.skip rfl rfl rfl ?_
              refine R.skip rfl rfl rfl ?_
              refine R.skip rfl rfl rfl ?_
              refine R.skip rfl rfl rfl ?_
              refine R.skip rfl rfl rfl ?_
              refine R.none_ rfl rfl rfl ?_
              refine R.none_ rfl rfl rfl ?_
              refine R.none_ rfl rfl rfl ?_
              refine R.none_ rfl rfl rfl ?_
              refine R.none_ rfl rfl rfl ?_
              refine R.none_ rfl rfl rfl ?_
              refine R.none_ rfl rfl rfl ?_
              refine R.none_ rfl rfl rfl ?_
              refine R.none_ rfl rfl rfl ?_
              refine R.none_ rfl rfl rfl ?_
              refine R.none_ rfl rfl rfl ?_
              refine R.skip rfl rfl rfl ?_
              refine R.run rfl rfl rfl ?_
              refine W.det (.kb true) _ rfl ?_
              refine R.one rfl ?_
              refine W.det (.kb true) _ rfl ?_
              refine R.nil ?_
              refine seqK.n ?_
              refine A.condT rfl ?_
              refine A.skip ?_
              refine seqK.n ?_
              refine A.block ?_
              refine A.region ?_
              refine R.one rfl ?_
              refine W.det (.d (.v (.int .i64 s45))) _ rfl ?_
              refine R.one rfl ?_
              refine W.det (.d (.v (.int .i64 (IntKind.i64.wrap (s45 + (1 : Int)))))) _ rfl ?_
              refine R.one rfl ?_
              refine W.det (.d (.v (.int .i64 (IntKind.i64.wrap (s45 + (1 : Int)))))) _ rfl ?_
              refine R.nil ?_
              refine blockK.n ?_
              injection h with h
              subst h
              exact headK.n hG (Enters.of [] [(900000, (900000, 1))] _ rfl rfl (chkE.c rfl rfl (chkE.c rfl rfl (chkE.c rfl rfl (chkE.c rfl rfl trivial)))) (chkM.c rfl rfl trivial))
            · refine W.det (.row 900000 1 s24.2.length) _ rfl ?_
              refine R.run rfl rfl rfl ?_
              refine W.det (.d (.v (.int .i64 s45))) _ rfl ?_
              refine R.run rfl rfl rfl ?_
              refine W.chk rfl (by simpa using g782) ?_
              refine W.det (.rp 900000 1 s45.toNat 0) _ rfl ?_
              refine R.run rfl rfl rfl ?_
              refine W.det (.rp 900000 1 s45.toNat 2) _ rfl ?_
              refine R.run rfl rfl rfl ?_
              refine W.elem rfl (elemG hx783) ?_
              refine W.det (.d (.v (.int .i64 x783.Due))) _ rfl ?_
              refine R.run rfl rfl rfl ?_
              refine W.det (.d (.fz (List.map api_Job.enc p_))) _ rfl ?_
              refine R.run rfl rfl rfl ?_
              refine W.det (.d (.v (.int .i64 s24.1))) _ rfl ?_
              refine R.run rfl rfl rfl ?_
              refine W.chk rfl (elemB hx784) ?_
              refine W.elem rfl (elemG hx784) ?_
              refine W.chk rfl rfl ?_
              refine W.det (.fp [.v (.int .i64 x784.Id), .v (.int .i64 x784.Size), .v (.int .i64 x784.Due)]) _ rfl ?_
              refine R.run rfl rfl rfl ?_
              refine W.det (.fp [.v (.int .i64 x784.Due)]) _ rfl ?_
              refine R.run rfl rfl rfl ?_
              refine W.det (.d (.v (.int .i64 x784.Due))) _ rfl ?_
              refine R.run rfl rfl rfl ?_
              refine W.det (.d (.v (.bool (x783.Due == x784.Due)))) _ rfl ?_
              refine R.run rfl rfl rfl ?_
              refine W.det (.d (.v (.bool (x783.Due == x784.Due)))) _ rfl ?_
              refine R.gT rfl rfl rfl h (fun _ h => ?_) (fun _ h => ?_)
              · refine W.det (.row 900000 1 s24.2.length) _ rfl ?_
                refine R.run rfl rfl rfl ?_
                refine W.det (.d (.v (.int .i64 s45))) _ rfl ?_
                refine R.run rfl rfl rfl ?_
                refine W.chk rfl (by simpa using g782) ?_
                refine W.det (.rp 900000 1 s45.toNat 0) _ rfl ?_
                refine R.run rfl rfl rfl ?_
                refine W.det (.rp 900000 1 s45.toNat 0) _ rfl ?_
                refine R.run rfl rfl rfl ?_
                refine W.elem rfl (elemG hx783) ?_
                refine W.det (.d (.v (.int .i64 x783.Id))) _ rfl ?_
                refine R.run rfl rfl rfl ?_
                refine W.det (.d (.fz (List.map api_Job.enc p_))) _ rfl ?_
                refine R.run rfl rfl rfl ?_
                refine W.det (.d (.v (.int .i64 s24.1))) _ rfl ?_
                refine R.run rfl rfl rfl ?_
                refine W.chk rfl (elemB hx784) ?_
                refine W.elem rfl (elemG hx784) ?_
                refine W.chk rfl rfl ?_
                refine W.det (.fp [.v (.int .i64 x784.Id), .v (.int .i64 x784.Size), .v (.int .i64 x784.Due)]) _ rfl ?_
                refine R.run rfl rfl rfl ?_
                refine W.det (.fp [.v (.int .i64 x784.Id), .v (.int .i64 x784.Size), .v (.int .i64 x784.Due)]) _ rfl ?_
                refine R.run rfl rfl rfl ?_
                refine W.det (.d (.v (.int .i64 x784.Id))) _ rfl ?_
                refine R.run rfl rfl rfl ?_
                refine W.det (.d (.v (.bool (decide (x783.Id < x784.Id))))) _ rfl ?_
                refine R.run rfl rfl rfl ?_
                refine W.det (.d (.v (.bool (decide (x783.Id < x784.Id))))) _ rfl ?_
                refine R.run rfl rfl rfl ?_
                refine W.det (.d (.v (.bool (decide (x783.Id < x784.Id))))) _ rfl ?_
                refine R.one rfl ?_
                refine W.det (.d (.v (.bool (decide (x783.Id < x784.Id))))) _ rfl ?_
                refine R.nil ?_
                refine seqK.n ?_
                refine A.condB rfl h (fun _ h => ?_) (fun _ h => ?_)
                · refine A.skip ?_
                  refine seqK.n ?_
                  refine A.block ?_
                  refine A.region ?_
                  refine R.one rfl ?_
                  refine W.det (.d (.v (.int .i64 s45))) _ rfl ?_
                  refine R.one rfl ?_
                  refine W.det (.d (.v (.int .i64 (IntKind.i64.wrap (s45 + (1 : Int)))))) _ rfl ?_
                  refine R.one rfl ?_
                  refine W.det (.d (.v (.int .i64 (IntKind.i64.wrap (s45 + (1 : Int)))))) _ rfl ?_
                  refine R.nil ?_
                  refine blockK.n ?_
                  injection h with h
                  subst h
                  exact headK.n hG (Enters.of [] [(900000, (900000, 1))] _ rfl rfl (chkE.c rfl rfl (chkE.c rfl rfl (chkE.c rfl rfl (chkE.c rfl rfl trivial)))) (chkM.c rfl rfl trivial))
                · refine A.exit ?_
                  refine seqK.e ?_
                  refine headK.e ?_
                  refine blockK.x ?_
                  injection h with h
                  subst h
                  exact headK.n hG (Enters.of [] [(900000, (900000, 1))] _ rfl rfl (chkE.c rfl rfl (chkE.c rfl rfl (chkE.c rfl rfl (chkE.c rfl rfl trivial)))) (chkM.c rfl rfl trivial))
              · refine R.skip rfl rfl rfl ?_
                refine R.skip rfl rfl rfl ?_
                refine R.skip rfl rfl rfl ?_
                refine R.skip rfl rfl rfl ?_
                refine R.skip rfl rfl rfl ?_
                refine R.skip rfl rfl rfl ?_
                refine R.skip rfl rfl rfl ?_
                refine R.skip rfl rfl rfl ?_
                refine R.skip rfl rfl rfl ?_
                refine R.skip rfl rfl rfl ?_
                refine R.run rfl rfl rfl ?_
                refine W.det (.kb false) _ rfl ?_
                refine R.run rfl rfl rfl ?_
                refine W.det (.kb false) _ rfl ?_
                refine R.one rfl ?_
                refine W.det (.kb false) _ rfl ?_
                refine R.nil ?_
                refine seqK.n ?_
                refine A.condF rfl ?_
                refine A.exit ?_
                refine seqK.e ?_
                refine headK.e ?_
                refine blockK.x ?_
                injection h with h
                subst h
                exact headK.n hG (Enters.of [] [(900000, (900000, 1))] _ rfl rfl (chkE.c rfl rfl (chkE.c rfl rfl (chkE.c rfl rfl (chkE.c rfl rfl trivial)))) (chkM.c rfl rfl trivial))
          · refine R.skip rfl rfl rfl ?_
            refine R.skip rfl rfl rfl ?_
            refine R.skip rfl rfl rfl ?_
            refine R.skip rfl rfl rfl ?_
            refine R.skip rfl rfl rfl ?_
            refine R.skip rfl rfl rfl ?_
            refine R.skip rfl rfl rfl ?_
            refine R.skip rfl rfl rfl ?_
            refine R.skip rfl rfl rfl ?_
            refine R.skip rfl rfl rfl ?_
            refine R.skip rfl rfl rfl ?_
            refine R.none_ rfl rfl rfl ?_
            refine R.none_ rfl rfl rfl ?_
            refine R.none_ rfl rfl rfl ?_
            refine R.none_ rfl rfl rfl ?_
            refine R.none_ rfl rfl rfl ?_
            refine R.none_ rfl rfl rfl ?_
            refine R.none_ rfl rfl rfl ?_
            refine R.none_ rfl rfl rfl ?_
            refine R.none_ rfl rfl rfl ?_
            refine R.none_ rfl rfl rfl ?_
            refine R.none_ rfl rfl rfl ?_
            refine R.none_ rfl rfl rfl ?_
            refine R.none_ rfl rfl rfl ?_
            refine R.none_ rfl rfl rfl ?_
            refine R.none_ rfl rfl rfl ?_
            refine R.none_ rfl rfl rfl ?_
            refine R.none_ rfl rfl rfl ?_
            refine R.none_ rfl rfl rfl ?_
            refine R.none_ rfl rfl rfl ?_
            refine R.none_ rfl rfl rfl ?_
            refine R.none_ rfl rfl rfl ?_
            refine R.none_ rfl rfl rfl ?_
            refine R.none_ rfl rfl rfl ?_
            refine R.none_ rfl rfl rfl ?_
            refine R.skip rfl rfl rfl ?_
            refine R.one rfl ?_
            refine W.det (.kb false) _ rfl ?_
            refine R.nil ?_
            refine seqK.n ?_
            refine A.condF rfl ?_
            refine A.exit ?_
            refine seqK.e ?_
            refine headK.e ?_
            refine blockK.x ?_
            injection h with h
            subst h
            exact headK.n hG (Enters.of [] [(900000, (900000, 1))] _ rfl rfl (chkE.c rfl rfl (chkE.c rfl rfl (chkE.c rfl rfl (chkE.c rfl rfl trivial)))) (chkM.c rfl rfl trivial))
        · intro s44 r2 h hG
          refine A.seq rfl ?_
          refine A.region ?_
          refine R.one rfl ?_
          refine W.det (.row 6 2 0) (Mem.add _ 6 (.rows 3 (List.map api_Job.enc ([] : List api_Job)) false)) rfl ?_
          refine R.nil ?_
          refine seqK.n ?_
          refine A.seq rfl ?_
          refine A.region ?_
          refine R.one rfl ?_
          refine W.det (.row 6 2 0) _ rfl ?_
          refine R.one rfl ?_
          refine W.det (.row 900000 1 s24.2.length) _ rfl ?_
          refine R.one rfl ?_
          refine W.det (.d (.v (.int .i64 s44))) _ rfl ?_
          refine R.one rfl ?_
          refine chkK h fun g787 h => ?_
          refine W.chk rfl (cutO_all g787) ?_
          refine W.det (.sub 900000 1 (0 : Int).toNat (s44 - (0 : Int)).toNat) _ rfl ?_
          refine R.one rfl ?_
          refine chkK h fun g788 h => ?_
          refine W.chk rfl (by rw [partMap]; exact appChk (fun _ => rfl) g788) ?_
          refine W.rows (0 + (List.take (s44 - (0 : Int)).toNat (List.drop (0 : Int).toNat (List.map api_Job.enc s24.2))).length) (([] : List api_Job) ++ (List.take (s44 - (0 : Int)).toNat (List.drop (0 : Int).toNat s24.2))).length ([] ++ (List.take (s44 - (0 : Int)).toNat (List.drop (0 : Int).toNat (List.map api_Job.enc s24.2)))) (List.map api_Job.enc (([] : List api_Job) ++ (List.take (s44 - (0 : Int)).toNat (List.drop (0 : Int).toNat s24.2)))) rfl (by first | rfl | (simp; done) | simp only [partMap, List.length_map, List.length_append, List.nil_append, Nat.zero_add, List.length_nil]) (by first | rfl | (simp; done) | simp only [partMap, List.map_append, List.nil_append, List.map_nil]) ?_
          refine R.one rfl ?_
          refine W.det (.row 6 3 (([] : List api_Job) ++ (List.take (s44 - (0 : Int)).toNat (List.drop (0 : Int).toNat s24.2))).length) _ rfl ?_
          refine R.nil ?_
          refine seqK.n ?_
          refine A.seq rfl ?_
          refine A.region ?_
          refine R.one rfl ?_
          refine W.det (.row 6 3 (([] : List api_Job) ++ (List.take (s44 - (0 : Int)).toNat (List.drop (0 : Int).toNat s24.2))).length) _ rfl ?_
          refine R.one rfl ?_
          refine W.det (.d (.fz (List.map api_Job.enc p_))) _ rfl ?_
          refine R.one rfl ?_
          refine W.det (.d (.v (.int .i64 s24.1))) _ rfl ?_
          refine R.one rfl ?_
          refine bindK h fun x789 hx789 h => ?_
          refine W.chk rfl (elemB hx789) ?_
          refine W.elem rfl (elemG hx789) ?_
          refine W.chk rfl rfl ?_
          refine W.det (.fp [.v (.int .i64 x789.Id), .v (.int .i64 x789.Size), .v (.int .i64 x789.Due)]) _ rfl ?_
          refine R.one rfl ?_
          refine W.det (.agg [.d (.v (.int .i64 x789.Id)), .d (.v (.int .i64 x789.Size)), .d (.v (.int .i64 x789.Due))]) _ rfl ?_
          refine R.one rfl ?_
          refine W.det (.row 68 2 1) (Mem.add _ 68 (.rows 3 (List.map api_Job.enc [x789]) false)) rfl ?_
          refine R.one rfl ?_
          refine chkK h fun g790 h => ?_
          refine W.chk rfl (appChk (fun _ => rfl) g790) ?_
          refine W.app rfl rfl ?_
          refine R.one rfl ?_
          refine W.det (.row 6 4 ((([] : List api_Job) ++ (List.take (s44 - (0 : Int)).toNat (List.drop (0 : Int).toNat s24.2))) ++ [x789]).length) _ rfl ?_
          refine R.nil ?_
          refine seqK.n ?_
          refine A.region ?_
          refine R.one rfl ?_
          refine W.det (.row 6 4 ((([] : List api_Job) ++ (List.take (s44 - (0 : Int)).toNat (List.drop (0 : Int).toNat s24.2))) ++ [x789]).length) _ rfl ?_
          refine R.one rfl ?_
          refine W.det (.row 900000 1 s24.2.length) _ rfl ?_
          refine R.one rfl ?_
          refine W.det (.d (.v (.int .i64 s44))) _ rfl ?_
          refine R.one rfl ?_
          refine chkK h fun g791 h => ?_
          refine W.chk rfl (cutO_all g791) ?_
          refine W.det (.sub 900000 1 s44.toNat (((s24.2.length : Nat) : Int) - s44).toNat) _ rfl ?_
          refine R.one rfl ?_
          refine chkK h fun g792 h => ?_
          refine W.chk rfl (by rw [partMap]; exact appChk (fun _ => rfl) g792) ?_
          refine W.rows (((([] : List api_Job) ++ (List.take (s44 - (0 : Int)).toNat (List.drop (0 : Int).toNat s24.2))) ++ [x789]).length + (List.take (((s24.2.length : Nat) : Int) - s44).toNat (List.drop s44.toNat (List.map api_Job.enc s24.2))).length) (((([] : List api_Job) ++ (List.take (s44 - (0 : Int)).toNat (List.drop (0 : Int).toNat s24.2))) ++ [x789]) ++ (List.take (((s24.2.length : Nat) : Int) - s44).toNat (List.drop s44.toNat s24.2))).length ((List.map api_Job.enc ((([] : List api_Job) ++ (List.take (s44 - (0 : Int)).toNat (List.drop (0 : Int).toNat s24.2))) ++ [x789])) ++ (List.take (((s24.2.length : Nat) : Int) - s44).toNat (List.drop s44.toNat (List.map api_Job.enc s24.2)))) (List.map api_Job.enc (((([] : List api_Job) ++ (List.take (s44 - (0 : Int)).toNat (List.drop (0 : Int).toNat s24.2))) ++ [x789]) ++ (List.take (((s24.2.length : Nat) : Int) - s44).toNat (List.drop s44.toNat s24.2)))) rfl (by first | rfl | (simp; done) | simp only [partMap, List.length_map, List.length_append, List.nil_append, Nat.zero_add, List.length_nil]) (by first | rfl | (simp; done) | simp only [partMap, List.map_append, List.nil_append, List.map_nil]) ?_
          refine R.one rfl ?_
          refine W.det (.row 6 5 (((([] : List api_Job) ++ (List.take (s44 - (0 : Int)).toNat (List.drop (0 : Int).toNat s24.2))) ++ [x789]) ++ (List.take (((s24.2.length : Nat) : Int) - s44).toNat (List.drop s44.toNat s24.2))).length) _ rfl ?_
          refine R.nil ?_
          refine blockK.n ?_
          injection h with h
          subst h
          exact headK.n hG (Enters.of [] [(900000, (6, 5))] _ rfl rfl (chkE.c rfl rfl (chkE.c rfl rfl (chkE.c rfl rfl trivial))) (chkM.c rfl rfl trivial))
      · intro s42 r2 h hG
        refine A.region ?_
        refine R.one rfl ?_
        refine W.det (.d (.v (.int .i64 s24.1))) _ rfl ?_
        refine R.one rfl ?_
        refine W.det (.d (.v (.int .i64 (IntKind.i64.wrap (s24.1 + (1 : Int)))))) _ rfl ?_
        refine R.one rfl ?_
        refine W.det (.d (.v (.int .i64 (IntKind.i64.wrap (s24.1 + (1 : Int)))))) _ rfl ?_
        refine R.nil ?_
        injection h with h
        subst h
        exact headK.n hG (Enters.of [] [(900000, (900000, 1))] _ rfl rfl (chkE.c rfl rfl (chkE.c rfl rfl (chkE.c rfl rfl trivial))) (chkM.c rfl rfl trivial))
    · refine A.exit ?_
      refine seqK.e ?_
      refine headK.e ?_
      refine blockK.x ?_
      injection h with h
      subst h
      exact headK.n hG (Enters.of [] [(900000, (900000, 1))] _ rfl rfl (chkE.c rfl rfl trivial) (chkM.c rfl rfl trivial))
  · intro s23 r2 h hG
    refine A.seq rfl ?_
    refine A.region ?_
    refine R.one rfl ?_
    refine W.det (.row 900000 1 s23.length) _ rfl ?_
    refine R.one rfl ?_
    refine W.det (.row 900000 1 s23.length) _ rfl ?_
    refine R.nil ?_
    refine seqK.n ?_
    refine A.ret ?_
    injection h with h
    subst h
    cases hG
    exact ⟨rfl, rfl, trivial⟩
noncomputable def ref28_times (p_ : api_Profile) (steps_ : Int) : Option (Int × Int) :=
  (bif (decide ((0 : Int) < steps_)) then
    (chkO (steps_ != 0)).bind fun _ =>
    (bif (decide ((IntKind.i64.wrap (Int.tdiv (4503599627370496 : Int) steps_)) < p_.Rate)) then
      some ((0 : Int), (3 : Int))
    else
      some ((IntKind.i64.wrap (p_.Rate * steps_)), (0 : Int)))
  else
    some ((IntKind.i64.wrap (p_.Rate * steps_)), (0 : Int)))
theorem ref28_times_fn {p_ : api_Profile} {steps_ : Int} {r : Int × Int} (h : ref28_times p_ steps_ = some r) : Fn Try.prog 52 [.agg [.d (.v (.string p_.Name)), .d (.v (.int .i64 p_.Edit)), .d (.v (.int .i64 p_.Within)), .d (.v (.int .i64 p_.Delete)), .d (.v (.bool p_.React)), .d (.v (.int .i64 p_.Thread)), .d (.v (.bool p_.Quote)), .d (.v (.bool p_.Mention)), .d (.v (.int .i64 p_.Size)), .d (.v (.int .i64 p_.Parts)), .d (.v (.int .i64 p_.Files)), .d (.v (.int .i64 p_.Bytes)), .d (.fz (List.map encS p_.Types)), .d (.v (.int .i64 p_.Join)), .d (.v (.int .i64 p_.History)), .d (.v (.int .i64 p_.Remove)), .d (.v (.int .i64 p_.Level)), .d (.v (.bool p_.Batch)), .d (.v (.int .i64 p_.Rate)), .d (.v (.int .i64 p_.Down)), .d (.v (.int .i64 p_.Window)), .d (.v (.int .i64 p_.Keep))], .d (.v (.int .i64 steps_))] (.tup [.d (.v (.int .i64 r.1)), .d (.v (.int .i64 r.2))]) := by
  refine Fn.of_AW (F := FnX Try.prog) (base := 0) (js := []) mixed tok noeqs (fun _ _ _ h => h) Try.call52 Try.func52 rfl Try.ntmps52 (by rw [Try.results52]) (by simp) ?_
  have hG : (fun x => x = r) r := rfl
  unfold ref28_times at h
  refine A.seq rfl ?_
  refine A.region ?_
  refine R.one rfl ?_
  refine W.det (.lp 2 1 0) (Mem.add _ 2 (.box [.d (.v (.string p_.Name)), .d (.v (.int .i64 p_.Edit)), .d (.v (.int .i64 p_.Within)), .d (.v (.int .i64 p_.Delete)), .d (.v (.bool p_.React)), .d (.v (.int .i64 p_.Thread)), .d (.v (.bool p_.Quote)), .d (.v (.bool p_.Mention)), .d (.v (.int .i64 p_.Size)), .d (.v (.int .i64 p_.Parts)), .d (.v (.int .i64 p_.Files)), .d (.v (.int .i64 p_.Bytes)), .d (.fz (List.map encS p_.Types)), .d (.v (.int .i64 p_.Join)), .d (.v (.int .i64 p_.History)), .d (.v (.int .i64 p_.Remove)), .d (.v (.int .i64 p_.Level)), .d (.v (.bool p_.Batch)), .d (.v (.int .i64 p_.Rate)), .d (.v (.int .i64 p_.Down)), .d (.v (.int .i64 p_.Window)), .d (.v (.int .i64 p_.Keep))])) rfl ?_
  refine R.one rfl ?_
  refine W.det (.d (.v (.int .i64 (0 : Int)))) _ rfl ?_
  refine R.one rfl ?_
  refine W.det (.d (.v (.int .i64 (0 : Int)))) _ rfl ?_
  refine R.nil ?_
  refine seqK.n ?_
  refine A.seq rfl ?_
  refine A.seq rfl ?_
  refine A.regionD (by kernel_rfl) ?_
  refine R.one rfl ?_
  refine W.det (.d (.v (.int .i64 steps_))) _ rfl ?_
  refine R.one rfl ?_
  refine W.det (.d (.v (.bool (decide ((0 : Int) < steps_))))) _ rfl ?_
  refine R.one rfl ?_
  refine W.det (.d (.v (.bool (decide ((0 : Int) < steps_))))) _ rfl ?_
  refine R.gT rfl rfl rfl h (fun _ h => ?_) (fun _ h => ?_)
  · refine W.det (.lp 2 1 18) _ rfl ?_
    refine R.run rfl rfl rfl ?_
    refine W.det (.d (.v (.int .i64 p_.Rate))) _ rfl ?_
    refine R.run rfl rfl rfl ?_
    refine W.det (.d (.v (.int .i64 steps_))) _ rfl ?_
    refine R.run rfl rfl rfl ?_
    refine chkK h fun g4 h => ?_
    refine W.chk rfl (by simpa using g4) ?_
    refine W.det (.d (.v (.int .i64 (IntKind.i64.wrap (Int.tdiv (4503599627370496 : Int) steps_))))) _ rfl ?_
    refine R.run rfl rfl rfl ?_
    refine W.det (.d (.v (.bool (decide ((IntKind.i64.wrap (Int.tdiv (4503599627370496 : Int) steps_)) < p_.Rate))))) _ rfl ?_
    refine R.one rfl ?_
    refine W.det (.d (.v (.bool (decide ((IntKind.i64.wrap (Int.tdiv (4503599627370496 : Int) steps_)) < p_.Rate))))) _ rfl ?_
    refine R.nil ?_
    refine seqK.n ?_
    refine A.condB rfl h (fun _ h => ?_) (fun _ h => ?_)
    · refine A.seq rfl ?_
      refine A.region ?_
      refine R.one rfl ?_
      refine W.det (.d (.v (.int .i64 (0 : Int)))) _ rfl ?_
      refine R.one rfl ?_
      refine W.det (.d (.v (.int .i64 (3 : Int)))) _ rfl ?_
      refine R.nil ?_
      refine seqK.n ?_
      refine A.ret ?_
      refine seqK.r ?_
      injection h with h
      subst h
      cases hG
      exact ⟨rfl, rfl, trivial⟩
    · refine A.skip ?_
      refine seqK.n ?_
      refine A.seq rfl ?_
      refine A.region ?_
      refine R.one rfl ?_
      refine W.det (.lp 2 1 18) _ rfl ?_
      refine R.one rfl ?_
      refine W.det (.d (.v (.int .i64 p_.Rate))) _ rfl ?_
      refine R.one rfl ?_
      refine W.det (.d (.v (.int .i64 steps_))) _ rfl ?_
      refine R.one rfl ?_
      refine W.det (.d (.v (.int .i64 (IntKind.i64.wrap (p_.Rate * steps_))))) _ rfl ?_
      refine R.one rfl ?_
      refine W.det (.d (.v (.int .i64 (IntKind.i64.wrap (p_.Rate * steps_))))) _ rfl ?_
      refine R.one rfl ?_
      refine W.det (.d (.v (.int .i64 (0 : Int)))) _ rfl ?_
      refine R.nil ?_
      refine seqK.n ?_
      refine A.ret ?_
      injection h with h
      subst h
      cases hG
      exact ⟨rfl, rfl, trivial⟩
  · refine R.skip rfl rfl rfl ?_
    refine R.skip rfl rfl rfl ?_
    refine R.skip rfl rfl rfl ?_
    refine R.skip rfl rfl rfl ?_
    refine R.one rfl ?_
    refine W.det (.kb false) _ rfl ?_
    refine R.nil ?_
    refine seqK.n ?_
    refine A.condF rfl ?_
    refine A.skip ?_
    refine seqK.n ?_
    refine A.seq rfl ?_
    refine A.region ?_
    refine R.one rfl ?_
    refine W.det (.lp 2 1 18) _ rfl ?_
    refine R.one rfl ?_
    refine W.det (.d (.v (.int .i64 p_.Rate))) _ rfl ?_
    refine R.one rfl ?_
    refine W.det (.d (.v (.int .i64 steps_))) _ rfl ?_
    refine R.one rfl ?_
    refine W.det (.d (.v (.int .i64 (IntKind.i64.wrap (p_.Rate * steps_))))) _ rfl ?_
    refine R.one rfl ?_
    refine W.det (.d (.v (.int .i64 (IntKind.i64.wrap (p_.Rate * steps_))))) _ rfl ?_
    refine R.one rfl ?_
    refine W.det (.d (.v (.int .i64 (0 : Int)))) _ rfl ?_
    refine R.nil ?_
    refine seqK.n ?_
    refine A.ret ?_
    injection h with h
    subst h
    cases hG
    exact ⟨rfl, rfl, trivial⟩
noncomputable def ref28_Least (p_ : api_Profile) (t_ : Int) : Option (Int × Int) :=
  (ref13_Check p_).bind fun y4 =>
  (bif (y4 != (0 : Int)) then
    some ((0 : Int), (1 : Int))
  else
    (bif (decide (t_ < (0 : Int))) then
      some ((0 : Int), (1 : Int))
    else
      (bif (decide ((1073741824 : Int) < t_)) then
        some ((0 : Int), (1 : Int))
      else
        (bif (p_.Down == (0 : Int)) then
          (ref28_times p_ t_).bind fun y6 =>
          some (y6.1, y6.2)
        else
          (chkO (p_.Window != 0)).bind fun _ =>
          (ref28_times p_ (IntKind.i64.wrap ((IntKind.i64.wrap ((IntKind.i64.wrap (Int.tdiv t_ p_.Window)) * (IntKind.i64.wrap (p_.Window - p_.Down)))) + (if (IntKind.i64.wrap ((Int.tmod t_ p_.Window) - p_.Down)) < (0 : Int) then (0 : Int) else (IntKind.i64.wrap ((Int.tmod t_ p_.Window) - p_.Down)))))).bind fun y9 =>
          some (y9.1, y9.2)))))
theorem ref28_Least_fn {p_ : api_Profile} {t_ : Int} {r : Int × Int} (h : ref28_Least p_ t_ = some r) : Fn Try.prog 42 [.agg [.d (.v (.string p_.Name)), .d (.v (.int .i64 p_.Edit)), .d (.v (.int .i64 p_.Within)), .d (.v (.int .i64 p_.Delete)), .d (.v (.bool p_.React)), .d (.v (.int .i64 p_.Thread)), .d (.v (.bool p_.Quote)), .d (.v (.bool p_.Mention)), .d (.v (.int .i64 p_.Size)), .d (.v (.int .i64 p_.Parts)), .d (.v (.int .i64 p_.Files)), .d (.v (.int .i64 p_.Bytes)), .d (.fz (List.map encS p_.Types)), .d (.v (.int .i64 p_.Join)), .d (.v (.int .i64 p_.History)), .d (.v (.int .i64 p_.Remove)), .d (.v (.int .i64 p_.Level)), .d (.v (.bool p_.Batch)), .d (.v (.int .i64 p_.Rate)), .d (.v (.int .i64 p_.Down)), .d (.v (.int .i64 p_.Window)), .d (.v (.int .i64 p_.Keep))], .d (.v (.int .i64 t_))] (.tup [.d (.v (.int .i64 r.1)), .d (.v (.int .i64 r.2))]) := by
  refine Fn.of_AW (F := FnX Try.prog) (base := 0) (js := []) mixed tok noeqs (fun _ _ _ h => h) Try.call42 Try.func42 rfl Try.ntmps42 (by rw [Try.results42]) (by simp) ?_
  have hG : (fun x => x = r) r := rfl
  unfold ref28_Least at h
  refine A.seq rfl ?_
  refine A.region ?_
  refine R.one rfl ?_
  refine W.det (.lp 2 1 0) (Mem.add _ 2 (.box [.d (.v (.string p_.Name)), .d (.v (.int .i64 p_.Edit)), .d (.v (.int .i64 p_.Within)), .d (.v (.int .i64 p_.Delete)), .d (.v (.bool p_.React)), .d (.v (.int .i64 p_.Thread)), .d (.v (.bool p_.Quote)), .d (.v (.bool p_.Mention)), .d (.v (.int .i64 p_.Size)), .d (.v (.int .i64 p_.Parts)), .d (.v (.int .i64 p_.Files)), .d (.v (.int .i64 p_.Bytes)), .d (.fz (List.map encS p_.Types)), .d (.v (.int .i64 p_.Join)), .d (.v (.int .i64 p_.History)), .d (.v (.int .i64 p_.Remove)), .d (.v (.int .i64 p_.Level)), .d (.v (.bool p_.Batch)), .d (.v (.int .i64 p_.Rate)), .d (.v (.int .i64 p_.Down)), .d (.v (.int .i64 p_.Window)), .d (.v (.int .i64 p_.Keep))])) rfl ?_
  refine R.one rfl ?_
  refine W.det (.d (.v (.int .i64 (0 : Int)))) _ rfl ?_
  refine R.one rfl ?_
  refine W.det (.d (.v (.int .i64 (0 : Int)))) _ rfl ?_
  refine R.nil ?_
  refine seqK.n ?_
  refine A.seq rfl ?_
  refine A.seq rfl ?_
  refine A.region ?_
  refine R.one rfl ?_
  refine W.det (.agg [.d (.v (.string p_.Name)), .d (.v (.int .i64 p_.Edit)), .d (.v (.int .i64 p_.Within)), .d (.v (.int .i64 p_.Delete)), .d (.v (.bool p_.React)), .d (.v (.int .i64 p_.Thread)), .d (.v (.bool p_.Quote)), .d (.v (.bool p_.Mention)), .d (.v (.int .i64 p_.Size)), .d (.v (.int .i64 p_.Parts)), .d (.v (.int .i64 p_.Files)), .d (.v (.int .i64 p_.Bytes)), .d (.fz (List.map encS p_.Types)), .d (.v (.int .i64 p_.Join)), .d (.v (.int .i64 p_.History)), .d (.v (.int .i64 p_.Remove)), .d (.v (.int .i64 p_.Level)), .d (.v (.bool p_.Batch)), .d (.v (.int .i64 p_.Rate)), .d (.v (.int .i64 p_.Down)), .d (.v (.int .i64 p_.Window)), .d (.v (.int .i64 p_.Keep))]) _ rfl ?_
  refine R.one rfl ?_
  refine bindK h fun y4 hy4 h => ?_
  refine W.call rfl (ref13_Check_fn hy4) ?_
  refine W.det (.d (.v (.int .i64 y4))) _ rfl ?_
  refine R.one rfl ?_
  refine W.det (.d (.v (.bool (y4 != (0 : Int))))) _ rfl ?_
  refine R.one rfl ?_
  refine W.det (.d (.v (.bool (y4 != (0 : Int))))) _ rfl ?_
  refine R.gF rfl rfl rfl h (fun _ h => ?_) (fun _ h => ?_)
  · refine R.skip rfl rfl rfl ?_
    refine R.one rfl ?_
    refine W.det (.kb true) _ rfl ?_
    refine R.one rfl ?_
    refine W.det (.kb true) _ rfl ?_
    refine R.skip rfl rfl rfl ?_
    refine R.skip rfl rfl rfl ?_
    refine R.one rfl ?_
    refine W.det (.kb true) _ rfl ?_
    refine R.nil ?_
    refine seqK.n ?_
    refine A.condT rfl ?_
    refine A.seq rfl ?_
    refine A.region ?_
    refine R.one rfl ?_
    refine W.det (.d (.v (.int .i64 (0 : Int)))) _ rfl ?_
    refine R.one rfl ?_
    refine W.det (.d (.v (.int .i64 (1 : Int)))) _ rfl ?_
    refine R.nil ?_
    refine seqK.n ?_
    refine A.ret ?_
    refine seqK.r ?_
    injection h with h
    subst h
    cases hG
    exact ⟨rfl, rfl, trivial⟩
  · refine W.det (.d (.v (.int .i64 t_))) _ rfl ?_
    refine R.run rfl rfl rfl ?_
    refine W.det (.d (.v (.bool (decide (t_ < (0 : Int)))))) _ rfl ?_
    refine R.one rfl ?_
    refine W.det (.d (.v (.bool (decide (t_ < (0 : Int)))))) _ rfl ?_
    refine R.one rfl ?_
    refine W.det (.d (.v (.bool (decide (t_ < (0 : Int)))))) _ rfl ?_
    refine R.gF rfl rfl rfl h (fun _ h => ?_) (fun _ h => ?_)
    · refine R.skip rfl rfl rfl ?_
      refine R.one rfl ?_
      refine W.det (.kb true) _ rfl ?_
      refine R.nil ?_
      refine seqK.n ?_
      refine A.condT rfl ?_
      refine A.seq rfl ?_
      refine A.region ?_
      refine R.one rfl ?_
      refine W.det (.d (.v (.int .i64 (0 : Int)))) _ rfl ?_
      refine R.one rfl ?_
      refine W.det (.d (.v (.int .i64 (1 : Int)))) _ rfl ?_
      refine R.nil ?_
      refine seqK.n ?_
      refine A.ret ?_
      refine seqK.r ?_
      injection h with h
      subst h
      cases hG
      exact ⟨rfl, rfl, trivial⟩
    · refine W.det (.d (.v (.int .i64 t_))) _ rfl ?_
      refine R.run rfl rfl rfl ?_
      refine W.det (.d (.v (.bool (decide ((1073741824 : Int) < t_))))) _ rfl ?_
      refine R.one rfl ?_
      refine W.det (.d (.v (.bool (decide ((1073741824 : Int) < t_))))) _ rfl ?_
      refine R.nil ?_
      refine seqK.n ?_
      refine A.condB rfl h (fun _ h => ?_) (fun _ h => ?_)
      · refine A.seq rfl ?_
        refine A.region ?_
        refine R.one rfl ?_
        refine W.det (.d (.v (.int .i64 (0 : Int)))) _ rfl ?_
        refine R.one rfl ?_
        refine W.det (.d (.v (.int .i64 (1 : Int)))) _ rfl ?_
        refine R.nil ?_
        refine seqK.n ?_
        refine A.ret ?_
        refine seqK.r ?_
        injection h with h
        subst h
        cases hG
        exact ⟨rfl, rfl, trivial⟩
      · refine A.skip ?_
        refine seqK.n ?_
        refine A.seq rfl ?_
        refine A.seq rfl ?_
        refine A.region ?_
        refine R.one rfl ?_
        refine W.det (.lp 2 1 19) _ rfl ?_
        refine R.one rfl ?_
        refine W.det (.d (.v (.int .i64 p_.Down))) _ rfl ?_
        refine R.one rfl ?_
        refine W.det (.d (.v (.bool (p_.Down == (0 : Int))))) _ rfl ?_
        refine R.nil ?_
        refine seqK.n ?_
        refine A.condB rfl h (fun _ h => ?_) (fun _ h => ?_)
        · refine A.seq rfl ?_
          refine A.region ?_
          refine R.one rfl ?_
          refine W.det (.agg [.d (.v (.string p_.Name)), .d (.v (.int .i64 p_.Edit)), .d (.v (.int .i64 p_.Within)), .d (.v (.int .i64 p_.Delete)), .d (.v (.bool p_.React)), .d (.v (.int .i64 p_.Thread)), .d (.v (.bool p_.Quote)), .d (.v (.bool p_.Mention)), .d (.v (.int .i64 p_.Size)), .d (.v (.int .i64 p_.Parts)), .d (.v (.int .i64 p_.Files)), .d (.v (.int .i64 p_.Bytes)), .d (.fz (List.map encS p_.Types)), .d (.v (.int .i64 p_.Join)), .d (.v (.int .i64 p_.History)), .d (.v (.int .i64 p_.Remove)), .d (.v (.int .i64 p_.Level)), .d (.v (.bool p_.Batch)), .d (.v (.int .i64 p_.Rate)), .d (.v (.int .i64 p_.Down)), .d (.v (.int .i64 p_.Window)), .d (.v (.int .i64 p_.Keep))]) _ rfl ?_
          refine R.one rfl ?_
          refine W.det (.d (.v (.int .i64 t_))) _ rfl ?_
          refine R.one rfl ?_
          refine bindK h fun y6 hy6 h => ?_
          refine W.call rfl (ref28_times_fn hy6) ?_
          refine W.det (.tup [.d (.v (.int .i64 y6.1)), .d (.v (.int .i64 y6.2))]) _ rfl ?_
          refine R.one rfl ?_
          refine W.det (.tup [.d (.v (.int .i64 y6.1)), .d (.v (.int .i64 y6.2))]) _ rfl ?_
          refine R.one rfl ?_
          refine W.det (.d (.v (.int .i64 y6.1))) _ rfl ?_
          refine R.one rfl ?_
          refine W.det (.d (.v (.int .i64 y6.2))) _ rfl ?_
          refine R.one rfl ?_
          refine W.det (.d (.v (.int .i64 y6.1))) _ rfl ?_
          refine R.one rfl ?_
          refine W.det (.d (.v (.int .i64 y6.2))) _ rfl ?_
          refine R.nil ?_
          refine seqK.n ?_
          refine A.seq rfl ?_
          refine A.region ?_
          refine R.one rfl ?_
          refine W.det (.d (.v (.int .i64 y6.1))) _ rfl ?_
          refine R.one rfl ?_
          refine W.det (.d (.v (.int .i64 y6.2))) _ rfl ?_
          refine R.one rfl ?_
          refine W.det (.d (.v (.int .i64 y6.1))) _ rfl ?_
          refine R.one rfl ?_
          refine W.det (.d (.v (.int .i64 y6.2))) _ rfl ?_
          refine R.nil ?_
          refine seqK.n ?_
          refine A.ret ?_
          refine seqK.r ?_
          injection h with h
          subst h
          cases hG
          exact ⟨rfl, rfl, trivial⟩
        · refine A.skip ?_
          refine seqK.n ?_
          refine A.seq rfl ?_
          refine A.region ?_
          refine R.one rfl ?_
          refine W.det (.d (.v (.int .i64 t_))) _ rfl ?_
          refine R.one rfl ?_
          refine W.det (.lp 2 1 20) _ rfl ?_
          refine R.one rfl ?_
          refine W.det (.d (.v (.int .i64 p_.Window))) _ rfl ?_
          refine R.one rfl ?_
          refine chkK h fun g7 h => ?_
          refine W.chk rfl (by simpa using g7) ?_
          refine W.det (.d (.v (.int .i64 (Int.tmod t_ p_.Window)))) _ rfl ?_
          refine R.one rfl ?_
          refine W.det (.d (.v (.int .i64 (Int.tmod t_ p_.Window)))) _ rfl ?_
          refine R.nil ?_
          refine seqK.n ?_
          refine A.seq rfl ?_
          refine A.regionD (by kernel_rfl) ?_
          refine R.one rfl ?_
          refine W.det (.agg [.d (.v (.string p_.Name)), .d (.v (.int .i64 p_.Edit)), .d (.v (.int .i64 p_.Within)), .d (.v (.int .i64 p_.Delete)), .d (.v (.bool p_.React)), .d (.v (.int .i64 p_.Thread)), .d (.v (.bool p_.Quote)), .d (.v (.bool p_.Mention)), .d (.v (.int .i64 p_.Size)), .d (.v (.int .i64 p_.Parts)), .d (.v (.int .i64 p_.Files)), .d (.v (.int .i64 p_.Bytes)), .d (.fz (List.map encS p_.Types)), .d (.v (.int .i64 p_.Join)), .d (.v (.int .i64 p_.History)), .d (.v (.int .i64 p_.Remove)), .d (.v (.int .i64 p_.Level)), .d (.v (.bool p_.Batch)), .d (.v (.int .i64 p_.Rate)), .d (.v (.int .i64 p_.Down)), .d (.v (.int .i64 p_.Window)), .d (.v (.int .i64 p_.Keep))]) _ rfl ?_
          refine R.one rfl ?_
          refine W.det (.d (.v (.int .i64 t_))) _ rfl ?_
          refine R.one rfl ?_
          refine W.det (.lp 2 1 20) _ rfl ?_
          refine R.one rfl ?_
          refine W.det (.d (.v (.int .i64 p_.Window))) _ rfl ?_
          refine R.one rfl ?_
          refine W.chk rfl (by simpa using g7) ?_
          refine W.det (.d (.v (.int .i64 (IntKind.i64.wrap (Int.tdiv t_ p_.Window))))) _ rfl ?_
          refine R.one rfl ?_
          refine W.det (.lp 2 1 20) _ rfl ?_
          refine R.one rfl ?_
          refine W.det (.d (.v (.int .i64 p_.Window))) _ rfl ?_
          refine R.one rfl ?_
          refine W.det (.lp 2 1 19) _ rfl ?_
          refine R.one rfl ?_
          refine W.det (.d (.v (.int .i64 p_.Down))) _ rfl ?_
          refine R.one rfl ?_
          refine W.det (.d (.v (.int .i64 (IntKind.i64.wrap (p_.Window - p_.Down))))) _ rfl ?_
          refine R.one rfl ?_
          refine W.det (.d (.v (.int .i64 (IntKind.i64.wrap ((IntKind.i64.wrap (Int.tdiv t_ p_.Window)) * (IntKind.i64.wrap (p_.Window - p_.Down))))))) _ rfl ?_
          refine R.one rfl ?_
          refine W.det (.d (.v (.int .i64 (Int.tmod t_ p_.Window)))) _ rfl ?_
          refine R.one rfl ?_
          refine W.det (.lp 2 1 19) _ rfl ?_
          refine R.one rfl ?_
          refine W.det (.d (.v (.int .i64 p_.Down))) _ rfl ?_
          refine R.one rfl ?_
          refine W.det (.d (.v (.int .i64 (IntKind.i64.wrap ((Int.tmod t_ p_.Window) - p_.Down))))) _ rfl ?_
          refine R.one rfl ?_
          refine W.det (.d (.v (.int .i64 (if (IntKind.i64.wrap ((Int.tmod t_ p_.Window) - p_.Down)) < (0 : Int) then (0 : Int) else (IntKind.i64.wrap ((Int.tmod t_ p_.Window) - p_.Down)))))) _ rfl ?_
          refine R.one rfl ?_
          refine W.det (.d (.v (.int .i64 (IntKind.i64.wrap ((IntKind.i64.wrap ((IntKind.i64.wrap (Int.tdiv t_ p_.Window)) * (IntKind.i64.wrap (p_.Window - p_.Down)))) + (if (IntKind.i64.wrap ((Int.tmod t_ p_.Window) - p_.Down)) < (0 : Int) then (0 : Int) else (IntKind.i64.wrap ((Int.tmod t_ p_.Window) - p_.Down)))))))) _ rfl ?_
          refine R.one rfl ?_
          refine bindK h fun y9 hy9 h => ?_
          refine W.call rfl (ref28_times_fn hy9) ?_
          refine W.det (.tup [.d (.v (.int .i64 y9.1)), .d (.v (.int .i64 y9.2))]) _ rfl ?_
          refine R.one rfl ?_
          refine W.det (.tup [.d (.v (.int .i64 y9.1)), .d (.v (.int .i64 y9.2))]) _ rfl ?_
          refine R.one rfl ?_
          refine W.det (.d (.v (.int .i64 y9.1))) _ rfl ?_
          refine R.one rfl ?_
          refine W.det (.d (.v (.int .i64 y9.2))) _ rfl ?_
          refine R.one rfl ?_
          refine W.det (.d (.v (.int .i64 y9.1))) _ rfl ?_
          refine R.one rfl ?_
          refine W.det (.d (.v (.int .i64 y9.2))) _ rfl ?_
          refine R.nil ?_
          refine seqK.n ?_
          refine A.seq rfl ?_
          refine A.region ?_
          refine R.one rfl ?_
          refine W.det (.d (.v (.int .i64 y9.1))) _ rfl ?_
          refine R.one rfl ?_
          refine W.det (.d (.v (.int .i64 y9.2))) _ rfl ?_
          refine R.one rfl ?_
          refine W.det (.d (.v (.int .i64 y9.1))) _ rfl ?_
          refine R.one rfl ?_
          refine W.det (.d (.v (.int .i64 y9.2))) _ rfl ?_
          refine R.nil ?_
          refine seqK.n ?_
          refine A.ret ?_
          injection h with h
          subst h
          cases hG
          exact ⟨rfl, rfl, trivial⟩
noncomputable def ref29_gives (p_ : api_Profile) (now_ : Int) (due_ : Int) : Option (Int) :=
  (bif (decide (due_ < now_)) then
    some (0 : Int)
  else
    (ref28_Least p_ (IntKind.i64.wrap (due_ - now_))).bind fun y1 =>
    (bif (y1.2 == (3 : Int)) then
      some (4503599627370496 : Int)
    else
      some y1.1))
theorem ref29_gives_fn {p_ : api_Profile} {now_ : Int} {due_ : Int} {r : Int} (h : ref29_gives p_ now_ due_ = some r) : Fn Try.prog 27 [.agg [.d (.v (.string p_.Name)), .d (.v (.int .i64 p_.Edit)), .d (.v (.int .i64 p_.Within)), .d (.v (.int .i64 p_.Delete)), .d (.v (.bool p_.React)), .d (.v (.int .i64 p_.Thread)), .d (.v (.bool p_.Quote)), .d (.v (.bool p_.Mention)), .d (.v (.int .i64 p_.Size)), .d (.v (.int .i64 p_.Parts)), .d (.v (.int .i64 p_.Files)), .d (.v (.int .i64 p_.Bytes)), .d (.fz (List.map encS p_.Types)), .d (.v (.int .i64 p_.Join)), .d (.v (.int .i64 p_.History)), .d (.v (.int .i64 p_.Remove)), .d (.v (.int .i64 p_.Level)), .d (.v (.bool p_.Batch)), .d (.v (.int .i64 p_.Rate)), .d (.v (.int .i64 p_.Down)), .d (.v (.int .i64 p_.Window)), .d (.v (.int .i64 p_.Keep))], .d (.v (.int .i64 now_)), .d (.v (.int .i64 due_))] (.d (.v (.int .i64 r))) := by
  refine Fn.of_AW (F := FnX Try.prog) (base := 0) (js := []) mixed tok noeqs (fun _ _ _ h => h) Try.call27 Try.func27 rfl Try.ntmps27 (by rw [Try.results27]) (by simp) ?_
  have hG : (fun x => x = r) r := rfl
  unfold ref29_gives at h
  refine A.seq rfl ?_
  refine A.region ?_
  refine R.one rfl ?_
  refine W.det (.lp 3 1 0) (Mem.add _ 3 (.box [.d (.v (.string p_.Name)), .d (.v (.int .i64 p_.Edit)), .d (.v (.int .i64 p_.Within)), .d (.v (.int .i64 p_.Delete)), .d (.v (.bool p_.React)), .d (.v (.int .i64 p_.Thread)), .d (.v (.bool p_.Quote)), .d (.v (.bool p_.Mention)), .d (.v (.int .i64 p_.Size)), .d (.v (.int .i64 p_.Parts)), .d (.v (.int .i64 p_.Files)), .d (.v (.int .i64 p_.Bytes)), .d (.fz (List.map encS p_.Types)), .d (.v (.int .i64 p_.Join)), .d (.v (.int .i64 p_.History)), .d (.v (.int .i64 p_.Remove)), .d (.v (.int .i64 p_.Level)), .d (.v (.bool p_.Batch)), .d (.v (.int .i64 p_.Rate)), .d (.v (.int .i64 p_.Down)), .d (.v (.int .i64 p_.Window)), .d (.v (.int .i64 p_.Keep))])) rfl ?_
  refine R.one rfl ?_
  refine W.det (.d (.v (.int .i64 (0 : Int)))) _ rfl ?_
  refine R.nil ?_
  refine seqK.n ?_
  refine A.seq rfl ?_
  refine A.seq rfl ?_
  refine A.region ?_
  refine R.one rfl ?_
  refine W.det (.d (.v (.int .i64 due_))) _ rfl ?_
  refine R.one rfl ?_
  refine W.det (.d (.v (.int .i64 now_))) _ rfl ?_
  refine R.one rfl ?_
  refine W.det (.d (.v (.bool (decide (due_ < now_))))) _ rfl ?_
  refine R.nil ?_
  refine seqK.n ?_
  refine A.condB rfl h (fun _ h => ?_) (fun _ h => ?_)
  · refine A.seq rfl ?_
    refine A.region ?_
    refine R.one rfl ?_
    refine W.det (.d (.v (.int .i64 (0 : Int)))) _ rfl ?_
    refine R.nil ?_
    refine seqK.n ?_
    refine A.ret ?_
    refine seqK.r ?_
    injection h with h
    subst h
    cases hG
    exact ⟨rfl, trivial⟩
  · refine A.skip ?_
    refine seqK.n ?_
    refine A.seq rfl ?_
    refine A.region ?_
    refine R.one rfl ?_
    refine W.det (.agg [.d (.v (.string p_.Name)), .d (.v (.int .i64 p_.Edit)), .d (.v (.int .i64 p_.Within)), .d (.v (.int .i64 p_.Delete)), .d (.v (.bool p_.React)), .d (.v (.int .i64 p_.Thread)), .d (.v (.bool p_.Quote)), .d (.v (.bool p_.Mention)), .d (.v (.int .i64 p_.Size)), .d (.v (.int .i64 p_.Parts)), .d (.v (.int .i64 p_.Files)), .d (.v (.int .i64 p_.Bytes)), .d (.fz (List.map encS p_.Types)), .d (.v (.int .i64 p_.Join)), .d (.v (.int .i64 p_.History)), .d (.v (.int .i64 p_.Remove)), .d (.v (.int .i64 p_.Level)), .d (.v (.bool p_.Batch)), .d (.v (.int .i64 p_.Rate)), .d (.v (.int .i64 p_.Down)), .d (.v (.int .i64 p_.Window)), .d (.v (.int .i64 p_.Keep))]) _ rfl ?_
    refine R.one rfl ?_
    refine W.det (.d (.v (.int .i64 due_))) _ rfl ?_
    refine R.one rfl ?_
    refine W.det (.d (.v (.int .i64 now_))) _ rfl ?_
    refine R.one rfl ?_
    refine W.det (.d (.v (.int .i64 (IntKind.i64.wrap (due_ - now_))))) _ rfl ?_
    refine R.one rfl ?_
    refine bindK h fun y1 hy1 h => ?_
    refine W.call rfl (ref28_Least_fn hy1) ?_
    refine W.det (.tup [.d (.v (.int .i64 y1.1)), .d (.v (.int .i64 y1.2))]) _ rfl ?_
    refine R.one rfl ?_
    refine W.det (.tup [.d (.v (.int .i64 y1.1)), .d (.v (.int .i64 y1.2))]) _ rfl ?_
    refine R.one rfl ?_
    refine W.det (.d (.v (.int .i64 y1.1))) _ rfl ?_
    refine R.one rfl ?_
    refine W.det (.d (.v (.int .i64 y1.2))) _ rfl ?_
    refine R.one rfl ?_
    refine W.det (.d (.v (.int .i64 y1.1))) _ rfl ?_
    refine R.one rfl ?_
    refine W.det (.d (.v (.int .i64 y1.2))) _ rfl ?_
    refine R.nil ?_
    refine seqK.n ?_
    refine A.seq rfl ?_
    refine A.seq rfl ?_
    refine A.region ?_
    refine R.one rfl ?_
    refine W.det (.d (.v (.int .i64 y1.2))) _ rfl ?_
    refine R.one rfl ?_
    refine W.det (.d (.v (.bool (y1.2 == (3 : Int))))) _ rfl ?_
    refine R.nil ?_
    refine seqK.n ?_
    refine A.condB rfl h (fun _ h => ?_) (fun _ h => ?_)
    · refine A.seq rfl ?_
      refine A.region ?_
      refine R.one rfl ?_
      refine W.det (.d (.v (.int .i64 (4503599627370496 : Int)))) _ rfl ?_
      refine R.nil ?_
      refine seqK.n ?_
      refine A.ret ?_
      refine seqK.r ?_
      injection h with h
      subst h
      cases hG
      exact ⟨rfl, trivial⟩
    · refine A.skip ?_
      refine seqK.n ?_
      refine A.seq rfl ?_
      refine A.region ?_
      refine R.one rfl ?_
      refine W.det (.d (.v (.int .i64 y1.1))) _ rfl ?_
      refine R.one rfl ?_
      refine W.det (.d (.v (.int .i64 y1.1))) _ rfl ?_
      refine R.nil ?_
      refine seqK.n ?_
      refine A.ret ?_
      injection h with h
      subst h
      cases hG
      exact ⟨rfl, trivial⟩
noncomputable def ref29_Plan_L1 (y3 : (List api_Job)) (p_ : api_Profile) (now_ : Int) (s3 : Int × Int × (List Int)) : Option ((Int × Int × (List Int)) ⊕ (((List Int)) ⊕ ((List Int) × Int × Int))) :=
  (bif (decide (s3.2.1 < ((y3.length : Nat) : Int))) then
    (chkO (decide (0 ≤ s3.2.1) && decide (s3.2.1 < ((y3.length : Nat) : Int)))).bind fun _ =>
    (getI y3 s3.2.1).bind fun x82 =>
    (ref29_gives p_ now_ x82.Due).bind fun y84 =>
    (bif (decide ((IntKind.i64.wrap (y84 - (IntKind.i64.wrap (s3.1 + x82.Size)))) < (0 : Int))) then
      some (.inr (.inr (([] : List Int), x82.Id, (16 : Int))))
    else
      (chkO (decide (s3.2.2.length + [(IntKind.i64.wrap (y84 - (IntKind.i64.wrap (s3.1 + x82.Size))))].length ≤ 1000000))).bind fun _ =>
      some (.inl ((IntKind.i64.wrap (s3.1 + x82.Size)), (IntKind.i64.wrap (s3.2.1 + (1 : Int))), (s3.2.2 ++ [(IntKind.i64.wrap (y84 - (IntKind.i64.wrap (s3.1 + x82.Size))))]))))
  else
    some (.inr (.inl s3.2.2)))
noncomputable def ref29_Plan (p_ : api_Profile) (jobs_ : (List api_Job)) (now_ : Int) : Option ((List Int) × Int × Int) :=
  (ref29_valid p_ jobs_ now_).bind fun y2 =>
  (bif (!y2) then
    some (([] : List Int), (-1 : Int), (1 : Int))
  else
    (ref29_Order jobs_).bind fun y3 =>
    (seqF (A := (List Int)) (
      loopF (ref29_Plan_L1 y3 p_ now_) ((0 : Int), (0 : Int), ([] : List Int)))
    fun s2 =>
      some (s2, (-1 : Int), (0 : Int))))
theorem ref29_Plan_fn {p_ : api_Profile} {jobs_ : (List api_Job)} {now_ : Int} {r : (List Int) × Int × Int} (h : ref29_Plan p_ jobs_ now_ = some r) : Fn Try.prog 12 [.agg [.d (.v (.string p_.Name)), .d (.v (.int .i64 p_.Edit)), .d (.v (.int .i64 p_.Within)), .d (.v (.int .i64 p_.Delete)), .d (.v (.bool p_.React)), .d (.v (.int .i64 p_.Thread)), .d (.v (.bool p_.Quote)), .d (.v (.bool p_.Mention)), .d (.v (.int .i64 p_.Size)), .d (.v (.int .i64 p_.Parts)), .d (.v (.int .i64 p_.Files)), .d (.v (.int .i64 p_.Bytes)), .d (.fz (List.map encS p_.Types)), .d (.v (.int .i64 p_.Join)), .d (.v (.int .i64 p_.History)), .d (.v (.int .i64 p_.Remove)), .d (.v (.int .i64 p_.Level)), .d (.v (.bool p_.Batch)), .d (.v (.int .i64 p_.Rate)), .d (.v (.int .i64 p_.Down)), .d (.v (.int .i64 p_.Window)), .d (.v (.int .i64 p_.Keep))], .d (.fz (List.map api_Job.enc jobs_)), .d (.v (.int .i64 now_))] (.tup [.ow 1 (List.map (encI .i64) r.1), .d (.v (.int .i64 r.2.1)), .d (.v (.int .i64 r.2.2))]) := by
  refine Fn.of_AW (F := FnX Try.prog) (base := 0) (js := [14]) mixed tok noeqs (fun _ _ _ h => h) Try.call12 Try.func12 rfl Try.ntmps12 (by rw [Try.results12]) (by simp) ?_
  have hG : (fun x => x = r) r := rfl
  unfold ref29_Plan at h
  refine A.seq rfl ?_
  refine A.region ?_
  refine R.one rfl ?_
  refine W.det (.lp 3 1 0) (Mem.add _ 3 (.box [.d (.v (.string p_.Name)), .d (.v (.int .i64 p_.Edit)), .d (.v (.int .i64 p_.Within)), .d (.v (.int .i64 p_.Delete)), .d (.v (.bool p_.React)), .d (.v (.int .i64 p_.Thread)), .d (.v (.bool p_.Quote)), .d (.v (.bool p_.Mention)), .d (.v (.int .i64 p_.Size)), .d (.v (.int .i64 p_.Parts)), .d (.v (.int .i64 p_.Files)), .d (.v (.int .i64 p_.Bytes)), .d (.fz (List.map encS p_.Types)), .d (.v (.int .i64 p_.Join)), .d (.v (.int .i64 p_.History)), .d (.v (.int .i64 p_.Remove)), .d (.v (.int .i64 p_.Level)), .d (.v (.bool p_.Batch)), .d (.v (.int .i64 p_.Rate)), .d (.v (.int .i64 p_.Down)), .d (.v (.int .i64 p_.Window)), .d (.v (.int .i64 p_.Keep))])) rfl ?_
  refine R.one rfl ?_
  refine W.det (.row 6 1 0) (Mem.add _ 6 (.rows 1 (List.map (encI .i64) ([] : List Int)) false)) rfl ?_
  refine R.one rfl ?_
  refine W.det (.d (.v (.int .i64 (0 : Int)))) _ rfl ?_
  refine R.one rfl ?_
  refine W.det (.d (.v (.int .i64 (0 : Int)))) _ rfl ?_
  refine R.nil ?_
  refine seqK.n ?_
  refine A.seq rfl ?_
  refine A.seq rfl ?_
  refine A.region ?_
  refine R.one rfl ?_
  refine W.det (.agg [.d (.v (.string p_.Name)), .d (.v (.int .i64 p_.Edit)), .d (.v (.int .i64 p_.Within)), .d (.v (.int .i64 p_.Delete)), .d (.v (.bool p_.React)), .d (.v (.int .i64 p_.Thread)), .d (.v (.bool p_.Quote)), .d (.v (.bool p_.Mention)), .d (.v (.int .i64 p_.Size)), .d (.v (.int .i64 p_.Parts)), .d (.v (.int .i64 p_.Files)), .d (.v (.int .i64 p_.Bytes)), .d (.fz (List.map encS p_.Types)), .d (.v (.int .i64 p_.Join)), .d (.v (.int .i64 p_.History)), .d (.v (.int .i64 p_.Remove)), .d (.v (.int .i64 p_.Level)), .d (.v (.bool p_.Batch)), .d (.v (.int .i64 p_.Rate)), .d (.v (.int .i64 p_.Down)), .d (.v (.int .i64 p_.Window)), .d (.v (.int .i64 p_.Keep))]) _ rfl ?_
  refine R.one rfl ?_
  refine W.det (.d (.fz (List.map api_Job.enc jobs_))) _ rfl ?_
  refine R.one rfl ?_
  refine W.det (.d (.v (.int .i64 now_))) _ rfl ?_
  refine R.one rfl ?_
  refine bindK h fun y2 hy2 h => ?_
  refine W.call rfl (ref29_valid_fn hy2) ?_
  refine W.det (.d (.v (.bool y2))) _ rfl ?_
  refine R.one rfl ?_
  refine W.det (.d (.v (.bool (!y2)))) _ rfl ?_
  refine R.nil ?_
  refine seqK.n ?_
  refine A.condB rfl h (fun _ h => ?_) (fun _ h => ?_)
  · refine A.seq rfl ?_
    refine A.region ?_
    refine R.one rfl ?_
    refine W.det (.row 6 2 0) (Mem.add _ 6 (.rows 1 (List.map (encI .i64) ([] : List Int)) false)) rfl ?_
    refine R.one rfl ?_
    refine W.det (.d (.v (.int .i64 (-1 : Int)))) _ rfl ?_
    refine R.one rfl ?_
    refine W.det (.d (.v (.int .i64 (1 : Int)))) _ rfl ?_
    refine R.nil ?_
    refine seqK.n ?_
    refine A.ret ?_
    refine seqK.r ?_
    injection h with h
    subst h
    cases hG
    exact ⟨rfl, rfl, rfl, rfl, trivial⟩
  · refine A.skip ?_
    refine seqK.n ?_
    refine A.seq rfl ?_
    refine A.region ?_
    refine R.one rfl ?_
    refine W.det (.d (.fz (List.map api_Job.enc jobs_))) _ rfl ?_
    refine R.one rfl ?_
    refine bindK h fun y3 hy3 h => ?_
    refine W.call rfl (ref29_Order_fn hy3) ?_
    refine W.v (.row 20 1 (List.map api_Job.enc y3).length) (.row 20 1 y3.length) (Mem.add _ 20 (.rows 3 (List.map api_Job.enc y3) false)) rfl (by simp only [List.length_map]) ?_
    refine R.one rfl ?_
    refine W.det (.row 20 1 y3.length) _ rfl ?_
    refine R.nil ?_
    refine seqK.n ?_
    refine A.seq rfl ?_
    refine A.region ?_
    refine R.one rfl ?_
    refine W.det (.row 10 1 0) (Mem.add _ 10 (.rows 1 (List.map (encI .i64) ([] : List Int)) false)) rfl ?_
    refine R.nil ?_
    refine seqK.n ?_
    refine A.seq rfl ?_
    refine A.region ?_
    refine R.one rfl ?_
    refine W.det (.d (.v (.int .i64 (0 : Int)))) _ rfl ?_
    refine R.nil ?_
    refine seqK.n ?_
    refine A.join (fun (s2 : (List Int)) => [(10, .row 900000 1 s2.length)]) (fun s2 => [(900000, .rows 1 (List.map (encI .i64) s2) false)]) _ h hG rfl ?_ ?_
    · intro J f h hG
      refine A.seq rfl ?_
      refine A.region ?_
      refine R.one rfl ?_
      refine W.det (.d (.v (.int .i64 (0 : Int)))) _ rfl ?_
      refine R.nil ?_
      refine seqK.n ?_
      refine A.block ?_
      refine A.loop (fun (s3 : Int × Int × (List Int)) => [(2, .d (.v (.int .i64 now_))), (3, .lp 900000 1 0), (9, .row 900001 1 y3.length), (10, .row 900002 1 s3.2.2.length), (11, .d (.v (.int .i64 s3.1))), (12, .d (.v (.int .i64 s3.2.1)))]) (fun s3 => [(900000, .box [.d (.v (.string p_.Name)), .d (.v (.int .i64 p_.Edit)), .d (.v (.int .i64 p_.Within)), .d (.v (.int .i64 p_.Delete)), .d (.v (.bool p_.React)), .d (.v (.int .i64 p_.Thread)), .d (.v (.bool p_.Quote)), .d (.v (.bool p_.Mention)), .d (.v (.int .i64 p_.Size)), .d (.v (.int .i64 p_.Parts)), .d (.v (.int .i64 p_.Files)), .d (.v (.int .i64 p_.Bytes)), .d (.fz (List.map encS p_.Types)), .d (.v (.int .i64 p_.Join)), .d (.v (.int .i64 p_.History)), .d (.v (.int .i64 p_.Remove)), .d (.v (.int .i64 p_.Level)), .d (.v (.bool p_.Batch)), .d (.v (.int .i64 p_.Rate)), .d (.v (.int .i64 p_.Down)), .d (.v (.int .i64 p_.Window)), .d (.v (.int .i64 p_.Keep))]), (900001, .rows 3 (List.map api_Job.enc y3) false), (900002, .rows 1 (List.map (encI .i64) s3.2.2) false)]) _ h hG (Enters.of [] [(900000, (3, 1)), (900001, (20, 1)), (900002, (10, 1))] _ rfl rfl (chkE.c rfl rfl (chkE.c rfl rfl (chkE.c rfl rfl (chkE.c rfl rfl (chkE.c rfl rfl (chkE.c rfl rfl trivial)))))) (chkM.c rfl rfl (chkM.c rfl rfl (chkM.c rfl rfl trivial)))) ?_
      intro J s3 f h hG
      unfold ref29_Plan_L1 at h
      refine A.seq rfl ?_
      refine A.seq rfl ?_
      refine A.region ?_
      refine R.one rfl ?_
      refine W.det (.d (.v (.int .i64 s3.2.1))) _ rfl ?_
      refine R.one rfl ?_
      refine W.det (.row 900001 1 y3.length) _ rfl ?_
      refine R.one rfl ?_
      refine W.det (.d (.v (.int .i64 ((y3.length : Nat) : Int)))) _ rfl ?_
      refine R.one rfl ?_
      refine W.det (.d (.v (.bool (decide (s3.2.1 < ((y3.length : Nat) : Int)))))) _ rfl ?_
      refine R.nil ?_
      refine seqK.n ?_
      refine A.condB rfl h (fun _ h => ?_) (fun _ h => ?_)
      · refine A.skip ?_
        refine seqK.n ?_
        refine A.seq rfl ?_
        refine A.block ?_
        refine A.seq rfl ?_
        refine A.region ?_
        refine R.one rfl ?_
        refine W.det (.d (.v (.int .i64 s3.1))) _ rfl ?_
        refine R.one rfl ?_
        refine W.det (.row 900001 1 y3.length) _ rfl ?_
        refine R.one rfl ?_
        refine W.det (.d (.v (.int .i64 s3.2.1))) _ rfl ?_
        refine R.one rfl ?_
        refine chkK h fun g81 h => ?_
        refine W.chk rfl (by simpa using g81) ?_
        refine W.det (.rp 900001 1 s3.2.1.toNat 0) _ rfl ?_
        refine R.one rfl ?_
        refine W.det (.rp 900001 1 s3.2.1.toNat 1) _ rfl ?_
        refine R.one rfl ?_
        refine bindK h fun x82 hx82 h => ?_
        refine W.elem rfl (elemG hx82) ?_
        refine W.det (.d (.v (.int .i64 x82.Size))) _ rfl ?_
        refine R.one rfl ?_
        refine W.det (.d (.v (.int .i64 (IntKind.i64.wrap (s3.1 + x82.Size))))) _ rfl ?_
        refine R.one rfl ?_
        refine W.det (.d (.v (.int .i64 (IntKind.i64.wrap (s3.1 + x82.Size))))) _ rfl ?_
        refine R.nil ?_
        refine seqK.n ?_
        refine A.seq rfl ?_
        refine A.regionD (by kernel_rfl) ?_
        refine R.one rfl ?_
        refine W.det (.agg [.d (.v (.string p_.Name)), .d (.v (.int .i64 p_.Edit)), .d (.v (.int .i64 p_.Within)), .d (.v (.int .i64 p_.Delete)), .d (.v (.bool p_.React)), .d (.v (.int .i64 p_.Thread)), .d (.v (.bool p_.Quote)), .d (.v (.bool p_.Mention)), .d (.v (.int .i64 p_.Size)), .d (.v (.int .i64 p_.Parts)), .d (.v (.int .i64 p_.Files)), .d (.v (.int .i64 p_.Bytes)), .d (.fz (List.map encS p_.Types)), .d (.v (.int .i64 p_.Join)), .d (.v (.int .i64 p_.History)), .d (.v (.int .i64 p_.Remove)), .d (.v (.int .i64 p_.Level)), .d (.v (.bool p_.Batch)), .d (.v (.int .i64 p_.Rate)), .d (.v (.int .i64 p_.Down)), .d (.v (.int .i64 p_.Window)), .d (.v (.int .i64 p_.Keep))]) _ rfl ?_
        refine R.one rfl ?_
        refine W.det (.d (.v (.int .i64 now_))) _ rfl ?_
        refine R.one rfl ?_
        refine W.det (.row 900001 1 y3.length) _ rfl ?_
        refine R.one rfl ?_
        refine W.det (.d (.v (.int .i64 s3.2.1))) _ rfl ?_
        refine R.one rfl ?_
        refine W.chk rfl (by simpa using g81) ?_
        refine W.det (.rp 900001 1 s3.2.1.toNat 0) _ rfl ?_
        refine R.one rfl ?_
        refine W.det (.rp 900001 1 s3.2.1.toNat 2) _ rfl ?_
        refine R.one rfl ?_
        refine W.elem rfl (elemG hx82) ?_
        refine W.det (.d (.v (.int .i64 x82.Due))) _ rfl ?_
        refine R.one rfl ?_
        refine bindK h fun y84 hy84 h => ?_
        refine W.call rfl (ref29_gives_fn hy84) ?_
        refine W.det (.d (.v (.int .i64 y84))) _ rfl ?_
        refine R.one rfl ?_
        refine W.det (.d (.v (.int .i64 (IntKind.i64.wrap (s3.1 + x82.Size))))) _ rfl ?_
        refine R.one rfl ?_
        refine W.det (.d (.v (.int .i64 (IntKind.i64.wrap (y84 - (IntKind.i64.wrap (s3.1 + x82.Size))))))) _ rfl ?_
        refine R.one rfl ?_
        refine W.det (.d (.v (.int .i64 (IntKind.i64.wrap (y84 - (IntKind.i64.wrap (s3.1 + x82.Size))))))) _ rfl ?_
        refine R.nil ?_
        refine seqK.n ?_
        refine A.seq rfl ?_
        refine A.seq rfl ?_
        refine A.region ?_
        refine R.one rfl ?_
        refine W.det (.d (.v (.int .i64 (IntKind.i64.wrap (y84 - (IntKind.i64.wrap (s3.1 + x82.Size))))))) _ rfl ?_
        refine R.one rfl ?_
        refine W.det (.d (.v (.bool (decide ((IntKind.i64.wrap (y84 - (IntKind.i64.wrap (s3.1 + x82.Size)))) < (0 : Int)))))) _ rfl ?_
        refine R.nil ?_
        refine seqK.n ?_
        refine A.condB rfl h (fun _ h => ?_) (fun _ h => ?_)
        · refine A.seq rfl ?_
          refine A.regionD (by kernel_rfl) ?_
          refine R.one rfl ?_
          refine W.det (.row 900001 1 y3.length) _ rfl ?_
          refine R.one rfl ?_
          refine W.det (.d (.v (.int .i64 s3.2.1))) _ rfl ?_
          refine R.one rfl ?_
          refine W.chk rfl (by simpa using g81) ?_
          refine W.det (.rp 900001 1 s3.2.1.toNat 0) _ rfl ?_
          refine R.one rfl ?_
          refine W.det (.rp 900001 1 s3.2.1.toNat 0) _ rfl ?_
          refine R.one rfl ?_
          refine W.elem rfl (elemG hx82) ?_
          refine W.det (.d (.v (.int .i64 x82.Id))) _ rfl ?_
          refine R.one rfl ?_
          refine W.det (.row 6 2 0) (Mem.add _ 6 (.rows 1 (List.map (encI .i64) ([] : List Int)) false)) rfl ?_
          refine R.one rfl ?_
          refine W.det (.d (.v (.int .i64 x82.Id))) _ rfl ?_
          refine R.one rfl ?_
          refine W.det (.d (.v (.int .i64 (16 : Int)))) _ rfl ?_
          refine R.nil ?_
          refine seqK.n ?_
          refine A.ret ?_
          refine seqK.r ?_
          refine blockK.r ?_
          refine seqK.r ?_
          refine headK.r ?_
          refine blockK.r ?_
          refine headK.r ?_
          injection h with h
          subst h
          cases hG
          exact ⟨rfl, rfl, rfl, rfl, trivial⟩
        · refine A.skip ?_
          refine seqK.n ?_
          refine A.region ?_
          refine R.one rfl ?_
          refine W.det (.row 900002 1 s3.2.2.length) _ rfl ?_
          refine R.one rfl ?_
          refine W.det (.d (.v (.int .i64 (IntKind.i64.wrap (y84 - (IntKind.i64.wrap (s3.1 + x82.Size))))))) _ rfl ?_
          refine R.one rfl ?_
          refine W.det (.row 53 2 1) (Mem.add _ 53 (.rows 1 (List.map (encI .i64) [(IntKind.i64.wrap (y84 - (IntKind.i64.wrap (s3.1 + x82.Size))))]) false)) rfl ?_
          refine R.one rfl ?_
          refine chkK h fun g87 h => ?_
          refine W.chk rfl (appChk (fun _ => rfl) g87) ?_
          refine W.app rfl rfl ?_
          refine R.one rfl ?_
          refine W.det (.row 900002 2 (s3.2.2 ++ [(IntKind.i64.wrap (y84 - (IntKind.i64.wrap (s3.1 + x82.Size))))]).length) _ rfl ?_
          refine R.nil ?_
          refine blockK.n ?_
          refine seqK.n ?_
          refine A.region ?_
          refine R.one rfl ?_
          refine W.det (.d (.v (.int .i64 s3.2.1))) _ rfl ?_
          refine R.one rfl ?_
          refine W.det (.d (.v (.int .i64 (IntKind.i64.wrap (s3.2.1 + (1 : Int)))))) _ rfl ?_
          refine R.one rfl ?_
          refine W.det (.d (.v (.int .i64 (IntKind.i64.wrap (s3.2.1 + (1 : Int)))))) _ rfl ?_
          refine R.nil ?_
          injection h with h
          subst h
          exact headK.n hG (Enters.of [] [(900000, (900000, 1)), (900001, (900001, 1)), (900002, (900002, 2))] _ rfl rfl (chkE.c rfl rfl (chkE.c rfl rfl (chkE.c rfl rfl (chkE.c rfl rfl (chkE.c rfl rfl (chkE.c rfl rfl trivial)))))) (chkM.c rfl rfl (chkM.c rfl rfl (chkM.c rfl rfl trivial))))
      · refine A.exit ?_
        refine seqK.e ?_
        refine headK.e ?_
        refine blockK.x ?_
        injection h with h
        subst h
        exact headK.n hG (Enters.of [] [(900000, (900002, 1))] _ rfl rfl (chkE.c rfl rfl trivial) (chkM.c rfl rfl trivial))
    · intro s2 r2 h hG
      refine A.seq rfl ?_
      refine A.region ?_
      refine R.one rfl ?_
      refine W.det (.row 900000 1 s2.length) _ rfl ?_
      refine R.one rfl ?_
      refine W.det (.row 900000 1 s2.length) _ rfl ?_
      refine R.one rfl ?_
      refine W.det (.d (.v (.int .i64 (-1 : Int)))) _ rfl ?_
      refine R.one rfl ?_
      refine W.det (.d (.v (.int .i64 (0 : Int)))) _ rfl ?_
      refine R.nil ?_
      refine seqK.n ?_
      refine A.ret ?_
      injection h with h
      subst h
      cases hG
      exact ⟨rfl, rfl, rfl, rfl, trivial⟩
noncomputable def ref29_Check_L1 (y3 : (List api_Job)) (slack_ : (List Int)) (p_ : api_Profile) (now_ : Int) (s3 : Int × Int) : Option ((Int × Int) ⊕ ((Unit) ⊕ (Int))) :=
  (bif (decide (s3.2 < ((y3.length : Nat) : Int))) then
    (chkO (decide (0 ≤ s3.2) && decide (s3.2 < ((y3.length : Nat) : Int)))).bind fun _ =>
    (getI y3 s3.2).bind fun x93 =>
    (getI slack_ s3.2).bind fun x97 =>
    (bif (decide (x97 < (0 : Int))) then
      some (.inr (.inr (18 : Int)))
    else
      (ref29_gives p_ now_ x93.Due).bind fun y99 =>
      (bif (decide ((IntKind.i64.wrap (y99 - (IntKind.i64.wrap (s3.1 + x93.Size)))) < x97)) then
        some (.inr (.inr (18 : Int)))
      else
        some (.inl ((IntKind.i64.wrap (s3.1 + x93.Size)), (IntKind.i64.wrap (s3.2 + (1 : Int)))))))
  else
    some (.inr (.inl ())))
noncomputable def ref29_Check (p_ : api_Profile) (jobs_ : (List api_Job)) (now_ : Int) (slack_ : (List Int)) : Option (Int) :=
  (ref29_valid p_ jobs_ now_).bind fun y2 =>
  (bif (!y2) then
    some (1 : Int)
  else
    (bif ((slack_.length : Int) != (jobs_.length : Int)) then
      some (18 : Int)
    else
      (ref29_Order jobs_).bind fun y3 =>
      (seqF (A := Unit) (
        loopF (ref29_Check_L1 y3 slack_ p_ now_) ((0 : Int), (0 : Int)))
      fun s2 =>
        some (0 : Int))))
theorem ref29_Check_fn {p_ : api_Profile} {jobs_ : (List api_Job)} {now_ : Int} {slack_ : (List Int)} {r : Int} (h : ref29_Check p_ jobs_ now_ slack_ = some r) : Fn Try.prog 15 [.agg [.d (.v (.string p_.Name)), .d (.v (.int .i64 p_.Edit)), .d (.v (.int .i64 p_.Within)), .d (.v (.int .i64 p_.Delete)), .d (.v (.bool p_.React)), .d (.v (.int .i64 p_.Thread)), .d (.v (.bool p_.Quote)), .d (.v (.bool p_.Mention)), .d (.v (.int .i64 p_.Size)), .d (.v (.int .i64 p_.Parts)), .d (.v (.int .i64 p_.Files)), .d (.v (.int .i64 p_.Bytes)), .d (.fz (List.map encS p_.Types)), .d (.v (.int .i64 p_.Join)), .d (.v (.int .i64 p_.History)), .d (.v (.int .i64 p_.Remove)), .d (.v (.int .i64 p_.Level)), .d (.v (.bool p_.Batch)), .d (.v (.int .i64 p_.Rate)), .d (.v (.int .i64 p_.Down)), .d (.v (.int .i64 p_.Window)), .d (.v (.int .i64 p_.Keep))], .d (.fz (List.map api_Job.enc jobs_)), .d (.v (.int .i64 now_)), .d (.fz (List.map (encI .i64) slack_))] (.d (.v (.int .i64 r))) := by
  refine Fn.of_AW (F := FnX Try.prog) (base := 0) (js := [13]) mixed tok noeqs (fun _ _ _ h => h) Try.call15 Try.func15 rfl Try.ntmps15 (by rw [Try.results15]) (by simp) ?_
  have hG : (fun x => x = r) r := rfl
  unfold ref29_Check at h
  refine A.seq rfl ?_
  refine A.region ?_
  refine R.one rfl ?_
  refine W.det (.lp 4 1 0) (Mem.add _ 4 (.box [.d (.v (.string p_.Name)), .d (.v (.int .i64 p_.Edit)), .d (.v (.int .i64 p_.Within)), .d (.v (.int .i64 p_.Delete)), .d (.v (.bool p_.React)), .d (.v (.int .i64 p_.Thread)), .d (.v (.bool p_.Quote)), .d (.v (.bool p_.Mention)), .d (.v (.int .i64 p_.Size)), .d (.v (.int .i64 p_.Parts)), .d (.v (.int .i64 p_.Files)), .d (.v (.int .i64 p_.Bytes)), .d (.fz (List.map encS p_.Types)), .d (.v (.int .i64 p_.Join)), .d (.v (.int .i64 p_.History)), .d (.v (.int .i64 p_.Remove)), .d (.v (.int .i64 p_.Level)), .d (.v (.bool p_.Batch)), .d (.v (.int .i64 p_.Rate)), .d (.v (.int .i64 p_.Down)), .d (.v (.int .i64 p_.Window)), .d (.v (.int .i64 p_.Keep))])) rfl ?_
  refine R.one rfl ?_
  refine W.det (.d (.v (.int .i64 (0 : Int)))) _ rfl ?_
  refine R.nil ?_
  refine seqK.n ?_
  refine A.seq rfl ?_
  refine A.seq rfl ?_
  refine A.region ?_
  refine R.one rfl ?_
  refine W.det (.agg [.d (.v (.string p_.Name)), .d (.v (.int .i64 p_.Edit)), .d (.v (.int .i64 p_.Within)), .d (.v (.int .i64 p_.Delete)), .d (.v (.bool p_.React)), .d (.v (.int .i64 p_.Thread)), .d (.v (.bool p_.Quote)), .d (.v (.bool p_.Mention)), .d (.v (.int .i64 p_.Size)), .d (.v (.int .i64 p_.Parts)), .d (.v (.int .i64 p_.Files)), .d (.v (.int .i64 p_.Bytes)), .d (.fz (List.map encS p_.Types)), .d (.v (.int .i64 p_.Join)), .d (.v (.int .i64 p_.History)), .d (.v (.int .i64 p_.Remove)), .d (.v (.int .i64 p_.Level)), .d (.v (.bool p_.Batch)), .d (.v (.int .i64 p_.Rate)), .d (.v (.int .i64 p_.Down)), .d (.v (.int .i64 p_.Window)), .d (.v (.int .i64 p_.Keep))]) _ rfl ?_
  refine R.one rfl ?_
  refine W.det (.d (.fz (List.map api_Job.enc jobs_))) _ rfl ?_
  refine R.one rfl ?_
  refine W.det (.d (.v (.int .i64 now_))) _ rfl ?_
  refine R.one rfl ?_
  refine bindK h fun y2 hy2 h => ?_
  refine W.call rfl (ref29_valid_fn hy2) ?_
  refine W.det (.d (.v (.bool y2))) _ rfl ?_
  refine R.one rfl ?_
  refine W.det (.d (.v (.bool (!y2)))) _ rfl ?_
  refine R.nil ?_
  refine seqK.n ?_
  refine A.condB rfl h (fun _ h => ?_) (fun _ h => ?_)
  · refine A.seq rfl ?_
    refine A.region ?_
    refine R.one rfl ?_
    refine W.det (.d (.v (.int .i64 (1 : Int)))) _ rfl ?_
    refine R.nil ?_
    refine seqK.n ?_
    refine A.ret ?_
    refine seqK.r ?_
    injection h with h
    subst h
    cases hG
    exact ⟨rfl, trivial⟩
  · refine A.skip ?_
    refine seqK.n ?_
    refine A.seq rfl ?_
    refine A.seq rfl ?_
    refine A.region ?_
    refine R.one rfl ?_
    refine W.det (.d (.fz (List.map (encI .i64) slack_))) _ rfl ?_
    refine R.one rfl ?_
    refine W.len rfl ?_
    refine R.one rfl ?_
    refine W.det (.d (.fz (List.map api_Job.enc jobs_))) _ rfl ?_
    refine R.one rfl ?_
    refine W.len rfl ?_
    refine R.one rfl ?_
    refine W.det (.d (.v (.bool ((slack_.length : Int) != (jobs_.length : Int))))) _ rfl ?_
    refine R.nil ?_
    refine seqK.n ?_
    refine A.condB rfl h (fun _ h => ?_) (fun _ h => ?_)
    · refine A.seq rfl ?_
      refine A.region ?_
      refine R.one rfl ?_
      refine W.det (.d (.v (.int .i64 (18 : Int)))) _ rfl ?_
      refine R.nil ?_
      refine seqK.n ?_
      refine A.ret ?_
      refine seqK.r ?_
      injection h with h
      subst h
      cases hG
      exact ⟨rfl, trivial⟩
    · refine A.skip ?_
      refine seqK.n ?_
      refine A.seq rfl ?_
      refine A.region ?_
      refine R.one rfl ?_
      refine W.det (.d (.fz (List.map api_Job.enc jobs_))) _ rfl ?_
      refine R.one rfl ?_
      refine bindK h fun y3 hy3 h => ?_
      refine W.call rfl (ref29_Order_fn hy3) ?_
      refine W.v (.row 23 1 (List.map api_Job.enc y3).length) (.row 23 1 y3.length) (Mem.add _ 23 (.rows 3 (List.map api_Job.enc y3) false)) rfl (by simp only [List.length_map]) ?_
      refine R.one rfl ?_
      refine W.det (.row 23 1 y3.length) _ rfl ?_
      refine R.nil ?_
      refine seqK.n ?_
      refine A.seq rfl ?_
      refine A.region ?_
      refine R.one rfl ?_
      refine W.det (.d (.v (.int .i64 (0 : Int)))) _ rfl ?_
      refine R.nil ?_
      refine seqK.n ?_
      refine A.join (fun (s2 : Unit) => []) (fun s2 => []) _ h hG rfl ?_ ?_
      · intro J f h hG
        refine A.seq rfl ?_
        refine A.region ?_
        refine R.one rfl ?_
        refine W.det (.d (.v (.int .i64 (0 : Int)))) _ rfl ?_
        refine R.nil ?_
        refine seqK.n ?_
        refine A.block ?_
        refine A.loop (fun (s3 : Int × Int) => [(2, .d (.v (.int .i64 now_))), (3, .d (.fz (List.map (encI .i64) slack_))), (4, .lp 900000 1 0), (9, .row 900001 1 y3.length), (10, .d (.v (.int .i64 s3.1))), (11, .d (.v (.int .i64 s3.2)))]) (fun s3 => [(900000, .box [.d (.v (.string p_.Name)), .d (.v (.int .i64 p_.Edit)), .d (.v (.int .i64 p_.Within)), .d (.v (.int .i64 p_.Delete)), .d (.v (.bool p_.React)), .d (.v (.int .i64 p_.Thread)), .d (.v (.bool p_.Quote)), .d (.v (.bool p_.Mention)), .d (.v (.int .i64 p_.Size)), .d (.v (.int .i64 p_.Parts)), .d (.v (.int .i64 p_.Files)), .d (.v (.int .i64 p_.Bytes)), .d (.fz (List.map encS p_.Types)), .d (.v (.int .i64 p_.Join)), .d (.v (.int .i64 p_.History)), .d (.v (.int .i64 p_.Remove)), .d (.v (.int .i64 p_.Level)), .d (.v (.bool p_.Batch)), .d (.v (.int .i64 p_.Rate)), .d (.v (.int .i64 p_.Down)), .d (.v (.int .i64 p_.Window)), .d (.v (.int .i64 p_.Keep))]), (900001, .rows 3 (List.map api_Job.enc y3) false)]) _ h hG (Enters.of [] [(900000, (4, 1)), (900001, (23, 1))] _ rfl rfl (chkE.c rfl rfl (chkE.c rfl rfl (chkE.c rfl rfl (chkE.c rfl rfl (chkE.c rfl rfl (chkE.c rfl rfl trivial)))))) (chkM.c rfl rfl (chkM.c rfl rfl trivial))) ?_
        intro J s3 f h hG
        unfold ref29_Check_L1 at h
        refine A.seq rfl ?_
        refine A.seq rfl ?_
        refine A.region ?_
        refine R.one rfl ?_
        refine W.det (.d (.v (.int .i64 s3.2))) _ rfl ?_
        refine R.one rfl ?_
        refine W.det (.row 900001 1 y3.length) _ rfl ?_
        refine R.one rfl ?_
        refine W.det (.d (.v (.int .i64 ((y3.length : Nat) : Int)))) _ rfl ?_
        refine R.one rfl ?_
        refine W.det (.d (.v (.bool (decide (s3.2 < ((y3.length : Nat) : Int)))))) _ rfl ?_
        refine R.nil ?_
        refine seqK.n ?_
        refine A.condB rfl h (fun _ h => ?_) (fun _ h => ?_)
        · refine A.skip ?_
          refine seqK.n ?_
          refine A.seq rfl ?_
          refine A.block ?_
          refine A.seq rfl ?_
          refine A.region ?_
          refine R.one rfl ?_
          refine W.det (.d (.v (.int .i64 s3.1))) _ rfl ?_
          refine R.one rfl ?_
          refine W.det (.row 900001 1 y3.length) _ rfl ?_
          refine R.one rfl ?_
          refine W.det (.d (.v (.int .i64 s3.2))) _ rfl ?_
          refine R.one rfl ?_
          refine chkK h fun g92 h => ?_
          refine W.chk rfl (by simpa using g92) ?_
          refine W.det (.rp 900001 1 s3.2.toNat 0) _ rfl ?_
          refine R.one rfl ?_
          refine W.det (.rp 900001 1 s3.2.toNat 1) _ rfl ?_
          refine R.one rfl ?_
          refine bindK h fun x93 hx93 h => ?_
          refine W.elem rfl (elemG hx93) ?_
          refine W.det (.d (.v (.int .i64 x93.Size))) _ rfl ?_
          refine R.one rfl ?_
          refine W.det (.d (.v (.int .i64 (IntKind.i64.wrap (s3.1 + x93.Size))))) _ rfl ?_
          refine R.one rfl ?_
          refine W.det (.d (.v (.int .i64 (IntKind.i64.wrap (s3.1 + x93.Size))))) _ rfl ?_
          refine R.nil ?_
          refine seqK.n ?_
          refine A.seq rfl ?_
          refine A.regionD (by kernel_rfl) ?_
          refine R.one rfl ?_
          refine W.det (.d (.fz (List.map (encI .i64) slack_))) _ rfl ?_
          refine R.one rfl ?_
          refine W.det (.d (.v (.int .i64 s3.2))) _ rfl ?_
          refine R.one rfl ?_
          refine bindK h fun x97 hx97 h => ?_
          refine W.chk rfl (elemB hx97) ?_
          refine W.elem rfl (elemG hx97) ?_
          refine W.chk rfl rfl ?_
          refine W.det (.fp [.v (.int .i64 x97)]) _ rfl ?_
          refine R.one rfl ?_
          refine W.det (.d (.v (.int .i64 x97))) _ rfl ?_
          refine R.one rfl ?_
          refine W.det (.d (.v (.bool (decide (x97 < (0 : Int)))))) _ rfl ?_
          refine R.one rfl ?_
          refine W.det (.d (.v (.bool (decide (x97 < (0 : Int)))))) _ rfl ?_
          refine R.gF rfl rfl rfl h (fun _ h => ?_) (fun _ h => ?_)
          · refine R.skip rfl rfl rfl ?_
            refine R.skip rfl rfl rfl ?_
            refine R.skip rfl rfl rfl ?_
            refine R.skip rfl rfl rfl ?_
            refine R.skip rfl rfl rfl ?_
            refine R.skip rfl rfl rfl ?_
            refine R.skip rfl rfl rfl ?_
            refine R.skip rfl rfl rfl ?_
            refine R.skip rfl rfl rfl ?_
            refine R.skip rfl rfl rfl ?_
            refine R.skip rfl rfl rfl ?_
            refine R.skip rfl rfl rfl ?_
            refine R.skip rfl rfl rfl ?_
            refine R.skip rfl rfl rfl ?_
            refine R.one rfl ?_
            refine W.det (.kb true) _ rfl ?_
            refine R.nil ?_
            refine seqK.n ?_
            refine A.condT rfl ?_
            refine A.seq rfl ?_
            refine A.region ?_
            refine R.one rfl ?_
            refine W.det (.d (.v (.int .i64 (18 : Int)))) _ rfl ?_
            refine R.nil ?_
            refine seqK.n ?_
            refine A.ret ?_
            refine blockK.r ?_
            refine seqK.r ?_
            refine headK.r ?_
            refine blockK.r ?_
            refine headK.r ?_
            injection h with h
            subst h
            cases hG
            exact ⟨rfl, trivial⟩
          · refine W.det (.d (.fz (List.map (encI .i64) slack_))) _ rfl ?_
            refine R.run rfl rfl rfl ?_
            refine W.det (.d (.v (.int .i64 s3.2))) _ rfl ?_
            refine R.run rfl rfl rfl ?_
            refine W.chk rfl (elemB hx97) ?_
            refine W.elem rfl (elemG hx97) ?_
            refine W.chk rfl rfl ?_
            refine W.det (.fp [.v (.int .i64 x97)]) _ rfl ?_
            refine R.run rfl rfl rfl ?_
            refine W.det (.d (.v (.int .i64 x97))) _ rfl ?_
            refine R.run rfl rfl rfl ?_
            refine W.det (.agg [.d (.v (.string p_.Name)), .d (.v (.int .i64 p_.Edit)), .d (.v (.int .i64 p_.Within)), .d (.v (.int .i64 p_.Delete)), .d (.v (.bool p_.React)), .d (.v (.int .i64 p_.Thread)), .d (.v (.bool p_.Quote)), .d (.v (.bool p_.Mention)), .d (.v (.int .i64 p_.Size)), .d (.v (.int .i64 p_.Parts)), .d (.v (.int .i64 p_.Files)), .d (.v (.int .i64 p_.Bytes)), .d (.fz (List.map encS p_.Types)), .d (.v (.int .i64 p_.Join)), .d (.v (.int .i64 p_.History)), .d (.v (.int .i64 p_.Remove)), .d (.v (.int .i64 p_.Level)), .d (.v (.bool p_.Batch)), .d (.v (.int .i64 p_.Rate)), .d (.v (.int .i64 p_.Down)), .d (.v (.int .i64 p_.Window)), .d (.v (.int .i64 p_.Keep))]) _ rfl ?_
            refine R.run rfl rfl rfl ?_
            refine W.det (.d (.v (.int .i64 now_))) _ rfl ?_
            refine R.run rfl rfl rfl ?_
            refine W.det (.row 900001 1 y3.length) _ rfl ?_
            refine R.run rfl rfl rfl ?_
            refine W.det (.d (.v (.int .i64 s3.2))) _ rfl ?_
            refine R.run rfl rfl rfl ?_
            refine W.chk rfl (by simpa using g92) ?_
            refine W.det (.rp 900001 1 s3.2.toNat 0) _ rfl ?_
            refine R.run rfl rfl rfl ?_
            refine W.det (.rp 900001 1 s3.2.toNat 2) _ rfl ?_
            refine R.run rfl rfl rfl ?_
            refine W.elem rfl (elemG hx93) ?_
            refine W.det (.d (.v (.int .i64 x93.Due))) _ rfl ?_
            refine R.run rfl rfl rfl ?_
            refine bindK h fun y99 hy99 h => ?_
            refine W.call rfl (ref29_gives_fn hy99) ?_
            refine W.det (.d (.v (.int .i64 y99))) _ rfl ?_
            refine R.run rfl rfl rfl ?_
            refine W.det (.d (.v (.int .i64 (IntKind.i64.wrap (s3.1 + x93.Size))))) _ rfl ?_
            refine R.run rfl rfl rfl ?_
            refine W.det (.d (.v (.int .i64 (IntKind.i64.wrap (y99 - (IntKind.i64.wrap (s3.1 + x93.Size))))))) _ rfl ?_
            refine R.run rfl rfl rfl ?_
            refine W.det (.d (.v (.bool (decide ((IntKind.i64.wrap (y99 - (IntKind.i64.wrap (s3.1 + x93.Size)))) < x97))))) _ rfl ?_
            refine R.one rfl ?_
            refine W.det (.d (.v (.bool (decide ((IntKind.i64.wrap (y99 - (IntKind.i64.wrap (s3.1 + x93.Size)))) < x97))))) _ rfl ?_
            refine R.nil ?_
            refine seqK.n ?_
            refine A.condB rfl h (fun _ h => ?_) (fun _ h => ?_)
            · refine A.seq rfl ?_
              refine A.region ?_
              refine R.one rfl ?_
              refine W.det (.d (.v (.int .i64 (18 : Int)))) _ rfl ?_
              refine R.nil ?_
              refine seqK.n ?_
              refine A.ret ?_
              refine blockK.r ?_
              refine seqK.r ?_
              refine headK.r ?_
              refine blockK.r ?_
              refine headK.r ?_
              injection h with h
              subst h
              cases hG
              exact ⟨rfl, trivial⟩
            · refine A.skip ?_
              refine blockK.n ?_
              refine seqK.n ?_
              refine A.region ?_
              refine R.one rfl ?_
              refine W.det (.d (.v (.int .i64 s3.2))) _ rfl ?_
              refine R.one rfl ?_
              refine W.det (.d (.v (.int .i64 (IntKind.i64.wrap (s3.2 + (1 : Int)))))) _ rfl ?_
              refine R.one rfl ?_
              refine W.det (.d (.v (.int .i64 (IntKind.i64.wrap (s3.2 + (1 : Int)))))) _ rfl ?_
              refine R.nil ?_
              injection h with h
              subst h
              exact headK.n hG (Enters.of [] [(900000, (900000, 1)), (900001, (900001, 1))] _ rfl rfl (chkE.c rfl rfl (chkE.c rfl rfl (chkE.c rfl rfl (chkE.c rfl rfl (chkE.c rfl rfl (chkE.c rfl rfl trivial)))))) (chkM.c rfl rfl (chkM.c rfl rfl trivial)))
        · refine A.exit ?_
          refine seqK.e ?_
          refine headK.e ?_
          refine blockK.x ?_
          injection h with h
          subst h
          exact headK.n hG (Enters.of [] [] _ rfl rfl trivial trivial)
      · intro s2 r2 h hG
        refine A.seq rfl ?_
        refine A.region ?_
        refine R.one rfl ?_
        refine W.det (.d (.v (.int .i64 (0 : Int)))) _ rfl ?_
        refine R.nil ?_
        refine seqK.n ?_
        refine A.ret ?_
        injection h with h
        subst h
        cases hG
        exact ⟨rfl, trivial⟩
noncomputable def ref29_Room_L1 (y2 : (List api_Job)) (p3_ : Int) (y1 : (List Int) × Int × Int) (s3 : Int × Int × Int) : Option ((Int × Int × Int) ⊕ ((Int × Int) ⊕ (Int))) :=
  (bif (decide (s3.2.2 < ((y2.length : Nat) : Int))) then
    (chkO (decide (0 ≤ s3.2.2) && decide (s3.2.2 < ((y2.length : Nat) : Int)))).bind fun _ =>
    (getI y2 s3.2.2).bind fun x59 =>
    (bif (decide (x59.Due ≤ p3_)) then
      some (.inl ((IntKind.i64.wrap (s3.1 + x59.Size)), s3.2.1, (IntKind.i64.wrap (s3.2.2 + (1 : Int)))))
    else
      (chkO (decide (0 ≤ s3.2.2) && decide (s3.2.2 < ((y1.1.length : Nat) : Int)))).bind fun _ =>
      (getI y1.1 s3.2.2).bind fun x62 =>
      some (.inl (s3.1, (if x62 < s3.2.1 then x62 else s3.2.1), (IntKind.i64.wrap (s3.2.2 + (1 : Int))))))
  else
    some (.inr (.inl (s3.1, s3.2.1))))
noncomputable def ref29_Room (p_ : api_Profile) (p1_ : (List api_Job)) (p2_ : Int) (p3_ : Int) : Option (Int) :=
  (ref29_Plan p_ p1_ p2_).bind fun y1 =>
  (bif (y1.2.2 != (0 : Int)) then
    some (0 : Int)
  else
    (bif (decide (p3_ < (0 : Int))) then
      some (0 : Int)
    else
      (bif (decide ((1073741824 : Int) < p3_)) then
        some (0 : Int)
      else
        (bif (decide ((1000 : Int) ≤ (p1_.length : Int))) then
          some (0 : Int)
        else
          (ref29_Order p1_).bind fun y2 =>
          (seqF (A := Int × Int) (
            loopF (ref29_Room_L1 y2 p3_ y1) ((0 : Int), (1099511627776 : Int), (0 : Int)))
          fun s2 =>
            (ref29_gives p_ p2_ p3_).bind fun y63 =>
            some (if (0 : Int) < (if (IntKind.i64.wrap (y63 - s2.1)) < s2.2 then (IntKind.i64.wrap (y63 - s2.1)) else s2.2) then (if (IntKind.i64.wrap (y63 - s2.1)) < s2.2 then (IntKind.i64.wrap (y63 - s2.1)) else s2.2) else (0 : Int)))))))
theorem ref29_Room_fn {p_ : api_Profile} {p1_ : (List api_Job)} {p2_ : Int} {p3_ : Int} {r : Int} (h : ref29_Room p_ p1_ p2_ p3_ = some r) : Fn Try.prog 17 [.agg [.d (.v (.string p_.Name)), .d (.v (.int .i64 p_.Edit)), .d (.v (.int .i64 p_.Within)), .d (.v (.int .i64 p_.Delete)), .d (.v (.bool p_.React)), .d (.v (.int .i64 p_.Thread)), .d (.v (.bool p_.Quote)), .d (.v (.bool p_.Mention)), .d (.v (.int .i64 p_.Size)), .d (.v (.int .i64 p_.Parts)), .d (.v (.int .i64 p_.Files)), .d (.v (.int .i64 p_.Bytes)), .d (.fz (List.map encS p_.Types)), .d (.v (.int .i64 p_.Join)), .d (.v (.int .i64 p_.History)), .d (.v (.int .i64 p_.Remove)), .d (.v (.int .i64 p_.Level)), .d (.v (.bool p_.Batch)), .d (.v (.int .i64 p_.Rate)), .d (.v (.int .i64 p_.Down)), .d (.v (.int .i64 p_.Window)), .d (.v (.int .i64 p_.Keep))], .d (.fz (List.map api_Job.enc p1_)), .d (.v (.int .i64 p2_)), .d (.v (.int .i64 p3_))] (.d (.v (.int .i64 r))) := by
  refine Fn.of_AW (F := FnX Try.prog) (base := 0) (js := [13]) mixed tok noeqs (fun _ _ _ h => h) Try.call17 Try.func17 rfl Try.ntmps17 (by rw [Try.results17]) (by simp) ?_
  have hG : (fun x => x = r) r := rfl
  unfold ref29_Room at h
  refine A.seq rfl ?_
  refine A.region ?_
  refine R.one rfl ?_
  refine W.det (.lp 4 1 0) (Mem.add _ 4 (.box [.d (.v (.string p_.Name)), .d (.v (.int .i64 p_.Edit)), .d (.v (.int .i64 p_.Within)), .d (.v (.int .i64 p_.Delete)), .d (.v (.bool p_.React)), .d (.v (.int .i64 p_.Thread)), .d (.v (.bool p_.Quote)), .d (.v (.bool p_.Mention)), .d (.v (.int .i64 p_.Size)), .d (.v (.int .i64 p_.Parts)), .d (.v (.int .i64 p_.Files)), .d (.v (.int .i64 p_.Bytes)), .d (.fz (List.map encS p_.Types)), .d (.v (.int .i64 p_.Join)), .d (.v (.int .i64 p_.History)), .d (.v (.int .i64 p_.Remove)), .d (.v (.int .i64 p_.Level)), .d (.v (.bool p_.Batch)), .d (.v (.int .i64 p_.Rate)), .d (.v (.int .i64 p_.Down)), .d (.v (.int .i64 p_.Window)), .d (.v (.int .i64 p_.Keep))])) rfl ?_
  refine R.one rfl ?_
  refine W.det (.d (.v (.int .i64 (0 : Int)))) _ rfl ?_
  refine R.nil ?_
  refine seqK.n ?_
  refine A.seq rfl ?_
  refine A.region ?_
  refine R.one rfl ?_
  refine W.det (.agg [.d (.v (.string p_.Name)), .d (.v (.int .i64 p_.Edit)), .d (.v (.int .i64 p_.Within)), .d (.v (.int .i64 p_.Delete)), .d (.v (.bool p_.React)), .d (.v (.int .i64 p_.Thread)), .d (.v (.bool p_.Quote)), .d (.v (.bool p_.Mention)), .d (.v (.int .i64 p_.Size)), .d (.v (.int .i64 p_.Parts)), .d (.v (.int .i64 p_.Files)), .d (.v (.int .i64 p_.Bytes)), .d (.fz (List.map encS p_.Types)), .d (.v (.int .i64 p_.Join)), .d (.v (.int .i64 p_.History)), .d (.v (.int .i64 p_.Remove)), .d (.v (.int .i64 p_.Level)), .d (.v (.bool p_.Batch)), .d (.v (.int .i64 p_.Rate)), .d (.v (.int .i64 p_.Down)), .d (.v (.int .i64 p_.Window)), .d (.v (.int .i64 p_.Keep))]) _ rfl ?_
  refine R.one rfl ?_
  refine W.det (.d (.fz (List.map api_Job.enc p1_))) _ rfl ?_
  refine R.one rfl ?_
  refine W.det (.d (.v (.int .i64 p2_))) _ rfl ?_
  refine R.one rfl ?_
  refine bindK h fun y1 hy1 h => ?_
  refine W.call rfl (ref29_Plan_fn hy1) ?_
  refine W.v (.tup [.row 1048596 1 (List.map (encI .i64) y1.1).length, .d (.v (.int .i64 y1.2.1)), .d (.v (.int .i64 y1.2.2))]) (.tup [.row 1048596 1 y1.1.length, .d (.v (.int .i64 y1.2.1)), .d (.v (.int .i64 y1.2.2))]) (Mem.add _ 1048596 (.rows 1 (List.map (encI .i64) y1.1) false)) rfl (by simp only [List.length_map]) ?_
  refine R.one rfl ?_
  refine W.det (.tup [.row 1048596 1 y1.1.length, .d (.v (.int .i64 y1.2.1)), .d (.v (.int .i64 y1.2.2))]) _ rfl ?_
  refine R.one rfl ?_
  refine W.det (.row 1048596 1 y1.1.length) _ rfl ?_
  refine R.one rfl ?_
  refine W.det (.d (.v (.int .i64 y1.2.1))) _ rfl ?_
  refine R.one rfl ?_
  refine W.det (.d (.v (.int .i64 y1.2.2))) _ rfl ?_
  refine R.one rfl ?_
  refine W.det (.row 1048596 1 y1.1.length) _ rfl ?_
  refine R.one rfl ?_
  refine W.det (.d (.v (.int .i64 y1.2.1))) _ rfl ?_
  refine R.one rfl ?_
  refine W.det (.d (.v (.int .i64 y1.2.2))) _ rfl ?_
  refine R.nil ?_
  refine seqK.n ?_
  refine A.seq rfl ?_
  refine A.seq rfl ?_
  refine A.region ?_
  refine R.one rfl ?_
  refine W.det (.d (.v (.int .i64 y1.2.2))) _ rfl ?_
  refine R.one rfl ?_
  refine W.det (.d (.v (.bool (y1.2.2 != (0 : Int))))) _ rfl ?_
  refine R.one rfl ?_
  refine W.det (.d (.v (.bool (y1.2.2 != (0 : Int))))) _ rfl ?_
  refine R.gF rfl rfl rfl h (fun _ h => ?_) (fun _ h => ?_)
  · refine R.skip rfl rfl rfl ?_
    refine R.one rfl ?_
    refine W.det (.kb true) _ rfl ?_
    refine R.one rfl ?_
    refine W.det (.kb true) _ rfl ?_
    refine R.skip rfl rfl rfl ?_
    refine R.skip rfl rfl rfl ?_
    refine R.one rfl ?_
    refine W.det (.kb true) _ rfl ?_
    refine R.one rfl ?_
    refine W.det (.kb true) _ rfl ?_
    refine R.skip rfl rfl rfl ?_
    refine R.skip rfl rfl rfl ?_
    refine R.skip rfl rfl rfl ?_
    refine R.one rfl ?_
    refine W.det (.kb true) _ rfl ?_
    refine R.nil ?_
    refine seqK.n ?_
    refine A.condT rfl ?_
    refine A.seq rfl ?_
    refine A.region ?_
    refine R.one rfl ?_
    refine W.det (.d (.v (.int .i64 (0 : Int)))) _ rfl ?_
    refine R.nil ?_
    refine seqK.n ?_
    refine A.ret ?_
    refine seqK.r ?_
    injection h with h
    subst h
    cases hG
    exact ⟨rfl, trivial⟩
  · refine W.det (.d (.v (.int .i64 p3_))) _ rfl ?_
    refine R.run rfl rfl rfl ?_
    refine W.det (.d (.v (.bool (decide (p3_ < (0 : Int)))))) _ rfl ?_
    refine R.one rfl ?_
    refine W.det (.d (.v (.bool (decide (p3_ < (0 : Int)))))) _ rfl ?_
    refine R.one rfl ?_
    refine W.det (.d (.v (.bool (decide (p3_ < (0 : Int)))))) _ rfl ?_
    refine R.gF rfl rfl rfl h (fun _ h => ?_) (fun _ h => ?_)
    · refine R.skip rfl rfl rfl ?_
      refine R.one rfl ?_
      refine W.det (.kb true) _ rfl ?_
      refine R.one rfl ?_
      refine W.det (.kb true) _ rfl ?_
      refine R.skip rfl rfl rfl ?_
      refine R.skip rfl rfl rfl ?_
      refine R.skip rfl rfl rfl ?_
      refine R.one rfl ?_
      refine W.det (.kb true) _ rfl ?_
      refine R.nil ?_
      refine seqK.n ?_
      refine A.condT rfl ?_
      refine A.seq rfl ?_
      refine A.region ?_
      refine R.one rfl ?_
      refine W.det (.d (.v (.int .i64 (0 : Int)))) _ rfl ?_
      refine R.nil ?_
      refine seqK.n ?_
      refine A.ret ?_
      refine seqK.r ?_
      injection h with h
      subst h
      cases hG
      exact ⟨rfl, trivial⟩
    · refine W.det (.d (.v (.int .i64 p3_))) _ rfl ?_
      refine R.run rfl rfl rfl ?_
      refine W.det (.d (.v (.bool (decide ((1073741824 : Int) < p3_))))) _ rfl ?_
      refine R.one rfl ?_
      refine W.det (.d (.v (.bool (decide ((1073741824 : Int) < p3_))))) _ rfl ?_
      refine R.one rfl ?_
      refine W.det (.d (.v (.bool (decide ((1073741824 : Int) < p3_))))) _ rfl ?_
      refine R.gF rfl rfl rfl h (fun _ h => ?_) (fun _ h => ?_)
      · refine R.skip rfl rfl rfl ?_
        refine R.skip rfl rfl rfl ?_
        refine R.one rfl ?_
        refine W.det (.kb true) _ rfl ?_
        refine R.nil ?_
        refine seqK.n ?_
        refine A.condT rfl ?_
        refine A.seq rfl ?_
        refine A.region ?_
        refine R.one rfl ?_
        refine W.det (.d (.v (.int .i64 (0 : Int)))) _ rfl ?_
        refine R.nil ?_
        refine seqK.n ?_
        refine A.ret ?_
        refine seqK.r ?_
        injection h with h
        subst h
        cases hG
        exact ⟨rfl, trivial⟩
      · refine W.det (.d (.fz (List.map api_Job.enc p1_))) _ rfl ?_
        refine R.run rfl rfl rfl ?_
        refine W.len rfl ?_
        refine R.run rfl rfl rfl ?_
        refine W.det (.d (.v (.bool (decide ((1000 : Int) ≤ (p1_.length : Int)))))) _ rfl ?_
        refine R.one rfl ?_
        refine W.det (.d (.v (.bool (decide ((1000 : Int) ≤ (p1_.length : Int)))))) _ rfl ?_
        refine R.nil ?_
        refine seqK.n ?_
        refine A.condB rfl h (fun _ h => ?_) (fun _ h => ?_)
        · refine A.seq rfl ?_
          refine A.region ?_
          refine R.one rfl ?_
          refine W.det (.d (.v (.int .i64 (0 : Int)))) _ rfl ?_
          refine R.nil ?_
          refine seqK.n ?_
          refine A.ret ?_
          refine seqK.r ?_
          injection h with h
          subst h
          cases hG
          exact ⟨rfl, trivial⟩
        · refine A.skip ?_
          refine seqK.n ?_
          refine A.seq rfl ?_
          refine A.region ?_
          refine R.one rfl ?_
          refine W.det (.d (.fz (List.map api_Job.enc p1_))) _ rfl ?_
          refine R.one rfl ?_
          refine bindK h fun y2 hy2 h => ?_
          refine W.call rfl (ref29_Order_fn hy2) ?_
          refine W.v (.row 40 1 (List.map api_Job.enc y2).length) (.row 40 1 y2.length) (Mem.add _ 40 (.rows 3 (List.map api_Job.enc y2) false)) rfl (by simp only [List.length_map]) ?_
          refine R.one rfl ?_
          refine W.det (.row 40 1 y2.length) _ rfl ?_
          refine R.nil ?_
          refine seqK.n ?_
          refine A.seq rfl ?_
          refine A.region ?_
          refine R.one rfl ?_
          refine W.det (.d (.v (.int .i64 (0 : Int)))) _ rfl ?_
          refine R.nil ?_
          refine seqK.n ?_
          refine A.seq rfl ?_
          refine A.region ?_
          refine R.one rfl ?_
          refine W.det (.d (.v (.int .i64 (1099511627776 : Int)))) _ rfl ?_
          refine R.nil ?_
          refine seqK.n ?_
          refine A.join (fun (s2 : Int × Int) => [(2, .d (.v (.int .i64 p2_))), (3, .d (.v (.int .i64 p3_))), (4, .lp 900000 1 0), (13, .d (.v (.int .i64 s2.1))), (14, .d (.v (.int .i64 s2.2)))]) (fun s2 => [(900000, .box [.d (.v (.string p_.Name)), .d (.v (.int .i64 p_.Edit)), .d (.v (.int .i64 p_.Within)), .d (.v (.int .i64 p_.Delete)), .d (.v (.bool p_.React)), .d (.v (.int .i64 p_.Thread)), .d (.v (.bool p_.Quote)), .d (.v (.bool p_.Mention)), .d (.v (.int .i64 p_.Size)), .d (.v (.int .i64 p_.Parts)), .d (.v (.int .i64 p_.Files)), .d (.v (.int .i64 p_.Bytes)), .d (.fz (List.map encS p_.Types)), .d (.v (.int .i64 p_.Join)), .d (.v (.int .i64 p_.History)), .d (.v (.int .i64 p_.Remove)), .d (.v (.int .i64 p_.Level)), .d (.v (.bool p_.Batch)), .d (.v (.int .i64 p_.Rate)), .d (.v (.int .i64 p_.Down)), .d (.v (.int .i64 p_.Window)), .d (.v (.int .i64 p_.Keep))])]) _ h hG rfl ?_ ?_
          · intro J f h hG
            refine A.seq rfl ?_
            refine A.region ?_
            refine R.one rfl ?_
            refine W.det (.d (.v (.int .i64 (0 : Int)))) _ rfl ?_
            refine R.nil ?_
            refine seqK.n ?_
            refine A.block ?_
            refine A.loop (fun (s3 : Int × Int × Int) => [(2, .d (.v (.int .i64 p2_))), (3, .d (.v (.int .i64 p3_))), (4, .lp 900000 1 0), (9, .row 900001 1 y1.1.length), (12, .row 900002 1 y2.length), (13, .d (.v (.int .i64 s3.1))), (14, .d (.v (.int .i64 s3.2.1))), (15, .d (.v (.int .i64 s3.2.2)))]) (fun s3 => [(900000, .box [.d (.v (.string p_.Name)), .d (.v (.int .i64 p_.Edit)), .d (.v (.int .i64 p_.Within)), .d (.v (.int .i64 p_.Delete)), .d (.v (.bool p_.React)), .d (.v (.int .i64 p_.Thread)), .d (.v (.bool p_.Quote)), .d (.v (.bool p_.Mention)), .d (.v (.int .i64 p_.Size)), .d (.v (.int .i64 p_.Parts)), .d (.v (.int .i64 p_.Files)), .d (.v (.int .i64 p_.Bytes)), .d (.fz (List.map encS p_.Types)), .d (.v (.int .i64 p_.Join)), .d (.v (.int .i64 p_.History)), .d (.v (.int .i64 p_.Remove)), .d (.v (.int .i64 p_.Level)), .d (.v (.bool p_.Batch)), .d (.v (.int .i64 p_.Rate)), .d (.v (.int .i64 p_.Down)), .d (.v (.int .i64 p_.Window)), .d (.v (.int .i64 p_.Keep))]), (900001, .rows 1 (List.map (encI .i64) y1.1) false), (900002, .rows 3 (List.map api_Job.enc y2) false)]) _ h hG (Enters.of [] [(900000, (4, 1)), (900001, (1048596, 1)), (900002, (40, 1))] _ rfl rfl (chkE.c rfl rfl (chkE.c rfl rfl (chkE.c rfl rfl (chkE.c rfl rfl (chkE.c rfl rfl (chkE.c rfl rfl (chkE.c rfl rfl (chkE.c rfl rfl trivial)))))))) (chkM.c rfl rfl (chkM.c rfl rfl (chkM.c rfl rfl trivial)))) ?_
            intro J s3 f h hG
            unfold ref29_Room_L1 at h
            refine A.seq rfl ?_
            refine A.seq rfl ?_
            refine A.region ?_
            refine R.one rfl ?_
            refine W.det (.d (.v (.int .i64 s3.2.2))) _ rfl ?_
            refine R.one rfl ?_
            refine W.det (.row 900002 1 y2.length) _ rfl ?_
            refine R.one rfl ?_
            refine W.det (.d (.v (.int .i64 ((y2.length : Nat) : Int)))) _ rfl ?_
            refine R.one rfl ?_
            refine W.det (.d (.v (.bool (decide (s3.2.2 < ((y2.length : Nat) : Int)))))) _ rfl ?_
            refine R.nil ?_
            refine seqK.n ?_
            refine A.condB rfl h (fun _ h => ?_) (fun _ h => ?_)
            · refine A.skip ?_
              refine seqK.n ?_
              refine A.seq rfl ?_
              refine A.block ?_
              refine A.seq rfl ?_
              refine A.region ?_
              refine R.one rfl ?_
              refine W.det (.row 900002 1 y2.length) _ rfl ?_
              refine R.one rfl ?_
              refine W.det (.d (.v (.int .i64 s3.2.2))) _ rfl ?_
              refine R.one rfl ?_
              refine chkK h fun g58 h => ?_
              refine W.chk rfl (by simpa using g58) ?_
              refine W.det (.rp 900002 1 s3.2.2.toNat 0) _ rfl ?_
              refine R.one rfl ?_
              refine W.det (.rp 900002 1 s3.2.2.toNat 2) _ rfl ?_
              refine R.one rfl ?_
              refine bindK h fun x59 hx59 h => ?_
              refine W.elem rfl (elemG hx59) ?_
              refine W.det (.d (.v (.int .i64 x59.Due))) _ rfl ?_
              refine R.one rfl ?_
              refine W.det (.d (.v (.int .i64 p3_))) _ rfl ?_
              refine R.one rfl ?_
              refine W.det (.d (.v (.bool (decide (x59.Due ≤ p3_))))) _ rfl ?_
              refine R.nil ?_
              refine seqK.n ?_
              refine A.condB rfl h (fun _ h => ?_) (fun _ h => ?_)
              · refine A.region ?_
                refine R.one rfl ?_
                refine W.det (.d (.v (.int .i64 s3.1))) _ rfl ?_
                refine R.one rfl ?_
                refine W.det (.row 900002 1 y2.length) _ rfl ?_
                refine R.one rfl ?_
                refine W.det (.d (.v (.int .i64 s3.2.2))) _ rfl ?_
                refine R.one rfl ?_
                refine W.chk rfl (by simpa using g58) ?_
                refine W.det (.rp 900002 1 s3.2.2.toNat 0) _ rfl ?_
                refine R.one rfl ?_
                refine W.det (.rp 900002 1 s3.2.2.toNat 1) _ rfl ?_
                refine R.one rfl ?_
                refine W.elem rfl (elemG hx59) ?_
                refine W.det (.d (.v (.int .i64 x59.Size))) _ rfl ?_
                refine R.one rfl ?_
                refine W.det (.d (.v (.int .i64 (IntKind.i64.wrap (s3.1 + x59.Size))))) _ rfl ?_
                refine R.one rfl ?_
                refine W.det (.d (.v (.int .i64 (IntKind.i64.wrap (s3.1 + x59.Size))))) _ rfl ?_
                refine R.nil ?_
                refine blockK.n ?_
                refine seqK.n ?_
                refine A.region ?_
                refine R.one rfl ?_
                refine W.det (.d (.v (.int .i64 s3.2.2))) _ rfl ?_
                refine R.one rfl ?_
                refine W.det (.d (.v (.int .i64 (IntKind.i64.wrap (s3.2.2 + (1 : Int)))))) _ rfl ?_
                refine R.one rfl ?_
                refine W.det (.d (.v (.int .i64 (IntKind.i64.wrap (s3.2.2 + (1 : Int)))))) _ rfl ?_
                refine R.nil ?_
                injection h with h
                subst h
                exact headK.n hG (Enters.of [] [(900000, (900000, 1)), (900001, (900001, 1)), (900002, (900002, 1))] _ rfl rfl (chkE.c rfl rfl (chkE.c rfl rfl (chkE.c rfl rfl (chkE.c rfl rfl (chkE.c rfl rfl (chkE.c rfl rfl (chkE.c rfl rfl (chkE.c rfl rfl trivial)))))))) (chkM.c rfl rfl (chkM.c rfl rfl (chkM.c rfl rfl trivial))))
              · refine A.region ?_
                refine R.one rfl ?_
                refine W.det (.d (.v (.int .i64 s3.2.1))) _ rfl ?_
                refine R.one rfl ?_
                refine W.det (.row 900001 1 y1.1.length) _ rfl ?_
                refine R.one rfl ?_
                refine W.det (.d (.v (.int .i64 s3.2.2))) _ rfl ?_
                refine R.one rfl ?_
                refine chkK h fun g61 h => ?_
                refine W.chk rfl (by simpa using g61) ?_
                refine W.det (.rp 900001 1 s3.2.2.toNat 0) _ rfl ?_
                refine R.one rfl ?_
                refine bindK h fun x62 hx62 h => ?_
                refine W.elem rfl (elemG hx62) ?_
                refine W.det (.d (.v (.int .i64 x62))) _ rfl ?_
                refine R.one rfl ?_
                refine W.det (.d (.v (.int .i64 (if x62 < s3.2.1 then x62 else s3.2.1)))) _ rfl ?_
                refine R.one rfl ?_
                refine W.det (.d (.v (.int .i64 (if x62 < s3.2.1 then x62 else s3.2.1)))) _ rfl ?_
                refine R.nil ?_
                refine blockK.n ?_
                refine seqK.n ?_
                refine A.region ?_
                refine R.one rfl ?_
                refine W.det (.d (.v (.int .i64 s3.2.2))) _ rfl ?_
                refine R.one rfl ?_
                refine W.det (.d (.v (.int .i64 (IntKind.i64.wrap (s3.2.2 + (1 : Int)))))) _ rfl ?_
                refine R.one rfl ?_
                refine W.det (.d (.v (.int .i64 (IntKind.i64.wrap (s3.2.2 + (1 : Int)))))) _ rfl ?_
                refine R.nil ?_
                injection h with h
                subst h
                exact headK.n hG (Enters.of [] [(900000, (900000, 1)), (900001, (900001, 1)), (900002, (900002, 1))] _ rfl rfl (chkE.c rfl rfl (chkE.c rfl rfl (chkE.c rfl rfl (chkE.c rfl rfl (chkE.c rfl rfl (chkE.c rfl rfl (chkE.c rfl rfl (chkE.c rfl rfl trivial)))))))) (chkM.c rfl rfl (chkM.c rfl rfl (chkM.c rfl rfl trivial))))
            · refine A.exit ?_
              refine seqK.e ?_
              refine headK.e ?_
              refine blockK.x ?_
              injection h with h
              subst h
              exact headK.n hG (Enters.of [] [(900000, (900000, 1))] _ rfl rfl (chkE.c rfl rfl (chkE.c rfl rfl (chkE.c rfl rfl (chkE.c rfl rfl (chkE.c rfl rfl trivial))))) (chkM.c rfl rfl trivial))
          · intro s2 r2 h hG
            refine A.seq rfl ?_
            refine A.region ?_
            refine R.one rfl ?_
            refine W.det (.d (.v (.int .i64 s2.2))) _ rfl ?_
            refine R.one rfl ?_
            refine W.det (.agg [.d (.v (.string p_.Name)), .d (.v (.int .i64 p_.Edit)), .d (.v (.int .i64 p_.Within)), .d (.v (.int .i64 p_.Delete)), .d (.v (.bool p_.React)), .d (.v (.int .i64 p_.Thread)), .d (.v (.bool p_.Quote)), .d (.v (.bool p_.Mention)), .d (.v (.int .i64 p_.Size)), .d (.v (.int .i64 p_.Parts)), .d (.v (.int .i64 p_.Files)), .d (.v (.int .i64 p_.Bytes)), .d (.fz (List.map encS p_.Types)), .d (.v (.int .i64 p_.Join)), .d (.v (.int .i64 p_.History)), .d (.v (.int .i64 p_.Remove)), .d (.v (.int .i64 p_.Level)), .d (.v (.bool p_.Batch)), .d (.v (.int .i64 p_.Rate)), .d (.v (.int .i64 p_.Down)), .d (.v (.int .i64 p_.Window)), .d (.v (.int .i64 p_.Keep))]) _ rfl ?_
            refine R.one rfl ?_
            refine W.det (.d (.v (.int .i64 p2_))) _ rfl ?_
            refine R.one rfl ?_
            refine W.det (.d (.v (.int .i64 p3_))) _ rfl ?_
            refine R.one rfl ?_
            refine bindK h fun y63 hy63 h => ?_
            refine W.call rfl (ref29_gives_fn hy63) ?_
            refine W.det (.d (.v (.int .i64 y63))) _ rfl ?_
            refine R.one rfl ?_
            refine W.det (.d (.v (.int .i64 s2.1))) _ rfl ?_
            refine R.one rfl ?_
            refine W.det (.d (.v (.int .i64 (IntKind.i64.wrap (y63 - s2.1))))) _ rfl ?_
            refine R.one rfl ?_
            refine W.det (.d (.v (.int .i64 (if (IntKind.i64.wrap (y63 - s2.1)) < s2.2 then (IntKind.i64.wrap (y63 - s2.1)) else s2.2)))) _ rfl ?_
            refine R.one rfl ?_
            refine W.det (.d (.v (.int .i64 (if (0 : Int) < (if (IntKind.i64.wrap (y63 - s2.1)) < s2.2 then (IntKind.i64.wrap (y63 - s2.1)) else s2.2) then (if (IntKind.i64.wrap (y63 - s2.1)) < s2.2 then (IntKind.i64.wrap (y63 - s2.1)) else s2.2) else (0 : Int))))) _ rfl ?_
            refine R.one rfl ?_
            refine W.det (.d (.v (.int .i64 (if (0 : Int) < (if (IntKind.i64.wrap (y63 - s2.1)) < s2.2 then (IntKind.i64.wrap (y63 - s2.1)) else s2.2) then (if (IntKind.i64.wrap (y63 - s2.1)) < s2.2 then (IntKind.i64.wrap (y63 - s2.1)) else s2.2) else (0 : Int))))) _ rfl ?_
            refine R.nil ?_
            refine seqK.n ?_
            refine A.ret ?_
            injection h with h
            subst h
            cases hG
            exact ⟨rfl, trivial⟩
noncomputable def ref29_New_L1 (jobs_ : (List api_Job)) (s21 : Int × Int) : Option ((Int × Int) ⊕ ((Int) ⊕ ((Int × Int) ⊕ ((Int) ⊕ (Int))))) :=
  (bif (decide (s21.2 < (jobs_.length : Int))) then
    (getI jobs_ s21.2).bind fun x72 =>
    (bif (x72.Id == s21.1) then
      some (.inl ((IntKind.i64.wrap (s21.1 + (1 : Int))), (IntKind.i64.wrap (s21.2 + (1 : Int)))))
    else
      some (.inl (s21.1, (IntKind.i64.wrap (s21.2 + (1 : Int))))))
  else
    some (.inr (.inl s21.1)))
noncomputable def ref29_New_L2 (jobs_ : (List api_Job)) (s12 : Int × Int) : Option ((Int × Int) ⊕ ((Int) ⊕ (Int))) :=
  (bif (decide (s12.2 < (jobs_.length : Int))) then
    (seqF (A := Int) (
      loopF (ref29_New_L1 jobs_) (s12.1, (0 : Int)))
    fun s20 =>
      some (.inl (s20, (IntKind.i64.wrap (s12.2 + (1 : Int))))))
  else
    some (.inr (.inl s12.1)))
noncomputable def ref29_New (jobs_ : (List api_Job)) : Option (Int) :=
  (seqF (A := Int) (
    loopF (ref29_New_L2 jobs_) ((0 : Int), (0 : Int)))
  fun s11 =>
    some s11)
theorem ref29_New_fn {jobs_ : (List api_Job)} {r : Int} (h : ref29_New jobs_ = some r) : Fn Try.prog 18 [.d (.fz (List.map api_Job.enc jobs_))] (.d (.v (.int .i64 r))) := by
  refine Fn.of_AW (F := FnX Try.prog) (base := 0) (js := [4, 10]) mixed tok noeqs (fun _ _ _ h => h) Try.call18 Try.func18 rfl Try.ntmps18 (by rw [Try.results18]) (by simp) ?_
  have hG : (fun x => x = r) r := rfl
  unfold ref29_New at h
  refine A.seq rfl ?_
  refine A.region ?_
  refine R.one rfl ?_
  refine W.det (.d (.v (.int .i64 (0 : Int)))) _ rfl ?_
  refine R.nil ?_
  refine seqK.n ?_
  refine A.seq rfl ?_
  refine A.region ?_
  refine R.one rfl ?_
  refine W.det (.d (.v (.int .i64 (0 : Int)))) _ rfl ?_
  refine R.nil ?_
  refine seqK.n ?_
  refine A.join (fun (s11 : Int) => [(3, .d (.v (.int .i64 s11)))]) (fun s11 => []) _ h hG rfl ?_ ?_
  · intro J f h hG
    refine A.seq rfl ?_
    refine A.region ?_
    refine R.one rfl ?_
    refine W.det (.d (.v (.int .i64 (0 : Int)))) _ rfl ?_
    refine R.nil ?_
    refine seqK.n ?_
    refine A.block ?_
    refine A.loop (fun (s12 : Int × Int) => [(0, .d (.fz (List.map api_Job.enc jobs_))), (3, .d (.v (.int .i64 s12.1))), (4, .d (.v (.int .i64 s12.2)))]) (fun s12 => []) _ h hG (Enters.of [] [] _ rfl rfl (chkE.c rfl rfl (chkE.c rfl rfl (chkE.c rfl rfl trivial))) trivial) ?_
    intro J s12 f h hG
    unfold ref29_New_L2 at h
    refine A.seq rfl ?_
    refine A.seq rfl ?_
    refine A.region ?_
    refine R.one rfl ?_
    refine W.det (.d (.v (.int .i64 s12.2))) _ rfl ?_
    refine R.one rfl ?_
    refine W.det (.d (.fz (List.map api_Job.enc jobs_))) _ rfl ?_
    refine R.one rfl ?_
    refine W.len rfl ?_
    refine R.one rfl ?_
    refine W.det (.d (.v (.bool (decide (s12.2 < (jobs_.length : Int)))))) _ rfl ?_
    refine R.nil ?_
    refine seqK.n ?_
    refine A.condB rfl h (fun _ h => ?_) (fun _ h => ?_)
    · refine A.skip ?_
      refine seqK.n ?_
      refine A.join (fun (s20 : Int) => [(0, .d (.fz (List.map api_Job.enc jobs_))), (3, .d (.v (.int .i64 s20))), (4, .d (.v (.int .i64 s12.2)))]) (fun s20 => []) _ h hG rfl ?_ ?_
      · intro J f h hG
        refine A.block ?_
        refine A.seq rfl ?_
        refine A.region ?_
        refine R.one rfl ?_
        refine W.det (.d (.v (.int .i64 (0 : Int)))) _ rfl ?_
        refine R.nil ?_
        refine seqK.n ?_
        refine A.block ?_
        refine A.loop (fun (s21 : Int × Int) => [(0, .d (.fz (List.map api_Job.enc jobs_))), (3, .d (.v (.int .i64 s21.1))), (4, .d (.v (.int .i64 s12.2))), (5, .d (.v (.int .i64 s21.2)))]) (fun s21 => []) _ h hG (Enters.of [] [] _ rfl rfl (chkE.c rfl rfl (chkE.c rfl rfl (chkE.c rfl rfl (chkE.c rfl rfl trivial)))) trivial) ?_
        intro J s21 f h hG
        unfold ref29_New_L1 at h
        refine A.seq rfl ?_
        refine A.seq rfl ?_
        refine A.region ?_
        refine R.one rfl ?_
        refine W.det (.d (.v (.int .i64 s21.2))) _ rfl ?_
        refine R.one rfl ?_
        refine W.det (.d (.fz (List.map api_Job.enc jobs_))) _ rfl ?_
        refine R.one rfl ?_
        refine W.len rfl ?_
        refine R.one rfl ?_
        refine W.det (.d (.v (.bool (decide (s21.2 < (jobs_.length : Int)))))) _ rfl ?_
        refine R.nil ?_
        refine seqK.n ?_
        refine A.condB rfl h (fun _ h => ?_) (fun _ h => ?_)
        · refine A.skip ?_
          refine seqK.n ?_
          refine A.seq rfl ?_
          refine A.block ?_
          refine A.seq rfl ?_
          refine A.region ?_
          refine R.one rfl ?_
          refine W.det (.d (.fz (List.map api_Job.enc jobs_))) _ rfl ?_
          refine R.one rfl ?_
          refine W.det (.d (.v (.int .i64 s21.2))) _ rfl ?_
          refine R.one rfl ?_
          refine bindK h fun x72 hx72 h => ?_
          refine W.chk rfl (elemB hx72) ?_
          refine W.elem rfl (elemG hx72) ?_
          refine W.chk rfl rfl ?_
          refine W.det (.fp [.v (.int .i64 x72.Id), .v (.int .i64 x72.Size), .v (.int .i64 x72.Due)]) _ rfl ?_
          refine R.one rfl ?_
          refine W.det (.fp [.v (.int .i64 x72.Id), .v (.int .i64 x72.Size), .v (.int .i64 x72.Due)]) _ rfl ?_
          refine R.one rfl ?_
          refine W.det (.d (.v (.int .i64 x72.Id))) _ rfl ?_
          refine R.one rfl ?_
          refine W.det (.d (.v (.int .i64 s21.1))) _ rfl ?_
          refine R.one rfl ?_
          refine W.det (.d (.v (.bool (x72.Id == s21.1)))) _ rfl ?_
          refine R.nil ?_
          refine seqK.n ?_
          refine A.condB rfl h (fun _ h => ?_) (fun _ h => ?_)
          · refine A.region ?_
            refine R.one rfl ?_
            refine W.det (.d (.v (.int .i64 s21.1))) _ rfl ?_
            refine R.one rfl ?_
            refine W.det (.d (.v (.int .i64 (IntKind.i64.wrap (s21.1 + (1 : Int)))))) _ rfl ?_
            refine R.one rfl ?_
            refine W.det (.d (.v (.int .i64 (IntKind.i64.wrap (s21.1 + (1 : Int)))))) _ rfl ?_
            refine R.nil ?_
            refine blockK.n ?_
            refine seqK.n ?_
            refine A.region ?_
            refine R.one rfl ?_
            refine W.det (.d (.v (.int .i64 s21.2))) _ rfl ?_
            refine R.one rfl ?_
            refine W.det (.d (.v (.int .i64 (IntKind.i64.wrap (s21.2 + (1 : Int)))))) _ rfl ?_
            refine R.one rfl ?_
            refine W.det (.d (.v (.int .i64 (IntKind.i64.wrap (s21.2 + (1 : Int)))))) _ rfl ?_
            refine R.nil ?_
            injection h with h
            subst h
            exact headK.n hG (Enters.of [] [] _ rfl rfl (chkE.c rfl rfl (chkE.c rfl rfl (chkE.c rfl rfl (chkE.c rfl rfl trivial)))) trivial)
          · refine A.skip ?_
            refine blockK.n ?_
            refine seqK.n ?_
            refine A.region ?_
            refine R.one rfl ?_
            refine W.det (.d (.v (.int .i64 s21.2))) _ rfl ?_
            refine R.one rfl ?_
            refine W.det (.d (.v (.int .i64 (IntKind.i64.wrap (s21.2 + (1 : Int)))))) _ rfl ?_
            refine R.one rfl ?_
            refine W.det (.d (.v (.int .i64 (IntKind.i64.wrap (s21.2 + (1 : Int)))))) _ rfl ?_
            refine R.nil ?_
            injection h with h
            subst h
            exact headK.n hG (Enters.of [] [] _ rfl rfl (chkE.c rfl rfl (chkE.c rfl rfl (chkE.c rfl rfl (chkE.c rfl rfl trivial)))) trivial)
        · refine A.exit ?_
          refine seqK.e ?_
          refine headK.e ?_
          refine blockK.x ?_
          refine blockK.n ?_
          injection h with h
          subst h
          exact headK.n hG (Enters.of [] [] _ rfl rfl (chkE.c rfl rfl (chkE.c rfl rfl (chkE.c rfl rfl trivial))) trivial)
      · intro s20 r2 h hG
        refine A.region ?_
        refine R.one rfl ?_
        refine W.det (.d (.v (.int .i64 s12.2))) _ rfl ?_
        refine R.one rfl ?_
        refine W.det (.d (.v (.int .i64 (IntKind.i64.wrap (s12.2 + (1 : Int)))))) _ rfl ?_
        refine R.one rfl ?_
        refine W.det (.d (.v (.int .i64 (IntKind.i64.wrap (s12.2 + (1 : Int)))))) _ rfl ?_
        refine R.nil ?_
        injection h with h
        subst h
        exact headK.n hG (Enters.of [] [] _ rfl rfl (chkE.c rfl rfl (chkE.c rfl rfl (chkE.c rfl rfl trivial))) trivial)
    · refine A.exit ?_
      refine seqK.e ?_
      refine headK.e ?_
      refine blockK.x ?_
      injection h with h
      subst h
      exact headK.n hG (Enters.of [] [] _ rfl rfl (chkE.c rfl rfl trivial) trivial)
  · intro s11 r2 h hG
    refine A.seq rfl ?_
    refine A.region ?_
    refine R.one rfl ?_
    refine W.det (.d (.v (.int .i64 s11))) _ rfl ?_
    refine R.one rfl ?_
    refine W.det (.d (.v (.int .i64 s11))) _ rfl ?_
    refine R.nil ?_
    refine seqK.n ?_
    refine A.ret ?_
    injection h with h
    subst h
    cases hG
    exact ⟨rfl, trivial⟩
noncomputable def supply_Allowed_L1 (up_ : (List Bool)) (p_ : api_Profile) (s3 : Int × Int) : Option ((Int × Int) ⊕ ((Unit) ⊕ (Bool))) :=
  (bif (decide (s3.2 < (up_.length : Int))) then
    (getI up_ s3.2).bind fun x102 =>
    (bif (!x102) then
      (bif (decide ((0 : Int) < p_.Down)) then
        (bif (decide (p_.Window ≤ s3.2)) then
          (getI up_ (IntKind.i64.wrap (s3.2 - p_.Window))).bind fun x106 =>
          (bif (!x106) then
            (bif (decide (p_.Down < (IntKind.i64.wrap ((IntKind.i64.wrap (s3.1 + (1 : Int))) - (1 : Int))))) then
              some (.inr (.inr false))
            else
              some (.inl ((IntKind.i64.wrap ((IntKind.i64.wrap (s3.1 + (1 : Int))) - (1 : Int))), (IntKind.i64.wrap (s3.2 + (1 : Int))))))
          else
            (bif (decide (p_.Down < (IntKind.i64.wrap (s3.1 + (1 : Int))))) then
              some (.inr (.inr false))
            else
              some (.inl ((IntKind.i64.wrap (s3.1 + (1 : Int))), (IntKind.i64.wrap (s3.2 + (1 : Int)))))))
        else
          (bif (decide (p_.Down < (IntKind.i64.wrap (s3.1 + (1 : Int))))) then
            some (.inr (.inr false))
          else
            some (.inl ((IntKind.i64.wrap (s3.1 + (1 : Int))), (IntKind.i64.wrap (s3.2 + (1 : Int)))))))
      else
        (bif (decide (p_.Down < (IntKind.i64.wrap (s3.1 + (1 : Int))))) then
          some (.inr (.inr false))
        else
          some (.inl ((IntKind.i64.wrap (s3.1 + (1 : Int))), (IntKind.i64.wrap (s3.2 + (1 : Int)))))))
    else
      (bif (decide ((0 : Int) < p_.Down)) then
        (bif (decide (p_.Window ≤ s3.2)) then
          (getI up_ (IntKind.i64.wrap (s3.2 - p_.Window))).bind fun x110 =>
          (bif (!x110) then
            (bif (decide (p_.Down < (IntKind.i64.wrap (s3.1 - (1 : Int))))) then
              some (.inr (.inr false))
            else
              some (.inl ((IntKind.i64.wrap (s3.1 - (1 : Int))), (IntKind.i64.wrap (s3.2 + (1 : Int))))))
          else
            (bif (decide (p_.Down < s3.1)) then
              some (.inr (.inr false))
            else
              some (.inl (s3.1, (IntKind.i64.wrap (s3.2 + (1 : Int)))))))
        else
          (bif (decide (p_.Down < s3.1)) then
            some (.inr (.inr false))
          else
            some (.inl (s3.1, (IntKind.i64.wrap (s3.2 + (1 : Int)))))))
      else
        (bif (decide (p_.Down < s3.1)) then
          some (.inr (.inr false))
        else
          some (.inl (s3.1, (IntKind.i64.wrap (s3.2 + (1 : Int))))))))
  else
    some (.inr (.inl ())))
noncomputable def supply_Allowed (p_ : api_Profile) (up_ : (List Bool)) : Option (Bool) :=
  (profile_Check p_).bind fun y2 =>
  (bif (y2 != (0 : Int)) then
    some false
  else
    (seqF (A := Unit) (
      loopF (supply_Allowed_L1 up_ p_) ((0 : Int), (0 : Int)))
    fun s2 =>
      some true))
theorem supply_Allowed_fn {p_ : api_Profile} {up_ : (List Bool)} {r : Bool} (h : supply_Allowed p_ up_ = some r) : Fn Try.prog 21 [.agg [.d (.v (.string p_.Name)), .d (.v (.int .i64 p_.Edit)), .d (.v (.int .i64 p_.Within)), .d (.v (.int .i64 p_.Delete)), .d (.v (.bool p_.React)), .d (.v (.int .i64 p_.Thread)), .d (.v (.bool p_.Quote)), .d (.v (.bool p_.Mention)), .d (.v (.int .i64 p_.Size)), .d (.v (.int .i64 p_.Parts)), .d (.v (.int .i64 p_.Files)), .d (.v (.int .i64 p_.Bytes)), .d (.fz (List.map encS p_.Types)), .d (.v (.int .i64 p_.Join)), .d (.v (.int .i64 p_.History)), .d (.v (.int .i64 p_.Remove)), .d (.v (.int .i64 p_.Level)), .d (.v (.bool p_.Batch)), .d (.v (.int .i64 p_.Rate)), .d (.v (.int .i64 p_.Down)), .d (.v (.int .i64 p_.Window)), .d (.v (.int .i64 p_.Keep))], .d (.fz (List.map encB up_))] (.d (.v (.bool r))) := by
  refine Fn.of_AW (F := FnX Try.prog) (base := 0) (js := [14]) mixed tok noeqs (fun _ _ _ h => h) Try.call21 Try.func21 rfl Try.ntmps21 (by rw [Try.results21]) (by simp) ?_
  have hG : (fun x => x = r) r := rfl
  unfold supply_Allowed at h
  refine A.seq rfl ?_
  refine A.region ?_
  refine R.one rfl ?_
  refine W.det (.lp 2 1 0) (Mem.add _ 2 (.box [.d (.v (.string p_.Name)), .d (.v (.int .i64 p_.Edit)), .d (.v (.int .i64 p_.Within)), .d (.v (.int .i64 p_.Delete)), .d (.v (.bool p_.React)), .d (.v (.int .i64 p_.Thread)), .d (.v (.bool p_.Quote)), .d (.v (.bool p_.Mention)), .d (.v (.int .i64 p_.Size)), .d (.v (.int .i64 p_.Parts)), .d (.v (.int .i64 p_.Files)), .d (.v (.int .i64 p_.Bytes)), .d (.fz (List.map encS p_.Types)), .d (.v (.int .i64 p_.Join)), .d (.v (.int .i64 p_.History)), .d (.v (.int .i64 p_.Remove)), .d (.v (.int .i64 p_.Level)), .d (.v (.bool p_.Batch)), .d (.v (.int .i64 p_.Rate)), .d (.v (.int .i64 p_.Down)), .d (.v (.int .i64 p_.Window)), .d (.v (.int .i64 p_.Keep))])) rfl ?_
  refine R.one rfl ?_
  refine W.det (.kb false) _ rfl ?_
  refine R.nil ?_
  refine seqK.n ?_
  refine A.seq rfl ?_
  refine A.seq rfl ?_
  refine A.region ?_
  refine R.one rfl ?_
  refine W.det (.agg [.d (.v (.string p_.Name)), .d (.v (.int .i64 p_.Edit)), .d (.v (.int .i64 p_.Within)), .d (.v (.int .i64 p_.Delete)), .d (.v (.bool p_.React)), .d (.v (.int .i64 p_.Thread)), .d (.v (.bool p_.Quote)), .d (.v (.bool p_.Mention)), .d (.v (.int .i64 p_.Size)), .d (.v (.int .i64 p_.Parts)), .d (.v (.int .i64 p_.Files)), .d (.v (.int .i64 p_.Bytes)), .d (.fz (List.map encS p_.Types)), .d (.v (.int .i64 p_.Join)), .d (.v (.int .i64 p_.History)), .d (.v (.int .i64 p_.Remove)), .d (.v (.int .i64 p_.Level)), .d (.v (.bool p_.Batch)), .d (.v (.int .i64 p_.Rate)), .d (.v (.int .i64 p_.Down)), .d (.v (.int .i64 p_.Window)), .d (.v (.int .i64 p_.Keep))]) _ rfl ?_
  refine R.one rfl ?_
  refine bindK h fun y2 hy2 h => ?_
  refine W.call rfl (profile_Check_fn hy2) ?_
  refine W.det (.d (.v (.int .i64 y2))) _ rfl ?_
  refine R.one rfl ?_
  refine W.det (.d (.v (.bool (y2 != (0 : Int))))) _ rfl ?_
  refine R.nil ?_
  refine seqK.n ?_
  refine A.condB rfl h (fun _ h => ?_) (fun _ h => ?_)
  · refine A.seq rfl ?_
    refine A.region ?_
    refine R.one rfl ?_
    refine W.det (.kb false) _ rfl ?_
    refine R.nil ?_
    refine seqK.n ?_
    refine A.ret ?_
    refine seqK.r ?_
    injection h with h
    subst h
    cases hG
    exact ⟨rfl, trivial⟩
  · refine A.skip ?_
    refine seqK.n ?_
    refine A.seq rfl ?_
    refine A.region ?_
    refine R.one rfl ?_
    refine W.det (.d (.v (.int .i64 (0 : Int)))) _ rfl ?_
    refine R.nil ?_
    refine seqK.n ?_
    refine A.join (fun (s2 : Unit) => []) (fun s2 => []) _ h hG rfl ?_ ?_
    · intro J f h hG
      refine A.seq rfl ?_
      refine A.region ?_
      refine R.one rfl ?_
      refine W.det (.d (.fz (List.map encB up_))) _ rfl ?_
      refine R.one rfl ?_
      refine W.len rfl ?_
      refine R.one rfl ?_
      refine W.det (.d (.v (.int .i64 (0 : Int)))) _ rfl ?_
      refine R.nil ?_
      refine seqK.n ?_
      refine A.block ?_
      refine A.loop (fun (s3 : Int × Int) => [(1, .d (.fz (List.map encB up_))), (2, .lp 900000 1 0), (5, .d (.v (.int .i64 s3.1))), (11, .d (.fz (List.map encB up_))), (12, .d (.v (.int .i64 (up_.length : Int)))), (13, .d (.v (.int .i64 s3.2)))]) (fun s3 => [(900000, .box [.d (.v (.string p_.Name)), .d (.v (.int .i64 p_.Edit)), .d (.v (.int .i64 p_.Within)), .d (.v (.int .i64 p_.Delete)), .d (.v (.bool p_.React)), .d (.v (.int .i64 p_.Thread)), .d (.v (.bool p_.Quote)), .d (.v (.bool p_.Mention)), .d (.v (.int .i64 p_.Size)), .d (.v (.int .i64 p_.Parts)), .d (.v (.int .i64 p_.Files)), .d (.v (.int .i64 p_.Bytes)), .d (.fz (List.map encS p_.Types)), .d (.v (.int .i64 p_.Join)), .d (.v (.int .i64 p_.History)), .d (.v (.int .i64 p_.Remove)), .d (.v (.int .i64 p_.Level)), .d (.v (.bool p_.Batch)), .d (.v (.int .i64 p_.Rate)), .d (.v (.int .i64 p_.Down)), .d (.v (.int .i64 p_.Window)), .d (.v (.int .i64 p_.Keep))])]) _ h hG (Enters.of [] [(900000, (2, 1))] _ rfl rfl (chkE.c rfl rfl (chkE.c rfl rfl (chkE.c rfl rfl (chkE.c rfl rfl (chkE.c rfl rfl (chkE.c rfl rfl trivial)))))) (chkM.c rfl rfl trivial)) ?_
      intro J s3 f h hG
      unfold supply_Allowed_L1 at h
      refine A.seq rfl ?_
      refine A.region ?_
      refine R.one rfl ?_
      refine W.det (.d (.v (.bool (decide (s3.2 < (up_.length : Int)))))) _ rfl ?_
      refine R.nil ?_
      refine seqK.n ?_
      refine A.seq rfl ?_
      refine A.condB rfl h (fun _ h => ?_) (fun _ h => ?_)
      · refine A.skip ?_
        refine seqK.n ?_
        refine A.seq rfl ?_
        refine A.block ?_
        refine A.seq rfl ?_
        refine A.region ?_
        refine R.one rfl ?_
        refine W.det (.d (.v (.int .i64 s3.2))) _ rfl ?_
        refine R.one rfl ?_
        refine bindK h fun x102 hx102 h => ?_
        refine W.chk rfl (elemB hx102) ?_
        refine W.elem rfl (elemG hx102) ?_
        refine W.chk rfl rfl ?_
        refine W.det (.fp [.v (.bool x102)]) _ rfl ?_
        refine R.one rfl ?_
        refine W.det (.d (.v (.bool x102))) _ rfl ?_
        refine R.one rfl ?_
        refine W.det (.d (.v (.int .i64 s3.2))) _ rfl ?_
        refine R.one rfl ?_
        refine W.det (.d (.v (.bool x102))) _ rfl ?_
        refine R.nil ?_
        refine seqK.n ?_
        refine A.seq rfl ?_
        refine A.seq rfl ?_
        refine A.region ?_
        refine R.one rfl ?_
        refine W.det (.d (.v (.bool x102))) _ rfl ?_
        refine R.one rfl ?_
        refine W.det (.d (.v (.bool (!x102)))) _ rfl ?_
        refine R.nil ?_
        refine seqK.n ?_
        refine A.condB rfl h (fun _ h => ?_) (fun _ h => ?_)
        · refine A.region ?_
          refine R.one rfl ?_
          refine W.det (.d (.v (.int .i64 s3.1))) _ rfl ?_
          refine R.one rfl ?_
          refine W.det (.d (.v (.int .i64 (IntKind.i64.wrap (s3.1 + (1 : Int)))))) _ rfl ?_
          refine R.one rfl ?_
          refine W.det (.d (.v (.int .i64 (IntKind.i64.wrap (s3.1 + (1 : Int)))))) _ rfl ?_
          refine R.nil ?_
          refine seqK.n ?_
          refine A.seq rfl ?_
          refine A.seq rfl ?_
          refine A.region ?_
          refine R.one rfl ?_
          refine W.det (.lp 900000 1 19) _ rfl ?_
          refine R.one rfl ?_
          refine W.det (.d (.v (.int .i64 p_.Down))) _ rfl ?_
          refine R.one rfl ?_
          refine W.det (.d (.v (.bool (decide ((0 : Int) < p_.Down))))) _ rfl ?_
          refine R.one rfl ?_
          refine W.det (.d (.v (.bool (decide ((0 : Int) < p_.Down))))) _ rfl ?_
          refine R.gT rfl rfl rfl h (fun _ h => ?_) (fun _ h => ?_)
          · refine W.det (.d (.v (.int .i64 s3.2))) _ rfl ?_
            refine R.run rfl rfl rfl ?_
            refine W.det (.lp 900000 1 20) _ rfl ?_
            refine R.run rfl rfl rfl ?_
            refine W.det (.d (.v (.int .i64 p_.Window))) _ rfl ?_
            refine R.run rfl rfl rfl ?_
            refine W.det (.d (.v (.bool (decide (p_.Window ≤ s3.2))))) _ rfl ?_
            refine R.one rfl ?_
            refine W.det (.d (.v (.bool (decide (p_.Window ≤ s3.2))))) _ rfl ?_
            refine R.one rfl ?_
            refine W.det (.d (.v (.bool (decide (p_.Window ≤ s3.2))))) _ rfl ?_
            refine R.gT rfl rfl rfl h (fun _ h => ?_) (fun _ h => ?_)
            · refine W.det (.d (.fz (List.map encB up_))) _ rfl ?_
              refine R.run rfl rfl rfl ?_
              refine W.det (.d (.v (.int .i64 s3.2))) _ rfl ?_
              refine R.run rfl rfl rfl ?_
              refine W.det (.lp 900000 1 20) _ rfl ?_
              refine R.run rfl rfl rfl ?_
              refine W.det (.d (.v (.int .i64 p_.Window))) _ rfl ?_
              refine R.run rfl rfl rfl ?_
              refine W.det (.d (.v (.int .i64 (IntKind.i64.wrap (s3.2 - p_.Window))))) _ rfl ?_
              refine R.run rfl rfl rfl ?_
              refine bindK h fun x106 hx106 h => ?_
              refine W.chk rfl (elemB hx106) ?_
              refine W.elem rfl (elemG hx106) ?_
              refine W.chk rfl rfl ?_
              refine W.det (.fp [.v (.bool x106)]) _ rfl ?_
              refine R.run rfl rfl rfl ?_
              refine W.det (.d (.v (.bool x106))) _ rfl ?_
              refine R.run rfl rfl rfl ?_
              refine W.det (.d (.v (.bool (!x106)))) _ rfl ?_
              refine R.one rfl ?_
              refine W.det (.d (.v (.bool (!x106)))) _ rfl ?_
              refine R.nil ?_
              refine seqK.n ?_
              refine A.condB rfl h (fun _ h => ?_) (fun _ h => ?_)
              · refine A.region ?_
                refine R.one rfl ?_
                refine W.det (.d (.v (.int .i64 (IntKind.i64.wrap (s3.1 + (1 : Int)))))) _ rfl ?_
                refine R.one rfl ?_
                refine W.det (.d (.v (.int .i64 (IntKind.i64.wrap ((IntKind.i64.wrap (s3.1 + (1 : Int))) - (1 : Int)))))) _ rfl ?_
                refine R.one rfl ?_
                refine W.det (.d (.v (.int .i64 (IntKind.i64.wrap ((IntKind.i64.wrap (s3.1 + (1 : Int))) - (1 : Int)))))) _ rfl ?_
                refine R.nil ?_
                refine seqK.n ?_
                refine A.seq rfl ?_
                refine A.region ?_
                refine R.one rfl ?_
                refine W.det (.d (.v (.int .i64 (IntKind.i64.wrap ((IntKind.i64.wrap (s3.1 + (1 : Int))) - (1 : Int)))))) _ rfl ?_
                refine R.one rfl ?_
                refine W.det (.lp 900000 1 19) _ rfl ?_
                refine R.one rfl ?_
                refine W.det (.d (.v (.int .i64 p_.Down))) _ rfl ?_
                refine R.one rfl ?_
                refine W.det (.d (.v (.bool (decide (p_.Down < (IntKind.i64.wrap ((IntKind.i64.wrap (s3.1 + (1 : Int))) - (1 : Int)))))))) _ rfl ?_
                refine R.nil ?_
                refine seqK.n ?_
                refine A.condB rfl h (fun _ h => ?_) (fun _ h => ?_)
                · refine A.seq rfl ?_
                  refine A.region ?_
                  refine R.one rfl ?_
                  refine W.det (.kb false) _ rfl ?_
                  refine R.nil ?_
                  refine seqK.n ?_
                  refine A.ret ?_
                  refine blockK.r ?_
                  refine seqK.r ?_
                  refine headK.r ?_
                  refine blockK.r ?_
                  refine headK.r ?_
                  injection h with h
                  subst h
                  cases hG
                  exact ⟨rfl, trivial⟩
                · refine A.skip ?_
                  refine blockK.n ?_
                  refine seqK.n ?_
                  refine A.region ?_
                  refine R.one rfl ?_
                  refine W.det (.d (.v (.int .i64 (IntKind.i64.wrap (s3.2 + (1 : Int)))))) _ rfl ?_
                  refine R.one rfl ?_
                  refine W.det (.d (.v (.int .i64 (IntKind.i64.wrap (s3.2 + (1 : Int)))))) _ rfl ?_
                  refine R.nil ?_
                  injection h with h
                  subst h
                  exact headK.n hG (Enters.of [] [(900000, (900000, 1))] _ rfl rfl (chkE.c rfl rfl (chkE.c rfl rfl (chkE.c rfl rfl (chkE.c rfl rfl (chkE.c rfl rfl (chkE.c rfl rfl trivial)))))) (chkM.c rfl rfl trivial))
              · refine A.skip ?_
                refine seqK.n ?_
                refine A.seq rfl ?_
                refine A.region ?_
                refine R.one rfl ?_
                refine W.det (.d (.v (.int .i64 (IntKind.i64.wrap (s3.1 + (1 : Int)))))) _ rfl ?_
                refine R.one rfl ?_
                refine W.det (.lp 900000 1 19) _ rfl ?_
                refine R.one rfl ?_
                refine W.det (.d (.v (.int .i64 p_.Down))) _ rfl ?_
                refine R.one rfl ?_
                refine W.det (.d (.v (.bool (decide (p_.Down < (IntKind.i64.wrap (s3.1 + (1 : Int)))))))) _ rfl ?_
                refine R.nil ?_
                refine seqK.n ?_
                refine A.condB rfl h (fun _ h => ?_) (fun _ h => ?_)
                · refine A.seq rfl ?_
                  refine A.region ?_
                  refine R.one rfl ?_
                  refine W.det (.kb false) _ rfl ?_
                  refine R.nil ?_
                  refine seqK.n ?_
                  refine A.ret ?_
                  refine blockK.r ?_
                  refine seqK.r ?_
                  refine headK.r ?_
                  refine blockK.r ?_
                  refine headK.r ?_
                  injection h with h
                  subst h
                  cases hG
                  exact ⟨rfl, trivial⟩
                · refine A.skip ?_
                  refine blockK.n ?_
                  refine seqK.n ?_
                  refine A.region ?_
                  refine R.one rfl ?_
                  refine W.det (.d (.v (.int .i64 (IntKind.i64.wrap (s3.2 + (1 : Int)))))) _ rfl ?_
                  refine R.one rfl ?_
                  refine W.det (.d (.v (.int .i64 (IntKind.i64.wrap (s3.2 + (1 : Int)))))) _ rfl ?_
                  refine R.nil ?_
                  injection h with h
                  subst h
                  exact headK.n hG (Enters.of [] [(900000, (900000, 1))] _ rfl rfl (chkE.c rfl rfl (chkE.c rfl rfl (chkE.c rfl rfl (chkE.c rfl rfl (chkE.c rfl rfl (chkE.c rfl rfl trivial)))))) (chkM.c rfl rfl trivial))
            · refine R.skip rfl rfl rfl ?_
              refine R.skip rfl rfl rfl ?_
              refine R.skip rfl rfl rfl ?_
              refine R.skip rfl rfl rfl ?_
              refine R.skip rfl rfl rfl ?_
              refine R.skip rfl rfl rfl ?_
              refine R.skip rfl rfl rfl ?_
              refine R.one rfl ?_
              refine W.det (.kb false) _ rfl ?_
              refine R.nil ?_
              refine seqK.n ?_
              refine A.condF rfl ?_
              refine A.skip ?_
              refine seqK.n ?_
              refine A.seq rfl ?_
              refine A.region ?_
              refine R.one rfl ?_
              refine W.det (.d (.v (.int .i64 (IntKind.i64.wrap (s3.1 + (1 : Int)))))) _ rfl ?_
              refine R.one rfl ?_
              refine W.det (.lp 900000 1 19) _ rfl ?_
              refine R.one rfl ?_
              refine W.det (.d (.v (.int .i64 p_.Down))) _ rfl ?_
              refine R.one rfl ?_
              refine W.det (.d (.v (.bool (decide (p_.Down < (IntKind.i64.wrap (s3.1 + (1 : Int)))))))) _ rfl ?_
              refine R.nil ?_
              refine seqK.n ?_
              refine A.condB rfl h (fun _ h => ?_) (fun _ h => ?_)
              · refine A.seq rfl ?_
                refine A.region ?_
                refine R.one rfl ?_
                refine W.det (.kb false) _ rfl ?_
                refine R.nil ?_
                refine seqK.n ?_
                refine A.ret ?_
                refine blockK.r ?_
                refine seqK.r ?_
                refine headK.r ?_
                refine blockK.r ?_
                refine headK.r ?_
                injection h with h
                subst h
                cases hG
                exact ⟨rfl, trivial⟩
              · refine A.skip ?_
                refine blockK.n ?_
                refine seqK.n ?_
                refine A.region ?_
                refine R.one rfl ?_
                refine W.det (.d (.v (.int .i64 (IntKind.i64.wrap (s3.2 + (1 : Int)))))) _ rfl ?_
                refine R.one rfl ?_
                refine W.det (.d (.v (.int .i64 (IntKind.i64.wrap (s3.2 + (1 : Int)))))) _ rfl ?_
                refine R.nil ?_
                injection h with h
                subst h
                exact headK.n hG (Enters.of [] [(900000, (900000, 1))] _ rfl rfl (chkE.c rfl rfl (chkE.c rfl rfl (chkE.c rfl rfl (chkE.c rfl rfl (chkE.c rfl rfl (chkE.c rfl rfl trivial)))))) (chkM.c rfl rfl trivial))
          · refine R.skip rfl rfl rfl ?_
            refine R.skip rfl rfl rfl ?_
            refine R.skip rfl rfl rfl ?_
            refine R.one rfl ?_
            refine W.det (.kb false) _ rfl ?_
            refine R.one rfl ?_
            refine W.det (.kb false) _ rfl ?_
            refine R.skip rfl rfl rfl ?_
            refine R.skip rfl rfl rfl ?_
            refine R.skip rfl rfl rfl ?_
            refine R.skip rfl rfl rfl ?_
            refine R.skip rfl rfl rfl ?_
            refine R.skip rfl rfl rfl ?_
            refine R.skip rfl rfl rfl ?_
            refine R.skip rfl rfl rfl ?_
            refine R.one rfl ?_
            refine W.det (.kb false) _ rfl ?_
            refine R.nil ?_
            refine seqK.n ?_
            refine A.condF rfl ?_
            refine A.skip ?_
            refine seqK.n ?_
            refine A.seq rfl ?_
            refine A.region ?_
            refine R.one rfl ?_
            refine W.det (.d (.v (.int .i64 (IntKind.i64.wrap (s3.1 + (1 : Int)))))) _ rfl ?_
            refine R.one rfl ?_
            refine W.det (.lp 900000 1 19) _ rfl ?_
            refine R.one rfl ?_
            refine W.det (.d (.v (.int .i64 p_.Down))) _ rfl ?_
            refine R.one rfl ?_
            refine W.det (.d (.v (.bool (decide (p_.Down < (IntKind.i64.wrap (s3.1 + (1 : Int)))))))) _ rfl ?_
            refine R.nil ?_
            refine seqK.n ?_
            refine A.condB rfl h (fun _ h => ?_) (fun _ h => ?_)
            · refine A.seq rfl ?_
              refine A.region ?_
              refine R.one rfl ?_
              refine W.det (.kb false) _ rfl ?_
              refine R.nil ?_
              refine seqK.n ?_
              refine A.ret ?_
              refine blockK.r ?_
              refine seqK.r ?_
              refine headK.r ?_
              refine blockK.r ?_
              refine headK.r ?_
              injection h with h
              subst h
              cases hG
              exact ⟨rfl, trivial⟩
            · refine A.skip ?_
              refine blockK.n ?_
              refine seqK.n ?_
              refine A.region ?_
              refine R.one rfl ?_
              refine W.det (.d (.v (.int .i64 (IntKind.i64.wrap (s3.2 + (1 : Int)))))) _ rfl ?_
              refine R.one rfl ?_
              refine W.det (.d (.v (.int .i64 (IntKind.i64.wrap (s3.2 + (1 : Int)))))) _ rfl ?_
              refine R.nil ?_
              injection h with h
              subst h
              exact headK.n hG (Enters.of [] [(900000, (900000, 1))] _ rfl rfl (chkE.c rfl rfl (chkE.c rfl rfl (chkE.c rfl rfl (chkE.c rfl rfl (chkE.c rfl rfl (chkE.c rfl rfl trivial)))))) (chkM.c rfl rfl trivial))
        · refine A.skip ?_
          refine seqK.n ?_
          refine A.seq rfl ?_
          refine A.seq rfl ?_
          refine A.region ?_
          refine R.one rfl ?_
          refine W.det (.lp 900000 1 19) _ rfl ?_
          refine R.one rfl ?_
          refine W.det (.d (.v (.int .i64 p_.Down))) _ rfl ?_
          refine R.one rfl ?_
          refine W.det (.d (.v (.bool (decide ((0 : Int) < p_.Down))))) _ rfl ?_
          refine R.one rfl ?_
          refine W.det (.d (.v (.bool (decide ((0 : Int) < p_.Down))))) _ rfl ?_
          refine R.gT rfl rfl rfl h (fun _ h => ?_) (fun _ h => ?_)
          · refine W.det (.d (.v (.int .i64 s3.2))) _ rfl ?_
            refine R.run rfl rfl rfl ?_
            refine W.det (.lp 900000 1 20) _ rfl ?_
            refine R.run rfl rfl rfl ?_
            refine W.det (.d (.v (.int .i64 p_.Window))) _ rfl ?_
            refine R.run rfl rfl rfl ?_
            refine W.det (.d (.v (.bool (decide (p_.Window ≤ s3.2))))) _ rfl ?_
            refine R.one rfl ?_
            refine W.det (.d (.v (.bool (decide (p_.Window ≤ s3.2))))) _ rfl ?_
            refine R.one rfl ?_
            refine W.det (.d (.v (.bool (decide (p_.Window ≤ s3.2))))) _ rfl ?_
            refine R.gT rfl rfl rfl h (fun _ h => ?_) (fun _ h => ?_)
            · refine W.det (.d (.fz (List.map encB up_))) _ rfl ?_
              refine R.run rfl rfl rfl ?_
              refine W.det (.d (.v (.int .i64 s3.2))) _ rfl ?_
              refine R.run rfl rfl rfl ?_
              refine W.det (.lp 900000 1 20) _ rfl ?_
              refine R.run rfl rfl rfl ?_
              refine W.det (.d (.v (.int .i64 p_.Window))) _ rfl ?_
              refine R.run rfl rfl rfl ?_
              refine W.det (.d (.v (.int .i64 (IntKind.i64.wrap (s3.2 - p_.Window))))) _ rfl ?_
              refine R.run rfl rfl rfl ?_
              refine bindK h fun x110 hx110 h => ?_
              refine W.chk rfl (elemB hx110) ?_
              refine W.elem rfl (elemG hx110) ?_
              refine W.chk rfl rfl ?_
              refine W.det (.fp [.v (.bool x110)]) _ rfl ?_
              refine R.run rfl rfl rfl ?_
              refine W.det (.d (.v (.bool x110))) _ rfl ?_
              refine R.run rfl rfl rfl ?_
              refine W.det (.d (.v (.bool (!x110)))) _ rfl ?_
              refine R.one rfl ?_
              refine W.det (.d (.v (.bool (!x110)))) _ rfl ?_
              refine R.nil ?_
              refine seqK.n ?_
              refine A.condB rfl h (fun _ h => ?_) (fun _ h => ?_)
              · refine A.region ?_
                refine R.one rfl ?_
                refine W.det (.d (.v (.int .i64 s3.1))) _ rfl ?_
                refine R.one rfl ?_
                refine W.det (.d (.v (.int .i64 (IntKind.i64.wrap (s3.1 - (1 : Int)))))) _ rfl ?_
                refine R.one rfl ?_
                refine W.det (.d (.v (.int .i64 (IntKind.i64.wrap (s3.1 - (1 : Int)))))) _ rfl ?_
                refine R.nil ?_
                refine seqK.n ?_
                refine A.seq rfl ?_
                refine A.region ?_
                refine R.one rfl ?_
                refine W.det (.d (.v (.int .i64 (IntKind.i64.wrap (s3.1 - (1 : Int)))))) _ rfl ?_
                refine R.one rfl ?_
                refine W.det (.lp 900000 1 19) _ rfl ?_
                refine R.one rfl ?_
                refine W.det (.d (.v (.int .i64 p_.Down))) _ rfl ?_
                refine R.one rfl ?_
                refine W.det (.d (.v (.bool (decide (p_.Down < (IntKind.i64.wrap (s3.1 - (1 : Int)))))))) _ rfl ?_
                refine R.nil ?_
                refine seqK.n ?_
                refine A.condB rfl h (fun _ h => ?_) (fun _ h => ?_)
                · refine A.seq rfl ?_
                  refine A.region ?_
                  refine R.one rfl ?_
                  refine W.det (.kb false) _ rfl ?_
                  refine R.nil ?_
                  refine seqK.n ?_
                  refine A.ret ?_
                  refine blockK.r ?_
                  refine seqK.r ?_
                  refine headK.r ?_
                  refine blockK.r ?_
                  refine headK.r ?_
                  injection h with h
                  subst h
                  cases hG
                  exact ⟨rfl, trivial⟩
                · refine A.skip ?_
                  refine blockK.n ?_
                  refine seqK.n ?_
                  refine A.region ?_
                  refine R.one rfl ?_
                  refine W.det (.d (.v (.int .i64 (IntKind.i64.wrap (s3.2 + (1 : Int)))))) _ rfl ?_
                  refine R.one rfl ?_
                  refine W.det (.d (.v (.int .i64 (IntKind.i64.wrap (s3.2 + (1 : Int)))))) _ rfl ?_
                  refine R.nil ?_
                  injection h with h
                  subst h
                  exact headK.n hG (Enters.of [] [(900000, (900000, 1))] _ rfl rfl (chkE.c rfl rfl (chkE.c rfl rfl (chkE.c rfl rfl (chkE.c rfl rfl (chkE.c rfl rfl (chkE.c rfl rfl trivial)))))) (chkM.c rfl rfl trivial))
              · refine A.skip ?_
                refine seqK.n ?_
                refine A.seq rfl ?_
                refine A.region ?_
                refine R.one rfl ?_
                refine W.det (.d (.v (.int .i64 s3.1))) _ rfl ?_
                refine R.one rfl ?_
                refine W.det (.lp 900000 1 19) _ rfl ?_
                refine R.one rfl ?_
                refine W.det (.d (.v (.int .i64 p_.Down))) _ rfl ?_
                refine R.one rfl ?_
                refine W.det (.d (.v (.bool (decide (p_.Down < s3.1))))) _ rfl ?_
                refine R.nil ?_
                refine seqK.n ?_
                refine A.condB rfl h (fun _ h => ?_) (fun _ h => ?_)
                · refine A.seq rfl ?_
                  refine A.region ?_
                  refine R.one rfl ?_
                  refine W.det (.kb false) _ rfl ?_
                  refine R.nil ?_
                  refine seqK.n ?_
                  refine A.ret ?_
                  refine blockK.r ?_
                  refine seqK.r ?_
                  refine headK.r ?_
                  refine blockK.r ?_
                  refine headK.r ?_
                  injection h with h
                  subst h
                  cases hG
                  exact ⟨rfl, trivial⟩
                · refine A.skip ?_
                  refine blockK.n ?_
                  refine seqK.n ?_
                  refine A.region ?_
                  refine R.one rfl ?_
                  refine W.det (.d (.v (.int .i64 (IntKind.i64.wrap (s3.2 + (1 : Int)))))) _ rfl ?_
                  refine R.one rfl ?_
                  refine W.det (.d (.v (.int .i64 (IntKind.i64.wrap (s3.2 + (1 : Int)))))) _ rfl ?_
                  refine R.nil ?_
                  injection h with h
                  subst h
                  exact headK.n hG (Enters.of [] [(900000, (900000, 1))] _ rfl rfl (chkE.c rfl rfl (chkE.c rfl rfl (chkE.c rfl rfl (chkE.c rfl rfl (chkE.c rfl rfl (chkE.c rfl rfl trivial)))))) (chkM.c rfl rfl trivial))
            · refine R.skip rfl rfl rfl ?_
              refine R.skip rfl rfl rfl ?_
              refine R.skip rfl rfl rfl ?_
              refine R.skip rfl rfl rfl ?_
              refine R.skip rfl rfl rfl ?_
              refine R.skip rfl rfl rfl ?_
              refine R.skip rfl rfl rfl ?_
              refine R.one rfl ?_
              refine W.det (.kb false) _ rfl ?_
              refine R.nil ?_
              refine seqK.n ?_
              refine A.condF rfl ?_
              refine A.skip ?_
              refine seqK.n ?_
              refine A.seq rfl ?_
              refine A.region ?_
              refine R.one rfl ?_
              refine W.det (.d (.v (.int .i64 s3.1))) _ rfl ?_
              refine R.one rfl ?_
              refine W.det (.lp 900000 1 19) _ rfl ?_
              refine R.one rfl ?_
              refine W.det (.d (.v (.int .i64 p_.Down))) _ rfl ?_
              refine R.one rfl ?_
              refine W.det (.d (.v (.bool (decide (p_.Down < s3.1))))) _ rfl ?_
              refine R.nil ?_
              refine seqK.n ?_
              refine A.condB rfl h (fun _ h => ?_) (fun _ h => ?_)
              · refine A.seq rfl ?_
                refine A.region ?_
                refine R.one rfl ?_
                refine W.det (.kb false) _ rfl ?_
                refine R.nil ?_
                refine seqK.n ?_
                refine A.ret ?_
                refine blockK.r ?_
                refine seqK.r ?_
                refine headK.r ?_
                refine blockK.r ?_
                refine headK.r ?_
                injection h with h
                subst h
                cases hG
                exact ⟨rfl, trivial⟩
              · refine A.skip ?_
                refine blockK.n ?_
                refine seqK.n ?_
                refine A.region ?_
                refine R.one rfl ?_
                refine W.det (.d (.v (.int .i64 (IntKind.i64.wrap (s3.2 + (1 : Int)))))) _ rfl ?_
                refine R.one rfl ?_
                refine W.det (.d (.v (.int .i64 (IntKind.i64.wrap (s3.2 + (1 : Int)))))) _ rfl ?_
                refine R.nil ?_
                injection h with h
                subst h
                exact headK.n hG (Enters.of [] [(900000, (900000, 1))] _ rfl rfl (chkE.c rfl rfl (chkE.c rfl rfl (chkE.c rfl rfl (chkE.c rfl rfl (chkE.c rfl rfl (chkE.c rfl rfl trivial)))))) (chkM.c rfl rfl trivial))
          · refine R.skip rfl rfl rfl ?_
            refine R.skip rfl rfl rfl ?_
            refine R.skip rfl rfl rfl ?_
            refine R.one rfl ?_
            refine W.det (.kb false) _ rfl ?_
            refine R.one rfl ?_
            refine W.det (.kb false) _ rfl ?_
            refine R.skip rfl rfl rfl ?_
            refine R.skip rfl rfl rfl ?_
            refine R.skip rfl rfl rfl ?_
            refine R.skip rfl rfl rfl ?_
            refine R.skip rfl rfl rfl ?_
            refine R.skip rfl rfl rfl ?_
            refine R.skip rfl rfl rfl ?_
            refine R.skip rfl rfl rfl ?_
            refine R.one rfl ?_
            refine W.det (.kb false) _ rfl ?_
            refine R.nil ?_
            refine seqK.n ?_
            refine A.condF rfl ?_
            refine A.skip ?_
            refine seqK.n ?_
            refine A.seq rfl ?_
            refine A.region ?_
            refine R.one rfl ?_
            refine W.det (.d (.v (.int .i64 s3.1))) _ rfl ?_
            refine R.one rfl ?_
            refine W.det (.lp 900000 1 19) _ rfl ?_
            refine R.one rfl ?_
            refine W.det (.d (.v (.int .i64 p_.Down))) _ rfl ?_
            refine R.one rfl ?_
            refine W.det (.d (.v (.bool (decide (p_.Down < s3.1))))) _ rfl ?_
            refine R.nil ?_
            refine seqK.n ?_
            refine A.condB rfl h (fun _ h => ?_) (fun _ h => ?_)
            · refine A.seq rfl ?_
              refine A.region ?_
              refine R.one rfl ?_
              refine W.det (.kb false) _ rfl ?_
              refine R.nil ?_
              refine seqK.n ?_
              refine A.ret ?_
              refine blockK.r ?_
              refine seqK.r ?_
              refine headK.r ?_
              refine blockK.r ?_
              refine headK.r ?_
              injection h with h
              subst h
              cases hG
              exact ⟨rfl, trivial⟩
            · refine A.skip ?_
              refine blockK.n ?_
              refine seqK.n ?_
              refine A.region ?_
              refine R.one rfl ?_
              refine W.det (.d (.v (.int .i64 (IntKind.i64.wrap (s3.2 + (1 : Int)))))) _ rfl ?_
              refine R.one rfl ?_
              refine W.det (.d (.v (.int .i64 (IntKind.i64.wrap (s3.2 + (1 : Int)))))) _ rfl ?_
              refine R.nil ?_
              injection h with h
              subst h
              exact headK.n hG (Enters.of [] [(900000, (900000, 1))] _ rfl rfl (chkE.c rfl rfl (chkE.c rfl rfl (chkE.c rfl rfl (chkE.c rfl rfl (chkE.c rfl rfl (chkE.c rfl rfl trivial)))))) (chkM.c rfl rfl trivial))
      · refine A.exit ?_
        refine seqK.e ?_
        refine headK.e ?_
        refine blockK.x ?_
        injection h with h
        subst h
        exact headK.n hG (Enters.of [] [] _ rfl rfl trivial trivial)
    · intro s2 r2 h hG
      refine A.seq rfl ?_
      refine A.region ?_
      refine R.one rfl ?_
      refine W.det (.kb true) _ rfl ?_
      refine R.nil ?_
      refine seqK.n ?_
      refine A.ret ?_
      injection h with h
      subst h
      cases hG
      exact ⟨rfl, trivial⟩
noncomputable def supply_Given_L1 (up_ : (List Bool)) (s3 : Int × Int) : Option ((Int × Int) ⊕ ((Int) ⊕ (Int × Int))) :=
  (bif (decide (s3.2 < (up_.length : Int))) then
    (getI up_ s3.2).bind fun x14 =>
    (bif x14 then
      some (.inl ((IntKind.i64.wrap (s3.1 + (1 : Int))), (IntKind.i64.wrap (s3.2 + (1 : Int)))))
    else
      some (.inl (s3.1, (IntKind.i64.wrap (s3.2 + (1 : Int))))))
  else
    some (.inr (.inl s3.1)))
noncomputable def supply_Given (p_ : api_Profile) (up_ : (List Bool)) : Option (Int × Int) :=
  (profile_Check p_).bind fun y2 =>
  (bif (y2 != (0 : Int)) then
    some ((0 : Int), (1 : Int))
  else
    (seqF (A := Int) (
      loopF (supply_Given_L1 up_) ((0 : Int), (0 : Int)))
    fun s2 =>
      (supply_places p_ s2).bind fun y15 =>
      some (y15.1, y15.2)))
theorem supply_Given_fn {p_ : api_Profile} {up_ : (List Bool)} {r : Int × Int} (h : supply_Given p_ up_ = some r) : Fn Try.prog 22 [.agg [.d (.v (.string p_.Name)), .d (.v (.int .i64 p_.Edit)), .d (.v (.int .i64 p_.Within)), .d (.v (.int .i64 p_.Delete)), .d (.v (.bool p_.React)), .d (.v (.int .i64 p_.Thread)), .d (.v (.bool p_.Quote)), .d (.v (.bool p_.Mention)), .d (.v (.int .i64 p_.Size)), .d (.v (.int .i64 p_.Parts)), .d (.v (.int .i64 p_.Files)), .d (.v (.int .i64 p_.Bytes)), .d (.fz (List.map encS p_.Types)), .d (.v (.int .i64 p_.Join)), .d (.v (.int .i64 p_.History)), .d (.v (.int .i64 p_.Remove)), .d (.v (.int .i64 p_.Level)), .d (.v (.bool p_.Batch)), .d (.v (.int .i64 p_.Rate)), .d (.v (.int .i64 p_.Down)), .d (.v (.int .i64 p_.Window)), .d (.v (.int .i64 p_.Keep))], .d (.fz (List.map encB up_))] (.tup [.d (.v (.int .i64 r.1)), .d (.v (.int .i64 r.2))]) := by
  refine Fn.of_AW (F := FnX Try.prog) (base := 0) (js := [10]) mixed tok noeqs (fun _ _ _ h => h) Try.call22 Try.func22 rfl Try.ntmps22 (by rw [Try.results22]) (by simp) ?_
  have hG : (fun x => x = r) r := rfl
  unfold supply_Given at h
  refine A.seq rfl ?_
  refine A.region ?_
  refine R.one rfl ?_
  refine W.det (.lp 2 1 0) (Mem.add _ 2 (.box [.d (.v (.string p_.Name)), .d (.v (.int .i64 p_.Edit)), .d (.v (.int .i64 p_.Within)), .d (.v (.int .i64 p_.Delete)), .d (.v (.bool p_.React)), .d (.v (.int .i64 p_.Thread)), .d (.v (.bool p_.Quote)), .d (.v (.bool p_.Mention)), .d (.v (.int .i64 p_.Size)), .d (.v (.int .i64 p_.Parts)), .d (.v (.int .i64 p_.Files)), .d (.v (.int .i64 p_.Bytes)), .d (.fz (List.map encS p_.Types)), .d (.v (.int .i64 p_.Join)), .d (.v (.int .i64 p_.History)), .d (.v (.int .i64 p_.Remove)), .d (.v (.int .i64 p_.Level)), .d (.v (.bool p_.Batch)), .d (.v (.int .i64 p_.Rate)), .d (.v (.int .i64 p_.Down)), .d (.v (.int .i64 p_.Window)), .d (.v (.int .i64 p_.Keep))])) rfl ?_
  refine R.one rfl ?_
  refine W.det (.d (.v (.int .i64 (0 : Int)))) _ rfl ?_
  refine R.one rfl ?_
  refine W.det (.d (.v (.int .i64 (0 : Int)))) _ rfl ?_
  refine R.nil ?_
  refine seqK.n ?_
  refine A.seq rfl ?_
  refine A.seq rfl ?_
  refine A.region ?_
  refine R.one rfl ?_
  refine W.det (.agg [.d (.v (.string p_.Name)), .d (.v (.int .i64 p_.Edit)), .d (.v (.int .i64 p_.Within)), .d (.v (.int .i64 p_.Delete)), .d (.v (.bool p_.React)), .d (.v (.int .i64 p_.Thread)), .d (.v (.bool p_.Quote)), .d (.v (.bool p_.Mention)), .d (.v (.int .i64 p_.Size)), .d (.v (.int .i64 p_.Parts)), .d (.v (.int .i64 p_.Files)), .d (.v (.int .i64 p_.Bytes)), .d (.fz (List.map encS p_.Types)), .d (.v (.int .i64 p_.Join)), .d (.v (.int .i64 p_.History)), .d (.v (.int .i64 p_.Remove)), .d (.v (.int .i64 p_.Level)), .d (.v (.bool p_.Batch)), .d (.v (.int .i64 p_.Rate)), .d (.v (.int .i64 p_.Down)), .d (.v (.int .i64 p_.Window)), .d (.v (.int .i64 p_.Keep))]) _ rfl ?_
  refine R.one rfl ?_
  refine bindK h fun y2 hy2 h => ?_
  refine W.call rfl (profile_Check_fn hy2) ?_
  refine W.det (.d (.v (.int .i64 y2))) _ rfl ?_
  refine R.one rfl ?_
  refine W.det (.d (.v (.bool (y2 != (0 : Int))))) _ rfl ?_
  refine R.nil ?_
  refine seqK.n ?_
  refine A.condB rfl h (fun _ h => ?_) (fun _ h => ?_)
  · refine A.seq rfl ?_
    refine A.region ?_
    refine R.one rfl ?_
    refine W.det (.d (.v (.int .i64 (0 : Int)))) _ rfl ?_
    refine R.one rfl ?_
    refine W.det (.d (.v (.int .i64 (1 : Int)))) _ rfl ?_
    refine R.nil ?_
    refine seqK.n ?_
    refine A.ret ?_
    refine seqK.r ?_
    injection h with h
    subst h
    cases hG
    exact ⟨rfl, rfl, trivial⟩
  · refine A.skip ?_
    refine seqK.n ?_
    refine A.seq rfl ?_
    refine A.region ?_
    refine R.one rfl ?_
    refine W.det (.d (.v (.int .i64 (0 : Int)))) _ rfl ?_
    refine R.nil ?_
    refine seqK.n ?_
    refine A.join (fun (s2 : Int) => [(2, .lp 900000 1 0), (6, .d (.v (.int .i64 s2)))]) (fun s2 => [(900000, .box [.d (.v (.string p_.Name)), .d (.v (.int .i64 p_.Edit)), .d (.v (.int .i64 p_.Within)), .d (.v (.int .i64 p_.Delete)), .d (.v (.bool p_.React)), .d (.v (.int .i64 p_.Thread)), .d (.v (.bool p_.Quote)), .d (.v (.bool p_.Mention)), .d (.v (.int .i64 p_.Size)), .d (.v (.int .i64 p_.Parts)), .d (.v (.int .i64 p_.Files)), .d (.v (.int .i64 p_.Bytes)), .d (.fz (List.map encS p_.Types)), .d (.v (.int .i64 p_.Join)), .d (.v (.int .i64 p_.History)), .d (.v (.int .i64 p_.Remove)), .d (.v (.int .i64 p_.Level)), .d (.v (.bool p_.Batch)), .d (.v (.int .i64 p_.Rate)), .d (.v (.int .i64 p_.Down)), .d (.v (.int .i64 p_.Window)), .d (.v (.int .i64 p_.Keep))])]) _ h hG rfl ?_ ?_
    · intro J f h hG
      refine A.seq rfl ?_
      refine A.region ?_
      refine R.one rfl ?_
      refine W.det (.d (.fz (List.map encB up_))) _ rfl ?_
      refine R.one rfl ?_
      refine W.len rfl ?_
      refine R.one rfl ?_
      refine W.det (.d (.v (.int .i64 (0 : Int)))) _ rfl ?_
      refine R.nil ?_
      refine seqK.n ?_
      refine A.block ?_
      refine A.loop (fun (s3 : Int × Int) => [(2, .lp 900000 1 0), (6, .d (.v (.int .i64 s3.1))), (12, .d (.fz (List.map encB up_))), (13, .d (.v (.int .i64 (up_.length : Int)))), (14, .d (.v (.int .i64 s3.2)))]) (fun s3 => [(900000, .box [.d (.v (.string p_.Name)), .d (.v (.int .i64 p_.Edit)), .d (.v (.int .i64 p_.Within)), .d (.v (.int .i64 p_.Delete)), .d (.v (.bool p_.React)), .d (.v (.int .i64 p_.Thread)), .d (.v (.bool p_.Quote)), .d (.v (.bool p_.Mention)), .d (.v (.int .i64 p_.Size)), .d (.v (.int .i64 p_.Parts)), .d (.v (.int .i64 p_.Files)), .d (.v (.int .i64 p_.Bytes)), .d (.fz (List.map encS p_.Types)), .d (.v (.int .i64 p_.Join)), .d (.v (.int .i64 p_.History)), .d (.v (.int .i64 p_.Remove)), .d (.v (.int .i64 p_.Level)), .d (.v (.bool p_.Batch)), .d (.v (.int .i64 p_.Rate)), .d (.v (.int .i64 p_.Down)), .d (.v (.int .i64 p_.Window)), .d (.v (.int .i64 p_.Keep))])]) _ h hG (Enters.of [] [(900000, (2, 1))] _ rfl rfl (chkE.c rfl rfl (chkE.c rfl rfl (chkE.c rfl rfl (chkE.c rfl rfl (chkE.c rfl rfl trivial))))) (chkM.c rfl rfl trivial)) ?_
      intro J s3 f h hG
      unfold supply_Given_L1 at h
      refine A.seq rfl ?_
      refine A.region ?_
      refine R.one rfl ?_
      refine W.det (.d (.v (.bool (decide (s3.2 < (up_.length : Int)))))) _ rfl ?_
      refine R.nil ?_
      refine seqK.n ?_
      refine A.seq rfl ?_
      refine A.condB rfl h (fun _ h => ?_) (fun _ h => ?_)
      · refine A.skip ?_
        refine seqK.n ?_
        refine A.seq rfl ?_
        refine A.block ?_
        refine A.seq rfl ?_
        refine A.region ?_
        refine R.one rfl ?_
        refine bindK h fun x14 hx14 h => ?_
        refine W.chk rfl (elemB hx14) ?_
        refine W.elem rfl (elemG hx14) ?_
        refine W.chk rfl rfl ?_
        refine W.det (.fp [.v (.bool x14)]) _ rfl ?_
        refine R.one rfl ?_
        refine W.det (.d (.v (.bool x14))) _ rfl ?_
        refine R.one rfl ?_
        refine W.det (.d (.v (.bool x14))) _ rfl ?_
        refine R.nil ?_
        refine seqK.n ?_
        refine A.seq rfl ?_
        refine A.region ?_
        refine R.one rfl ?_
        refine W.det (.d (.v (.bool x14))) _ rfl ?_
        refine R.nil ?_
        refine seqK.n ?_
        refine A.condB rfl h (fun _ h => ?_) (fun _ h => ?_)
        · refine A.region ?_
          refine R.one rfl ?_
          refine W.det (.d (.v (.int .i64 s3.1))) _ rfl ?_
          refine R.one rfl ?_
          refine W.det (.d (.v (.int .i64 (IntKind.i64.wrap (s3.1 + (1 : Int)))))) _ rfl ?_
          refine R.one rfl ?_
          refine W.det (.d (.v (.int .i64 (IntKind.i64.wrap (s3.1 + (1 : Int)))))) _ rfl ?_
          refine R.nil ?_
          refine blockK.n ?_
          refine seqK.n ?_
          refine A.region ?_
          refine R.one rfl ?_
          refine W.det (.d (.v (.int .i64 (IntKind.i64.wrap (s3.2 + (1 : Int)))))) _ rfl ?_
          refine R.one rfl ?_
          refine W.det (.d (.v (.int .i64 (IntKind.i64.wrap (s3.2 + (1 : Int)))))) _ rfl ?_
          refine R.nil ?_
          injection h with h
          subst h
          exact headK.n hG (Enters.of [] [(900000, (900000, 1))] _ rfl rfl (chkE.c rfl rfl (chkE.c rfl rfl (chkE.c rfl rfl (chkE.c rfl rfl (chkE.c rfl rfl trivial))))) (chkM.c rfl rfl trivial))
        · refine A.skip ?_
          refine blockK.n ?_
          refine seqK.n ?_
          refine A.region ?_
          refine R.one rfl ?_
          refine W.det (.d (.v (.int .i64 (IntKind.i64.wrap (s3.2 + (1 : Int)))))) _ rfl ?_
          refine R.one rfl ?_
          refine W.det (.d (.v (.int .i64 (IntKind.i64.wrap (s3.2 + (1 : Int)))))) _ rfl ?_
          refine R.nil ?_
          injection h with h
          subst h
          exact headK.n hG (Enters.of [] [(900000, (900000, 1))] _ rfl rfl (chkE.c rfl rfl (chkE.c rfl rfl (chkE.c rfl rfl (chkE.c rfl rfl (chkE.c rfl rfl trivial))))) (chkM.c rfl rfl trivial))
      · refine A.exit ?_
        refine seqK.e ?_
        refine headK.e ?_
        refine blockK.x ?_
        injection h with h
        subst h
        exact headK.n hG (Enters.of [] [(900000, (900000, 1))] _ rfl rfl (chkE.c rfl rfl (chkE.c rfl rfl trivial)) (chkM.c rfl rfl trivial))
    · intro s2 r2 h hG
      refine A.seq rfl ?_
      refine A.region ?_
      refine R.one rfl ?_
      refine W.det (.agg [.d (.v (.string p_.Name)), .d (.v (.int .i64 p_.Edit)), .d (.v (.int .i64 p_.Within)), .d (.v (.int .i64 p_.Delete)), .d (.v (.bool p_.React)), .d (.v (.int .i64 p_.Thread)), .d (.v (.bool p_.Quote)), .d (.v (.bool p_.Mention)), .d (.v (.int .i64 p_.Size)), .d (.v (.int .i64 p_.Parts)), .d (.v (.int .i64 p_.Files)), .d (.v (.int .i64 p_.Bytes)), .d (.fz (List.map encS p_.Types)), .d (.v (.int .i64 p_.Join)), .d (.v (.int .i64 p_.History)), .d (.v (.int .i64 p_.Remove)), .d (.v (.int .i64 p_.Level)), .d (.v (.bool p_.Batch)), .d (.v (.int .i64 p_.Rate)), .d (.v (.int .i64 p_.Down)), .d (.v (.int .i64 p_.Window)), .d (.v (.int .i64 p_.Keep))]) _ rfl ?_
      refine R.one rfl ?_
      refine W.det (.d (.v (.int .i64 s2))) _ rfl ?_
      refine R.one rfl ?_
      refine bindK h fun y15 hy15 h => ?_
      refine W.call rfl (supply_places_fn hy15) ?_
      refine W.det (.tup [.d (.v (.int .i64 y15.1)), .d (.v (.int .i64 y15.2))]) _ rfl ?_
      refine R.one rfl ?_
      refine W.det (.d (.v (.int .i64 y15.1))) _ rfl ?_
      refine R.one rfl ?_
      refine W.det (.d (.v (.int .i64 y15.2))) _ rfl ?_
      refine R.one rfl ?_
      refine W.det (.d (.v (.int .i64 y15.1))) _ rfl ?_
      refine R.one rfl ?_
      refine W.det (.d (.v (.int .i64 y15.2))) _ rfl ?_
      refine R.nil ?_
      refine seqK.n ?_
      refine A.ret ?_
      injection h with h
      subst h
      cases hG
      exact ⟨rfl, rfl, trivial⟩
noncomputable def supply_Worst_L1 (t_ : Int) (p_ : api_Profile) (s3 : Int × (List Bool)) : Option ((Int × (List Bool)) ⊕ (((List Bool)) ⊕ ((List Bool)))) :=
  (bif (decide (s3.1 < t_)) then
    (bif (p_.Down == (0 : Int)) then
      (chkO (decide (s3.2.length + [true].length ≤ 1000000))).bind fun _ =>
      some (.inl ((IntKind.i64.wrap (s3.1 + (1 : Int))), (s3.2 ++ [true])))
    else
      (chkO (p_.Window != 0)).bind fun _ =>
      (chkO (decide (s3.2.length + [(decide (p_.Down ≤ (Int.tmod s3.1 p_.Window)))].length ≤ 1000000))).bind fun _ =>
      some (.inl ((IntKind.i64.wrap (s3.1 + (1 : Int))), (s3.2 ++ [(decide (p_.Down ≤ (Int.tmod s3.1 p_.Window)))]))))
  else
    some (.inr (.inl s3.2)))
noncomputable def supply_Worst (p_ : api_Profile) (t_ : Int) : Option ((List Bool)) :=
  (profile_Check p_).bind fun y4 =>
  (bif (y4 != (0 : Int)) then
    some ([] : List Bool)
  else
    (bif (decide (t_ < (0 : Int))) then
      some ([] : List Bool)
    else
      (bif (decide ((50000 : Int) < t_)) then
        some ([] : List Bool)
      else
        (seqF (A := (List Bool)) (
          loopF (supply_Worst_L1 t_ p_) ((0 : Int), ([] : List Bool)))
        fun s2 =>
          some s2))))
theorem supply_Worst_fn {p_ : api_Profile} {t_ : Int} {r : (List Bool)} (h : supply_Worst p_ t_ = some r) : Fn Try.prog 23 [.agg [.d (.v (.string p_.Name)), .d (.v (.int .i64 p_.Edit)), .d (.v (.int .i64 p_.Within)), .d (.v (.int .i64 p_.Delete)), .d (.v (.bool p_.React)), .d (.v (.int .i64 p_.Thread)), .d (.v (.bool p_.Quote)), .d (.v (.bool p_.Mention)), .d (.v (.int .i64 p_.Size)), .d (.v (.int .i64 p_.Parts)), .d (.v (.int .i64 p_.Files)), .d (.v (.int .i64 p_.Bytes)), .d (.fz (List.map encS p_.Types)), .d (.v (.int .i64 p_.Join)), .d (.v (.int .i64 p_.History)), .d (.v (.int .i64 p_.Remove)), .d (.v (.int .i64 p_.Level)), .d (.v (.bool p_.Batch)), .d (.v (.int .i64 p_.Rate)), .d (.v (.int .i64 p_.Down)), .d (.v (.int .i64 p_.Window)), .d (.v (.int .i64 p_.Keep))], .d (.v (.int .i64 t_))] (.ow 1 (List.map encB r)) := by
  refine Fn.of_AW (F := FnX Try.prog) (base := 0) (js := [9]) mixed tok noeqs (fun _ _ _ h => h) Try.call23 Try.func23 rfl Try.ntmps23 (by rw [Try.results23]) (by simp) ?_
  have hG : (fun x => x = r) r := rfl
  unfold supply_Worst at h
  refine A.seq rfl ?_
  refine A.region ?_
  refine R.one rfl ?_
  refine W.det (.lp 2 1 0) (Mem.add _ 2 (.box [.d (.v (.string p_.Name)), .d (.v (.int .i64 p_.Edit)), .d (.v (.int .i64 p_.Within)), .d (.v (.int .i64 p_.Delete)), .d (.v (.bool p_.React)), .d (.v (.int .i64 p_.Thread)), .d (.v (.bool p_.Quote)), .d (.v (.bool p_.Mention)), .d (.v (.int .i64 p_.Size)), .d (.v (.int .i64 p_.Parts)), .d (.v (.int .i64 p_.Files)), .d (.v (.int .i64 p_.Bytes)), .d (.fz (List.map encS p_.Types)), .d (.v (.int .i64 p_.Join)), .d (.v (.int .i64 p_.History)), .d (.v (.int .i64 p_.Remove)), .d (.v (.int .i64 p_.Level)), .d (.v (.bool p_.Batch)), .d (.v (.int .i64 p_.Rate)), .d (.v (.int .i64 p_.Down)), .d (.v (.int .i64 p_.Window)), .d (.v (.int .i64 p_.Keep))])) rfl ?_
  refine R.one rfl ?_
  refine W.det (.row 4 1 0) (Mem.add _ 4 (.rows 1 (List.map encB ([] : List Bool)) false)) rfl ?_
  refine R.nil ?_
  refine seqK.n ?_
  refine A.seq rfl ?_
  refine A.seq rfl ?_
  refine A.region ?_
  refine R.one rfl ?_
  refine W.det (.agg [.d (.v (.string p_.Name)), .d (.v (.int .i64 p_.Edit)), .d (.v (.int .i64 p_.Within)), .d (.v (.int .i64 p_.Delete)), .d (.v (.bool p_.React)), .d (.v (.int .i64 p_.Thread)), .d (.v (.bool p_.Quote)), .d (.v (.bool p_.Mention)), .d (.v (.int .i64 p_.Size)), .d (.v (.int .i64 p_.Parts)), .d (.v (.int .i64 p_.Files)), .d (.v (.int .i64 p_.Bytes)), .d (.fz (List.map encS p_.Types)), .d (.v (.int .i64 p_.Join)), .d (.v (.int .i64 p_.History)), .d (.v (.int .i64 p_.Remove)), .d (.v (.int .i64 p_.Level)), .d (.v (.bool p_.Batch)), .d (.v (.int .i64 p_.Rate)), .d (.v (.int .i64 p_.Down)), .d (.v (.int .i64 p_.Window)), .d (.v (.int .i64 p_.Keep))]) _ rfl ?_
  refine R.one rfl ?_
  refine bindK h fun y4 hy4 h => ?_
  refine W.call rfl (profile_Check_fn hy4) ?_
  refine W.det (.d (.v (.int .i64 y4))) _ rfl ?_
  refine R.one rfl ?_
  refine W.det (.d (.v (.bool (y4 != (0 : Int))))) _ rfl ?_
  refine R.one rfl ?_
  refine W.det (.d (.v (.bool (y4 != (0 : Int))))) _ rfl ?_
  refine R.gF rfl rfl rfl h (fun _ h => ?_) (fun _ h => ?_)
  · refine R.skip rfl rfl rfl ?_
    refine R.one rfl ?_
    refine W.det (.kb true) _ rfl ?_
    refine R.one rfl ?_
    refine W.det (.kb true) _ rfl ?_
    refine R.skip rfl rfl rfl ?_
    refine R.skip rfl rfl rfl ?_
    refine R.one rfl ?_
    refine W.det (.kb true) _ rfl ?_
    refine R.nil ?_
    refine seqK.n ?_
    refine A.condT rfl ?_
    refine A.seq rfl ?_
    refine A.region ?_
    refine R.one rfl ?_
    refine W.det (.row 4 2 0) (Mem.add _ 4 (.rows 1 (List.map encB ([] : List Bool)) false)) rfl ?_
    refine R.nil ?_
    refine seqK.n ?_
    refine A.ret ?_
    refine seqK.r ?_
    injection h with h
    subst h
    cases hG
    exact ⟨rfl, rfl, trivial⟩
  · refine W.det (.d (.v (.int .i64 t_))) _ rfl ?_
    refine R.run rfl rfl rfl ?_
    refine W.det (.d (.v (.bool (decide (t_ < (0 : Int)))))) _ rfl ?_
    refine R.one rfl ?_
    refine W.det (.d (.v (.bool (decide (t_ < (0 : Int)))))) _ rfl ?_
    refine R.one rfl ?_
    refine W.det (.d (.v (.bool (decide (t_ < (0 : Int)))))) _ rfl ?_
    refine R.gF rfl rfl rfl h (fun _ h => ?_) (fun _ h => ?_)
    · refine R.skip rfl rfl rfl ?_
      refine R.one rfl ?_
      refine W.det (.kb true) _ rfl ?_
      refine R.nil ?_
      refine seqK.n ?_
      refine A.condT rfl ?_
      refine A.seq rfl ?_
      refine A.region ?_
      refine R.one rfl ?_
      refine W.det (.row 4 2 0) (Mem.add _ 4 (.rows 1 (List.map encB ([] : List Bool)) false)) rfl ?_
      refine R.nil ?_
      refine seqK.n ?_
      refine A.ret ?_
      refine seqK.r ?_
      injection h with h
      subst h
      cases hG
      exact ⟨rfl, rfl, trivial⟩
    · refine W.det (.d (.v (.int .i64 t_))) _ rfl ?_
      refine R.run rfl rfl rfl ?_
      refine W.det (.d (.v (.bool (decide ((50000 : Int) < t_))))) _ rfl ?_
      refine R.one rfl ?_
      refine W.det (.d (.v (.bool (decide ((50000 : Int) < t_))))) _ rfl ?_
      refine R.nil ?_
      refine seqK.n ?_
      refine A.condB rfl h (fun _ h => ?_) (fun _ h => ?_)
      · refine A.seq rfl ?_
        refine A.region ?_
        refine R.one rfl ?_
        refine W.det (.row 4 2 0) (Mem.add _ 4 (.rows 1 (List.map encB ([] : List Bool)) false)) rfl ?_
        refine R.nil ?_
        refine seqK.n ?_
        refine A.ret ?_
        refine seqK.r ?_
        injection h with h
        subst h
        cases hG
        exact ⟨rfl, rfl, trivial⟩
      · refine A.skip ?_
        refine seqK.n ?_
        refine A.seq rfl ?_
        refine A.region ?_
        refine R.one rfl ?_
        refine W.det (.row 5 1 0) (Mem.add _ 5 (.rows 1 (List.map encB ([] : List Bool)) false)) rfl ?_
        refine R.nil ?_
        refine seqK.n ?_
        refine A.join (fun (s2 : (List Bool)) => [(5, .row 900000 1 s2.length)]) (fun s2 => [(900000, .rows 1 (List.map encB s2) false)]) _ h hG rfl ?_ ?_
        · intro J f h hG
          refine A.seq rfl ?_
          refine A.region ?_
          refine R.one rfl ?_
          refine W.det (.d (.v (.int .i64 t_))) _ rfl ?_
          refine R.one rfl ?_
          refine W.det (.d (.v (.int .i64 (0 : Int)))) _ rfl ?_
          refine R.nil ?_
          refine seqK.n ?_
          refine A.block ?_
          refine A.loop (fun (s3 : Int × (List Bool)) => [(2, .lp 900000 1 0), (5, .row 900001 1 s3.2.length), (18, .d (.v (.int .i64 t_))), (19, .d (.v (.int .i64 s3.1)))]) (fun s3 => [(900000, .box [.d (.v (.string p_.Name)), .d (.v (.int .i64 p_.Edit)), .d (.v (.int .i64 p_.Within)), .d (.v (.int .i64 p_.Delete)), .d (.v (.bool p_.React)), .d (.v (.int .i64 p_.Thread)), .d (.v (.bool p_.Quote)), .d (.v (.bool p_.Mention)), .d (.v (.int .i64 p_.Size)), .d (.v (.int .i64 p_.Parts)), .d (.v (.int .i64 p_.Files)), .d (.v (.int .i64 p_.Bytes)), .d (.fz (List.map encS p_.Types)), .d (.v (.int .i64 p_.Join)), .d (.v (.int .i64 p_.History)), .d (.v (.int .i64 p_.Remove)), .d (.v (.int .i64 p_.Level)), .d (.v (.bool p_.Batch)), .d (.v (.int .i64 p_.Rate)), .d (.v (.int .i64 p_.Down)), .d (.v (.int .i64 p_.Window)), .d (.v (.int .i64 p_.Keep))]), (900001, .rows 1 (List.map encB s3.2) false)]) _ h hG (Enters.of [] [(900000, (2, 1)), (900001, (5, 1))] _ rfl rfl (chkE.c rfl rfl (chkE.c rfl rfl (chkE.c rfl rfl (chkE.c rfl rfl trivial)))) (chkM.c rfl rfl (chkM.c rfl rfl trivial))) ?_
          intro J s3 f h hG
          unfold supply_Worst_L1 at h
          refine A.seq rfl ?_
          refine A.region ?_
          refine R.one rfl ?_
          refine W.det (.d (.v (.bool (decide (s3.1 < t_))))) _ rfl ?_
          refine R.nil ?_
          refine seqK.n ?_
          refine A.seq rfl ?_
          refine A.condB rfl h (fun _ h => ?_) (fun _ h => ?_)
          · refine A.skip ?_
            refine seqK.n ?_
            refine A.seq rfl ?_
            refine A.block ?_
            refine A.seq rfl ?_
            refine A.region ?_
            refine R.one rfl ?_
            refine W.det (.d (.v (.int .i64 s3.1))) _ rfl ?_
            refine R.one rfl ?_
            refine W.det (.d (.v (.int .i64 s3.1))) _ rfl ?_
            refine R.nil ?_
            refine seqK.n ?_
            refine A.regionD (by kernel_rfl) ?_
            refine R.one rfl ?_
            refine W.det (.row 900001 1 s3.2.length) _ rfl ?_
            refine R.one rfl ?_
            refine W.det (.lp 900000 1 19) _ rfl ?_
            refine R.one rfl ?_
            refine W.det (.d (.v (.int .i64 p_.Down))) _ rfl ?_
            refine R.one rfl ?_
            refine W.det (.d (.v (.bool (p_.Down == (0 : Int))))) _ rfl ?_
            refine R.one rfl ?_
            refine W.det (.d (.v (.bool (p_.Down == (0 : Int))))) _ rfl ?_
            refine R.gF rfl rfl rfl h (fun _ h => ?_) (fun _ h => ?_)
            · refine R.skip rfl rfl rfl ?_
              refine R.skip rfl rfl rfl ?_
              refine R.skip rfl rfl rfl ?_
              refine R.skip rfl rfl rfl ?_
              refine R.skip rfl rfl rfl ?_
              refine R.skip rfl rfl rfl ?_
              refine R.one rfl ?_
              refine W.det (.kb true) _ rfl ?_
              refine R.one rfl ?_
              refine W.det (.row 35 2 1) (Mem.add _ 35 (.rows 1 (List.map encB [true]) false)) rfl ?_
              refine R.one rfl ?_
              refine chkK h fun g38 h => ?_
              refine W.chk rfl (appChk (fun _ => rfl) g38) ?_
              refine W.app rfl rfl ?_
              refine R.one rfl ?_
              refine W.det (.row 900001 2 (s3.2 ++ [true]).length) _ rfl ?_
              refine R.nil ?_
              refine blockK.n ?_
              refine seqK.n ?_
              refine A.region ?_
              refine R.one rfl ?_
              refine W.det (.d (.v (.int .i64 (IntKind.i64.wrap (s3.1 + (1 : Int)))))) _ rfl ?_
              refine R.one rfl ?_
              refine W.det (.d (.v (.int .i64 (IntKind.i64.wrap (s3.1 + (1 : Int)))))) _ rfl ?_
              refine R.nil ?_
              injection h with h
              subst h
              exact headK.n hG (Enters.of [] [(900000, (900000, 1)), (900001, (900001, 2))] _ rfl rfl (chkE.c rfl rfl (chkE.c rfl rfl (chkE.c rfl rfl (chkE.c rfl rfl trivial)))) (chkM.c rfl rfl (chkM.c rfl rfl trivial)))
            · refine W.det (.d (.v (.int .i64 s3.1))) _ rfl ?_
              refine R.run rfl rfl rfl ?_
              refine W.det (.lp 900000 1 20) _ rfl ?_
              refine R.run rfl rfl rfl ?_
              refine W.det (.d (.v (.int .i64 p_.Window))) _ rfl ?_
              refine R.run rfl rfl rfl ?_
              refine chkK h fun g39 h => ?_
              refine W.chk rfl (by simpa using g39) ?_
              refine W.det (.d (.v (.int .i64 (Int.tmod s3.1 p_.Window)))) _ rfl ?_
              refine R.run rfl rfl rfl ?_
              refine W.det (.lp 900000 1 19) _ rfl ?_
              refine R.run rfl rfl rfl ?_
              refine W.det (.d (.v (.int .i64 p_.Down))) _ rfl ?_
              refine R.run rfl rfl rfl ?_
              refine W.det (.d (.v (.bool (decide (p_.Down ≤ (Int.tmod s3.1 p_.Window)))))) _ rfl ?_
              refine R.one rfl ?_
              refine W.det (.d (.v (.bool (decide (p_.Down ≤ (Int.tmod s3.1 p_.Window)))))) _ rfl ?_
              refine R.one rfl ?_
              refine W.det (.row 35 2 1) (Mem.add _ 35 (.rows 1 (List.map encB [(decide (p_.Down ≤ (Int.tmod s3.1 p_.Window)))]) false)) rfl ?_
              refine R.one rfl ?_
              refine chkK h fun g40 h => ?_
              refine W.chk rfl (appChk (fun _ => rfl) g40) ?_
              refine W.app rfl rfl ?_
              refine R.one rfl ?_
              refine W.det (.row 900001 2 (s3.2 ++ [(decide (p_.Down ≤ (Int.tmod s3.1 p_.Window)))]).length) _ rfl ?_
              refine R.nil ?_
              refine blockK.n ?_
              refine seqK.n ?_
              refine A.region ?_
              refine R.one rfl ?_
              refine W.det (.d (.v (.int .i64 (IntKind.i64.wrap (s3.1 + (1 : Int)))))) _ rfl ?_
              refine R.one rfl ?_
              refine W.det (.d (.v (.int .i64 (IntKind.i64.wrap (s3.1 + (1 : Int)))))) _ rfl ?_
              refine R.nil ?_
              injection h with h
              subst h
              exact headK.n hG (Enters.of [] [(900000, (900000, 1)), (900001, (900001, 2))] _ rfl rfl (chkE.c rfl rfl (chkE.c rfl rfl (chkE.c rfl rfl (chkE.c rfl rfl trivial)))) (chkM.c rfl rfl (chkM.c rfl rfl trivial)))
          · refine A.exit ?_
            refine seqK.e ?_
            refine headK.e ?_
            refine blockK.x ?_
            injection h with h
            subst h
            exact headK.n hG (Enters.of [] [(900000, (900001, 1))] _ rfl rfl (chkE.c rfl rfl trivial) (chkM.c rfl rfl trivial))
        · intro s2 r2 h hG
          refine A.seq rfl ?_
          refine A.region ?_
          refine R.one rfl ?_
          refine W.det (.row 900000 1 s2.length) _ rfl ?_
          refine R.one rfl ?_
          refine W.det (.row 900000 1 s2.length) _ rfl ?_
          refine R.nil ?_
          refine seqK.n ?_
          refine A.ret ?_
          injection h with h
          subst h
          cases hG
          exact ⟨rfl, rfl, trivial⟩
end Go.Proofs.Ytafgcjodefafoaa

/-
  The law GraphTells of the given program: for every input the call returns true, and each argument reads afterwards as it read before. No condition.
-/
import Derived.Test.YtlgadmholjaljaaRows
import Derived.Test.YtlgadmholjaljaaT7
import Derived.Test.YtlgadmholjaljaaEvT
import Derived.WalkKit
import Derived.ProofKit
import Derived.OpenShut
namespace Go.Proofs.Ytlgadmholjaljaa.graphTells
open Go.ChangeShapes Go.WideShapes Go.ChangeAt Go.RowKit

theorem own : ownKnob Try.prog.godebug = none := by kernel_rfl
theorem laidOut : laidOutB Try.prog = true := by kernel_rfl
section
variable {H : Type} {enc : TypeId × Value → H} {W : World}
theorem readsD_api_Node : ReadsD enc Try.prog W 25 api_Node.enc api_Node.Q := by
  intro fuel cs x h
  obtain ⟨n, hF, hl⟩ := fieldsD_of Try.underlying25 h
  have hl : cs.length = 2 := hl.trans (by kernel_rfl)
  obtain ⟨y0, c0, q0, hF⟩ := fieldsD_cons (readsD_int Try.underlying3) hF (z := 1) (by kernel_rfl)
  obtain ⟨y1, c1, q1, hF⟩ := fieldsD_cons (readsD_slice Try.underlying23 (sz := 1) (by kernel_rfl) (by decide) (fun _ => rfl) (readsD_int Try.underlying3)) hF (z := 1) (by kernel_rfl)
  exact ⟨⟨y0, y1⟩, (cellsD_step c0 rfl (cellsD_step c1 rfl (cellsD_end hl))), ⟨q0, q1⟩⟩
end
set_option maxRecDepth 100000 in
theorem lifted (os : Os) (started : os.Started) (H : Type) (enc : TypeId × Value → H) :
    ReturnsInHanded {} Try.checked os 7 .any (Rows.graphTellsSpec.pre6 enc Try.prog Try.f7 Rows.graphTellsRow.domain false) (Rows.graphTellsSpec.post enc Try.prog Try.f7 false true false false) := by
  refine returnsInHanded_of_change (C := Try.checked) own started (by kernel_rfl) Try.func7
    (ChangeSpec.witness6 (enc := enc) (C := Try.checked) false ⟨#[], #[.slice none 0 0, .int .i64 0, .int .i64 0, .slice none 0 0], []⟩ 8 (by kernel_rfl) (by kernel_rfl) (by kernel_rfl) (by kernel_rfl)) ?_
  intro W base args ds gs before hval0 hW hcnd _
  have hval : ∀ (j : Nat) t v, Try.f7.params[j]? = some t → args[j]? = some v → Value.okWide Try.prog W .any base t v := hval0
  have hW' := hW
  obtain ⟨p, q, hA0, hV, rfl, hfz, hnd⟩ := hW
  have hA : DataW.TrodAll enc Try.prog W 0 (fun _ => true) true Try.f7.params.toList args.toList ds p := hA0
  have hA1 := hA
  rw [Try.params7] at hA hval
  obtain ⟨args⟩ := args
  have hA : DataW.TrodAll enc Try.prog W 0 (fun _ => true) true [22, 3, 3, 23] args ds p := hA
  obtain ⟨v0, vs0, d0, ds0, p0, ps0, rfl, rfl, rfl, h0, hA⟩ := trodAll_cons hA
  obtain ⟨v1, vs1, d1, ds1, p1, ps1, rfl, rfl, rfl, h1, hA⟩ := trodAll_cons hA
  obtain ⟨v2, vs2, d2, ds2, p2, ps2, rfl, rfl, rfl, h2, hA⟩ := trodAll_cons hA
  obtain ⟨v3, vs3, d3, ds3, p3, ps3, rfl, rfl, rfl, h3, hA⟩ := trodAll_cons hA
  obtain ⟨rfl, rfl, rfl⟩ := trodAll_nil hA
  obtain ⟨rfl, rfl⟩ := trodVars_none hV
  obtain ⟨_, _, _, rfl⟩ := okWide_slice Try.underlying22 (hval 0 22 v0 rfl rfl)
  obtain ⟨a0, r0, w0⟩ := argD_one (f := fun y => .fz (List.map api_Node.enc y)) (readsD_slice Try.underlying22 (sz := 2) (by kernel_rfl) (by decide) (fun _ => rfl) readsD_api_Node) rfl h0
  obtain ⟨_, rfl⟩ := okWide_int Try.underlying3 (hval 1 3 v1 rfl rfl)
  obtain ⟨a1, r1, w1⟩ := argD_one (f := fun y => .v (.int .i64 y)) (readsD_int Try.underlying3) rfl h1
  obtain ⟨_, rfl⟩ := okWide_int Try.underlying3 (hval 2 3 v2 rfl rfl)
  obtain ⟨a2, r2, w2⟩ := argD_one (f := fun y => .v (.int .i64 y)) (readsD_int Try.underlying3) rfl h2
  obtain ⟨_, _, _, rfl⟩ := okWide_slice Try.underlying23 (hval 3 23 v3 rfl rfl)
  obtain ⟨a3, r3, w3⟩ := argD_one (f := fun y => .fz (List.map (encI .i64) y)) (readsD_slice Try.underlying23 (sz := 1) (by kernel_rfl) (by decide) (fun _ => rfl) (readsD_int Try.underlying3)) rfl h3
  refine (law_end (dr := False) (law07_GraphTells_fn (law07_GraphTells_true a0 w0 a1 w1 a2 w2 a3 w3)) (fun q hq => by cases hq) (RelL.cons (.d r0) (RelL.cons (.d r1) (RelL.cons (.d r2) (RelL.cons (.d r3) (RelL.nil (cx0 (Old W) W))))))).mono fun e W' ⟨he, hg⟩ => ?_
  subst he
  exact ⟨_, rfl, post_law laidOut (by rw [Try.params7]; intro t ht; simp only [List.mem_cons, List.not_mem_nil, or_false] at ht; rcases ht with rfl | rfl | rfl | rfl <;> exact ⟨by kernel_rfl, of_decide_eq_true (by kernel_rfl)⟩) hW' hA1 (by simp) rfl rfl Try.underlying4 rfl rfl rfl hg (ok_one (by kernel_rfl) rfl (okWide_bool_mk Try.underlying4 _))⟩

theorem over : Rows.graphTellsRow.holds Try.pinned (OpenSpec.ofChange Rows.graphTellsSpec) :=
  OpenClaim.holds_of_wide 7 Try.f7 rfl rfl rfl rfl rfl rfl rfl ⟨rfl, rfl, rfl, rfl, rfl⟩ rfl rfl rfl rfl rfl (by kernel_rfl) Try.func7 (by kernel_rfl)
    (of_decide_eq_true (by kernel_rfl)) (by unfold Func.isWrapper; first | (rw [if_pos (by decide +kernel)]; kernel_rfl) | (rw [if_neg (by decide +kernel)]; exact ⟨rfl, rfl⟩))
    (fun os started H enc _ => lifted os started H enc)

theorem proved : Rows.GraphTellsSaid :=
  over
end Go.Proofs.Ytlgadmholjaljaa.graphTells

/-
  The law ViewActs of the given program: for every input the call returns true, and each argument reads afterwards as it read before. The arguments are together of bulk at most 1048576.
-/
import Derived.Test.YtpikahfgidgdbaaRows
import Derived.Test.YtpikahfgidgdbaaT5
import Derived.Test.YtpikahfgidgdbaaUp
import Derived.Test.YtpikahfgidgdbaaEvT
import Derived.WalkKit
import Derived.ProofKit
import Derived.OpenShut
import Derived.JoinedCond
namespace Go.Proofs.Ytpikahfgidgdbaa.viewActs
open Go.ChangeShapes Go.WideShapes Go.ChangeAt Go.RowKit

theorem own : ownKnob Try.prog.godebug = none := by kernel_rfl
theorem laidOut : laidOutB Try.prog = true := by kernel_rfl
section
variable {H : Type} {enc : TypeId × Value → H} {W : World}
theorem readsD_api_Event : ReadsD enc Try.prog W 33 api_Event.enc api_Event.Q := by
  intro fuel cs x h
  obtain ⟨n, hF, hl⟩ := fieldsD_of Try.underlying33 h
  have hl : cs.length = 12 := hl.trans (by kernel_rfl)
  obtain ⟨y0, c0, q0, hF⟩ := fieldsD_cons (readsD_int Try.underlying3) hF (z := 1) (by kernel_rfl)
  obtain ⟨y1, c1, q1, hF⟩ := fieldsD_cons (readsD_int Try.underlying3) hF (z := 1) (by kernel_rfl)
  obtain ⟨y2, c2, q2, hF⟩ := fieldsD_cons (readsD_slice Try.underlying30 (sz := 1) (by kernel_rfl) (by decide) (fun _ => rfl) (readsD_int Try.underlying3)) hF (z := 1) (by kernel_rfl)
  obtain ⟨y3, c3, q3, hF⟩ := fieldsD_cons (readsD_int Try.underlying3) hF (z := 1) (by kernel_rfl)
  obtain ⟨y4, c4, q4, hF⟩ := fieldsD_cons (readsD_int Try.underlying3) hF (z := 1) (by kernel_rfl)
  obtain ⟨y5, c5, q5, hF⟩ := fieldsD_cons (readsD_int Try.underlying3) hF (z := 1) (by kernel_rfl)
  obtain ⟨y6, c6, q6, hF⟩ := fieldsD_cons (readsD_int Try.underlying3) hF (z := 1) (by kernel_rfl)
  obtain ⟨y7, c7, q7, hF⟩ := fieldsD_cons (readsD_int Try.underlying3) hF (z := 1) (by kernel_rfl)
  obtain ⟨y8, c8, q8, hF⟩ := fieldsD_cons (readsD_int Try.underlying3) hF (z := 1) (by kernel_rfl)
  obtain ⟨y9, c9, q9, hF⟩ := fieldsD_cons (readsD_string Try.underlying9) hF (z := 1) (by kernel_rfl)
  obtain ⟨y10, c10, q10, hF⟩ := fieldsD_cons (readsD_slice Try.underlying30 (sz := 1) (by kernel_rfl) (by decide) (fun _ => rfl) (readsD_int Try.underlying3)) hF (z := 1) (by kernel_rfl)
  obtain ⟨y11, c11, q11, hF⟩ := fieldsD_cons (readsD_int Try.underlying3) hF (z := 1) (by kernel_rfl)
  exact ⟨⟨y0, y1, y2, y3, y4, y5, y6, y7, y8, y9, y10, y11⟩, (cellsD_step c0 rfl (cellsD_step c1 rfl (cellsD_step c2 rfl (cellsD_step c3 rfl (cellsD_step c4 rfl (cellsD_step c5 rfl (cellsD_step c6 rfl (cellsD_step c7 rfl (cellsD_step c8 rfl (cellsD_step c9 rfl (cellsD_step c10 rfl (cellsD_step c11 rfl (cellsD_end hl))))))))))))), ⟨q0, q1, q2, q3, q4, q5, q6, q7, q8, q9, q10, q11⟩⟩
end
set_option maxRecDepth 100000 in
theorem lifted (os : Os) (started : os.Started) (H : Type) (enc : TypeId × Value → H) (F : Stop.Interp) :
    ReturnsInHanded {} Try.checked os 5 .any ((Rows.OpenSpec.upto Rows.viewActsSpec).pre6 enc Try.prog Try.f5 Rows.viewActsUptoRow.domain false) (((Rows.OpenSpec.upto Rows.viewActsSpec).at F).post enc Try.prog Try.f5 false true false false) := by
  refine returnsInHanded_of_cond (C := Try.checked) (s := Rows.OpenSpec.upto Rows.viewActsSpec) (k := Rows.uptoSmall) rfl own started (by kernel_rfl) Try.func5
    (OpenSpec.witness (enc := enc) (C := Try.checked) (s := Rows.OpenSpec.upto Rows.viewActsSpec) (k := Rows.uptoSmall) rfl false ⟨#[], #[.slice none 0 0, .agg #[.int .i64 0, .int .i64 0, .slice none 0 0, .int .i64 0, .int .i64 0, .int .i64 0, .int .i64 0, .int .i64 0, .int .i64 0, .string ByteArray.empty, .slice none 0 0, .int .i64 0]], []⟩ 8 (by kernel_rfl) (by kernel_rfl) (by kernel_rfl)
      (x := ([.nil, .agg [.lit (.int .i64 0), .lit (.int .i64 0), .nil, .lit (.int .i64 0), .lit (.int .i64 0), .lit (.int .i64 0), .lit (.int .i64 0), .lit (.int .i64 0), .lit (.int .i64 0), .lit (.string []), .nil, .lit (.int .i64 0)]], [], [])) (by kernel_rfl) rfl (by kernel_rfl)) ?_
  intro W base args ds gs before hval0 hW hcnd hk _
  have hval : ∀ (j : Nat) t v, Try.f5.params[j]? = some t → args[j]? = some v → Value.okWide Try.prog W .any base t v := hval0
  have hW' := hW
  obtain ⟨p, q, hA0, hV, rfl, hfz, hnd⟩ := hW
  have hA : DataW.TrodAll enc Try.prog W 0 (fun _ => true) true Try.f5.params.toList args.toList ds p := hA0
  have hA1 := hA
  rw [Try.params5] at hA hval
  obtain ⟨args⟩ := args
  have hA : DataW.TrodAll enc Try.prog W 0 (fun _ => true) true [22, 33] args ds p := hA
  obtain ⟨v0, vs0, d0, ds0, p0, ps0, rfl, rfl, rfl, h0, hA⟩ := trodAll_cons hA
  obtain ⟨v1, vs1, d1, ds1, p1, ps1, rfl, rfl, rfl, h1, hA⟩ := trodAll_cons hA
  obtain ⟨rfl, rfl, rfl⟩ := trodAll_nil hA
  obtain ⟨rfl, rfl⟩ := trodVars_none hV
  obtain ⟨_, _, _, rfl⟩ := okWide_slice Try.underlying22 (hval 0 22 v0 rfl rfl)
  obtain ⟨a0, r0, w0⟩ := argD_one (f := fun y => .fz (List.map api_Event.enc y)) (readsD_slice Try.underlying22 (sz := 12) (by kernel_rfl) (by decide) (fun _ => rfl) readsD_api_Event) rfl h0
  have hbk : a0.length + 1 ≤ 1000000 := by
    have h9 := relD_len r0
    rw [List.length_map] at h9
    rw [h9]
    have hb9 := of_decide_eq_true hk
    exact up_structs Try.underlying22 Try.underlying33 (by decide) h0 (Nat.le_trans (up_part (by simp)) hb9)
  obtain ⟨xs1, rfl, _⟩ := okWide_struct Try.underlying33 (hval 1 33 v1 rfl rfl)
  obtain ⟨a1, r1, w1⟩ := argD_agg readsD_api_Event h1
  refine (law_end (law16_ViewActs_fn (law16_ViewActs_true a0 w0 a1 w1 hbk)) (RelL.cons (.d r0) (RelL.cons r1 (RelL.nil (cx0 (Old W) W))))).mono fun e W' ⟨he, hg⟩ => ?_
  subst he
  exact ⟨_, rfl, post_law laidOut (by rw [Try.params5]; intro t ht; simp only [List.mem_cons, List.not_mem_nil, or_false] at ht; rcases ht with rfl | rfl <;> exact ⟨by kernel_rfl, of_decide_eq_true (by kernel_rfl)⟩) hW' hA1 (by simp) rfl rfl Try.underlying4 rfl rfl rfl hg (ok_one (by kernel_rfl) rfl (okWide_bool_mk Try.underlying4 _))⟩

theorem over : Rows.viewActsUptoRow.holds Try.pinned (Rows.OpenSpec.upto Rows.viewActsSpec) :=
  OpenClaim.holds_of_cond 5 Try.f5 rfl rfl rfl rfl rfl rfl rfl ⟨rfl, rfl, rfl, rfl, rfl⟩ rfl rfl rfl rfl rfl (by kernel_rfl) Try.func5 (by kernel_rfl)
    (of_decide_eq_true (by kernel_rfl)) (by unfold Func.isWrapper; first | (rw [if_pos (by decide +kernel)]; kernel_rfl) | (rw [if_neg (by decide +kernel)]; exact ⟨rfl, rfl⟩))
    (fun os started H enc _ F => lifted os started H enc F)

theorem proved : Rows.ViewActsUptoSaid :=
  over
end Go.Proofs.Ytpikahfgidgdbaa.viewActs

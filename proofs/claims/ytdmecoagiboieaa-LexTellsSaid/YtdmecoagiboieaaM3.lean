/-
  The law LexTells of the given program: for every string and every list of tokens the call returns true, and each argument reads afterwards as it read before. No condition.
-/
import Derived.Test.YtdmecoagiboieaaRows
import Derived.Test.YtdmecoagiboieaaL3
import Derived.Test.YtdmecoagiboieaaLift
import Derived.WalkKit
import Derived.ProofKit
import Derived.OpenShut
import Derived.ShutString
namespace Go.Proofs.Ytdmecoagiboieaa.lexTells
open Go.ChangeShapes Go.WideShapes Go.ChangeAt Go.RowKit
open Go.ChangeMaps (open_string shut_string)

theorem own : ownKnob Try.prog.godebug = none := by kernel_rfl
theorem laidOut : laidOutB Try.prog = true := by kernel_rfl

/-- a slice of tokens that came in reads as a list of tokens -/
theorem open_toks {H : Type} {enc : TypeId × Value → H} {W : World} {v : Value} {d : DataW H} {p : List MemPlace} {r : Reach} {b0 : Nat} (hv : Value.okWide Try.prog W r b0 22 v) (h : DataW.Trod enc Try.prog W 0 (fun _ => true) true 22 v d p) :
    ∃ (A : Option Addr) (n c : Nat) (ts : List Tok), v = .slice A n c ∧ n ≤ maxLen ∧ Sl W A n 4 (ts.flatMap tokC) ∧ ∀ t ∈ ts, t.text.length ≤ 9223372036854775807 := by
  obtain ⟨a0, len, cap, rfl⟩ := okWide_slice Try.underlying22 hv
  obtain ⟨fuel, hf⟩ := h
  rcases open_slice_fields Try.underlying22 Try.underlying25 (by kernel_rfl) (by kernel_rfl) hf with ⟨hcs, hx⟩ | ⟨a, len', cap', m, D, Pl, hcs, _, hl, hm, hmm, hx, hi⟩
  · simp only [Value.cells] at hcs
    injection hcs with hcs
    injection hcs with h1 h2 h3
    subst h1; subst h2; subst h3
    exact ⟨none, 0, 0, [], rfl, by omega, ⟨by simp, fun h => absurd h (by omega)⟩, by simp⟩
  · simp only [Value.cells] at hcs
    injection hcs with hcs
    injection hcs with h1 h2 h3
    subst h1; subst h2; subst h3
    simp only [if_true] at hmm
    subst hmm
    have key : ∀ i, i < len → ∃ t : Tok, t.text.length ≤ 9223372036854775807 ∧ ∀ j u, (tokC t)[j]? = some u → W.cell? (a.add (i * 4 + j)) = some u := by
      intro i hil
      obtain ⟨ys, n, _, _, _, hf⟩ := hi i (by omega)
      obtain ⟨v0, y0, c0, _, t0⟩ := hf 0 _ rfl
      obtain ⟨v1, y1, c1, _, t1⟩ := hf 1 _ rfl
      obtain ⟨v2, y2, c2, _, t2⟩ := hf 2 _ rfl
      obtain ⟨v3, y3, c3, _, t3⟩ := hf 3 _ rfl
      obtain ⟨x0, e0, _, _⟩ := DataW.trod_int Try.underlying3 t0
      obtain ⟨x1, e1, _, hs⟩ := DataW.trod_string Try.underlying9 t1
      obtain ⟨x2, e2, _, _⟩ := DataW.trod_int Try.underlying3 t2
      obtain ⟨x3, e3, _, _⟩ := DataW.trod_int Try.underlying3 t3
      simp only [List.cons.injEq, and_true] at e0 e1 e2 e3
      subst e0; subst e1; subst e2; subst e3
      obtain ⟨⟨l1⟩⟩ := x1
      refine ⟨⟨x0, l1, x2, x3⟩, by simpa [maxLen, ByteArray.size] using hs, fun j u hu => ?_⟩
      match j, hu with
      | 0, hu => simp only [tokC, List.getElem?_cons_zero, Option.some.injEq] at hu; subst hu; exact c0
      | 1, hu => simp only [tokC, List.getElem?_cons_succ, List.getElem?_cons_zero, Option.some.injEq] at hu; subst hu; exact c1
      | 2, hu => simp only [tokC, List.getElem?_cons_succ, List.getElem?_cons_zero, Option.some.injEq] at hu; subst hu; exact c2
      | 3, hu => simp only [tokC, List.getElem?_cons_succ, List.getElem?_cons_zero, Option.some.injEq] at hu; subst hu; exact c3
      | j + 4, hu => simp [tokC] at hu
    have hts : ∃ ts : List Tok, ts.length = len ∧ (∀ t ∈ ts, t.text.length ≤ 9223372036854775807) ∧ ∀ i (hi : i < ts.length) j u, (tokC ts[i])[j]? = some u → W.cell? (a.add (i * 4 + j)) = some u := by
      have gen : ∀ n, n ≤ len → ∃ ts : List Tok, ts.length = n ∧ (∀ t ∈ ts, t.text.length ≤ 9223372036854775807) ∧ ∀ i (hi : i < ts.length) j u, (tokC ts[i])[j]? = some u → W.cell? (a.add (i * 4 + j)) = some u := by
        intro n
        induction n with
        | zero => intro _; exact ⟨[], rfl, by simp, fun i hi => absurd hi (by simp)⟩
        | succ n ih =>
          intro hn
          obtain ⟨ts, h1, h2, h3⟩ := ih (by omega)
          obtain ⟨t, ht1, ht2⟩ := key n (by omega)
          refine ⟨ts ++ [t], by simp [h1], fun u hu => ?_, fun i hi j u hu => ?_⟩
          · rcases List.mem_append.1 hu with hu | hu
            · exact h2 u hu
            · simp at hu; subst hu; exact ht1
          · by_cases hin : i < ts.length
            · rw [List.getElem_append_left hin] at hu
              exact h3 i hin j u hu
            · have : i = n := by simp at hi; omega
              subst this
              rw [List.getElem_append_right (by omega)] at hu
              simp only [h1, Nat.sub_self, List.getElem_cons_zero] at hu
              exact ht2 j u hu
      exact gen len (Nat.le_refl _)
    obtain ⟨ts, h1, h2, h3⟩ := hts
    refine ⟨some a, len, _, ts, rfl, by omega, ⟨by rw [tokC_len, h1], fun hn => ?_⟩, h2⟩
    have hc0 := h3 0 (by omega) 0 (.int .i64 ts[0].kind) rfl
    simp only [Nat.zero_mul, Nat.add_zero] at hc0
    have ha0 : a.add 0 = a := rfl
    rw [ha0] at hc0
    obtain ⟨hae, hab⟩ := addr_of_cell hc0
    refine ⟨a.block, a.off, by rw [← hae], hab, fun q u hu => ?_⟩
    have hq : q < ts.length * 4 := by
      have := List.getElem?_eq_some_iff.1 hu
      obtain ⟨h, _⟩ := this
      rw [tokC_len] at h
      exact h
    have hqi : q / 4 < ts.length := by omega
    have e := tokC_get ts (q / 4) (q % 4) hqi (by omega)
    rw [show q / 4 * 4 + q % 4 = q by omega] at e
    rw [e] at hu
    have hc := h3 (q / 4) hqi (q % 4) u hu
    rw [show q / 4 * 4 + q % 4 = q by omega] at hc
    have e2 : a.add q = ⟨a.block, a.off + q, none⟩ := by
      rw [hae]
      unfold Addr.add
      by_cases hq0 : q = 0
      · subst hq0; rfl
      · simp [hq0]
    rw [e2] at hc
    exact hc

set_option maxRecDepth 100000 in
theorem lifted (os : Os) (started : os.Started) (H : Type) (enc : TypeId × Value → H) :
    ReturnsInHanded {} Try.checked os 3 .any (Rows.lexTellsSpec.pre6 enc Try.prog Try.f3 Rows.lexTellsRow.domain false) (Rows.lexTellsSpec.post enc Try.prog Try.f3 false true false false) := by
  refine returnsInHanded_of_change (C := Try.checked) own started (by kernel_rfl) Try.func3
    (ChangeSpec.witness6 (enc := enc) (C := Try.checked) false ⟨#[], #[.string ByteArray.empty, .slice none 0 0], []⟩ 8 (by kernel_rfl) (by kernel_rfl) (by kernel_rfl) (by kernel_rfl)) ?_
  intro W base args ds gs before hval0 hW hcnd _
  have hval : ∀ (j : Nat) t v, Try.f3.params[j]? = some t → args[j]? = some v → Value.okWide Try.prog W .any base t v := hval0
  have hW' := hW
  obtain ⟨p, q, hA0, hV, rfl, hfz, hnd⟩ := hW
  have hA : DataW.TrodAll enc Try.prog W 0 (fun _ => true) true Try.f3.params.toList args.toList ds p := hA0
  have hA1 := hA
  rw [Try.params3] at hA hval
  obtain ⟨v0, v1, d0, d1, p0, p1, rfl, rfl, rfl, h0, h1⟩ := trodAll_two hA
  obtain ⟨rfl, rfl⟩ := trodVars_none hV
  obtain ⟨a0, rfl, rfl, rfl, w0⟩ := open_string Try.underlying9 (hval 0 9 v0 rfl rfl) h0
  obtain ⟨A, n, c, ts, rfl, hn, hS, hts⟩ := open_toks (hval 1 22 v1 rfl rfl) h1
  refine (tells_walk a0 A n c ts W w0 (by simpa [maxLen] using hn) hS hts).mono fun e W' ⟨he, hg⟩ => ?_
  subst he
  exact ⟨_, rfl, post_law laidOut (by rw [Try.params3]; intro t ht; simp only [List.mem_cons, List.not_mem_nil, or_false] at ht; rcases ht with rfl | rfl <;> exact ⟨by kernel_rfl, of_decide_eq_true (by kernel_rfl)⟩) hW' hA1 (by simp) rfl rfl Try.underlying4 rfl rfl rfl hg (ok_one (by kernel_rfl) rfl (okWide_bool_mk Try.underlying4 _))⟩

theorem over : Rows.lexTellsRow.holds Try.pinned (OpenSpec.ofChange Rows.lexTellsSpec) :=
  OpenClaim.holds_of_wide 3 Try.f3 rfl rfl rfl rfl rfl rfl rfl ⟨rfl, rfl, rfl, rfl, rfl⟩ rfl rfl rfl rfl rfl (by kernel_rfl) Try.func3 (by kernel_rfl)
    (of_decide_eq_true (by kernel_rfl)) (by unfold Func.isWrapper; first | (rw [if_pos (by decide +kernel)]; kernel_rfl) | (rw [if_neg (by decide +kernel)]; exact ⟨rfl, rfl⟩))
    (fun os started H enc _ => lifted os started H enc)

theorem proved : Rows.LexTellsSaid :=
  over
end Go.Proofs.Ytdmecoagiboieaa.lexTells

/-
  Evaluation of Go code on plain data: whole functions. Over any program.
-/
import Derived.Test.YtlgadmholjaljaaEvO2
namespace Go.Proofs.Ytlgadmholjaljaa
open Go.RowKit
section
variable {P : Program} {T : Nat → TI} {base nt : Nat} {F : FuncId → List AV → AV → Prop} {w0 : Start} {A : Nat → Prop} {js : List Nat}
theorem AW_sound (hm : P.follows .mixedOrders = true) (hT : TOk P T) (heq : ∀ t, (T t).eqs = true → (T t).known = true) (hF : ∀ f args r, F f args r → FnX w0.dr P f args r) :
    ∀ (c : Code) (Q : Ex → ASt → Prop) (a : Act) (w : World), Holds w0 A nt (fun st => AW T base nt F js c st Q) a w → c.wp P (Lift w0 A nt Q) a w := by
  intro c
  induction c with
  | skip =>
    intro Q a w h
    exact wp_skip h
  | region id ops draw =>
    rintro Q a w ⟨st, κ, rfl, hs, he, hn, hd, h⟩
    cases draw with
    | false => exact wp_region_list (runL_sound hT heq hF (fun a w h => h) ops.toList st κ a hs he hn hd h)
    | true =>
      rcases h with h | ⟨c, h1, h2⟩
      · exact draw_sound hm hT heq hF h.1 (fun a w h => h) st κ a hs he hn hd h.2
      · exact draw_soundC hm hT heq hF h1 (fun a w h => h) st κ a hs he hn hd h2
  | seq x y ihx ihy =>
    intro Q a w h
    obtain ⟨st, κ, rfl, hs, he, hn, hd, h⟩ := h
    have h : bif joinAt js y then SeqP (AW T base nt F js x st) (AW T base nt F js y) Q else AW T base nt F js x st fun e st' => match e with
      | .normal => AW T base nt F js y st' Q
      | e => Q e st' := h
    cases hj : joinAt js y
    · rw [hj] at h
      refine wp_seq (wp_mono (ihx _ a κ.w ⟨st, κ, rfl, hs, he, hn, hd, h⟩) ?_)
      intro e a' w' hq
      cases e with
      | normal => exact ihy Q a' w' hq
      | exit i => exact hq
      | ret => exact hq
      | goto l => exact hq.elim
      | panic ch => exact hq.elim
      | outgrown => exact hq.elim
    · rw [hj] at h
      obtain ⟨X, E, M, J, h1, h2⟩ := h.h
      refine wp_seq (wp_mono (ihx _ a κ.w ⟨st, κ, rfl, hs, he, hn, hd, h1⟩) ?_)
      intro e a' w' hq
      cases e with
      | normal =>
        obtain ⟨st', κ', rfl, hs', he', hn', hd', z, hJ, hen⟩ := hq
        obtain ⟨κ2, q1, q2, q3⟩ := enters_sim hs' he' hen
        exact ihy Q a' _ ⟨mkSt (E z) (M z), κ2, q1, q2, q3, hn', hd', h2 z hJ⟩
      | exit i => exact hq
      | ret => exact hq
      | goto l => exact hq.elim
      | panic ch => exact hq.elim
      | outgrown => exact hq.elim
  | cond c x y ihx ihy =>
    rintro Q a w ⟨st, κ, rfl, hs, he, hn, hd, h⟩
    simp only [AW] at h
    split at h
    · rename_i hb
      exact wp_cond (Rel.boolv hb (Or.inr hb) (raw_rel he hb)) (ihx Q a κ.w ⟨st, κ, rfl, hs, he, hn, hd, h⟩)
    · rename_i hb
      exact wp_cond (Rel.boolv hb (Or.inr hb) (raw_rel he hb)) (ihy Q a κ.w ⟨st, κ, rfl, hs, he, hn, hd, h⟩)
    · rename_i b hb
      have hv := (raw_rel he hb).val
      refine wp_cond hv ?_
      cases b
      · exact ihy Q a κ.w ⟨st, κ, rfl, hs, he, hn, hd, h.2 rfl⟩
      · exact ihx Q a κ.w ⟨st, κ, rfl, hs, he, hn, hd, h.1 rfl⟩
    · exact h.elim
  | block id c ih =>
    intro Q a w h
    refine wp_block (wp_mono (ih _ a w h) ?_)
    intro e a' w' hq
    cases e with
    | normal => exact hq
    | exit i =>
      show if i = id then _ else _
      have hq : Holds w0 A nt (fun st' => bif Nat.beq i id then Q .normal st' else Q (.exit i) st') a' w' := hq
      rw [beq_dec] at hq
      by_cases hi : i = id
      · simp only [hi, decide_true, cond_true] at hq
        rw [if_pos hi]
        exact hq
      · simp only [hi, decide_false, cond_false] at hq
        rw [if_neg hi]
        exact hq
    | ret => exact hq
    | goto l => exact hq.elim
    | panic ch => exact hq.elim
    | outgrown => exact hq.elim
  | loop c ih =>
    rintro Q a w ⟨st, κ, rfl, hs, he, hn, hd, h⟩
    obtain ⟨X, E, M, J, ⟨n0, x0, hJ, hen⟩, hround⟩ := h.h
    have start : ∀ (x : X) (st : ASt) (κ : Cx) (a : Act), Sim w0 A st.m κ → EnvOk κ st.env a.tmps → a.tmps.size = nt → a.defers = [] → Enters st (E x) (M x) → Holds w0 A nt (fun st' => st' = mkSt (E x) (M x)) a κ.w := by
      intro x st κ a hs he hn hd hen
      obtain ⟨κ', h1, h2, h3⟩ := enters_sim hs he hen
      exact ⟨mkSt (E x) (M x), κ', h1, h2, h3, hn, hd, rfl⟩
    refine wp_loop_ghost (fun n a w => ∃ x, J n x ∧ Holds w0 A nt (fun st' => st' = mkSt (E x) (M x)) a w) n0 ⟨x0, hJ, start x0 st κ a hs he hn hd hen⟩ ?_
    rintro n a w ⟨x, hJx, hst⟩
    refine wp_mono (ih _ a w (hst.mono fun st' e => by subst e; exact hround n x hJx)) ?_
    intro e a' w' hq
    cases e with
    | normal =>
      obtain ⟨st', κ', rfl, hs', he', hn', hd', x', ⟨m, hlt, hJ'⟩, hen'⟩ := hq
      exact ⟨m, hlt, x', hJ', start x' st' κ' a' hs' he' hn' hd' hen'⟩
    | exit i => exact hq
    | ret => exact hq
    | goto l => exact hq.elim
    | panic ch => exact hq.elim
    | outgrown => exact hq.elim
  | exit id => intro Q a w h; exact wp_exit h
  | ret => intro Q a w h; exact wp_ret h
  | rangeFunc => rintro Q a w ⟨_, _, _, _, _, _, _, h⟩; exact h.elim
  | scope => rintro Q a w ⟨_, _, _, _, _, _, _, h⟩; exact h.elim
  | label => rintro Q a w ⟨_, _, _, _, _, _, _, h⟩; exact h.elim
  | goto => rintro Q a w ⟨_, _, _, _, _, _, _, h⟩; exact h.elim
  | refuse => rintro Q a w ⟨_, _, _, _, _, _, _, h⟩; exact h.elim
end
end Go.Proofs.Ytlgadmholjaljaa

/-
  Evaluation of Go code on plain data: code and functions. Over any program.
-/
import Derived.Test.YtlgadmholjaljaaEvL
import Derived.Deep.LoopGhost
namespace Go.Proofs.Ytlgadmholjaljaa
open Go.RowKit
/-- a state of the evaluation at a place of the run -/
def Holds (w0 : Start) (A : Nat → Prop) (nt : Nat) (R : ASt → Prop) (a : Act) (w : World) : Prop := ∃ st κ, κ.w = w ∧ Sim w0 A st.m κ ∧ EnvOk κ st.env a.tmps ∧ a.tmps.size = nt ∧ a.defers = [] ∧ R st
theorem Holds.mono {w0 : Start} {A : Nat → Prop} {nt : Nat} {R R' : ASt → Prop} {a : Act} {w : World} (h : Holds w0 A nt R a w) (hr : ∀ st, R st → R' st) : Holds w0 A nt R' a w :=
  let ⟨st, κ, h1, h2, h3, h4, h5, h6⟩ := h
  ⟨st, κ, h1, h2, h3, h4, h5, hr st h6⟩
def Lift (w0 : Start) (A : Nat → Prop) (nt : Nat) (Q : Ex → ASt → Prop) : Exit → Act → World → Prop
  | .normal, a, w => Holds w0 A nt (Q .normal) a w
  | .exit i, a, w => Holds w0 A nt (Q (.exit i)) a w
  | .ret, a, w => Holds w0 A nt (Q .ret) a w
  | _, _, _ => False
theorem put_size (a : Act) (dst : Option Tmp) (x : Value) : (a.put dst x).tmps.size = a.tmps.size := by
  cases dst <;> simp [Act.put]
theorem put_defers (a : Act) (dst : Option Tmp) (x : Value) : (a.put dst x).defers = a.defers := by
  cases dst <;> rfl
theorem EnvOk.put {κ : Cx} {env : Nat → Option AV} {a : Act} {o : Oper} {v : AV} {x : Value} {nt : Nat} (h : EnvOk κ env a.tmps) (hn : a.tmps.size = nt) (hd : dstOk nt o = true) (hx : Rel κ v x) : EnvOk κ (putE env o.dst v) (a.put o.dst x).tmps := by
  unfold dstOk at hd
  cases hdst : o.dst with
  | none => exact h
  | some d =>
    rw [hdst] at hd
    have hd : d < nt := Nat.lt_of_succ_le (Nat.le_of_ble_eq_true hd)
    intro t u ht
    simp only [putE, updT, beq_dec] at ht
    by_cases htd : t = d
    · subst htd
      simp at ht
      subst ht
      exact ⟨x, by simp [Act.put, hn, hd], hx⟩
    · simp [htd] at ht
      obtain ⟨y, hy, hr⟩ := h t u ht
      refine ⟨y, ?_, hr⟩
      simp only [Act.put]
      rw [Array.getElem?_setIfInBounds_ne (Ne.symm htd)]
      exact hy
section
variable {P : Program} {T : Nat → TI} {base nt : Nat} {F : FuncId → List AV → AV → Prop} {w0 : Start} {A : Nat → Prop}
theorem undef_rel (κ : Cx) : Rel κ (.tup []) undef := .tup rfl fun j c v hc => by simp at hc
/-- a slot's truth value is known -/
theorem env_known {κ : Cx} {env : Nat → Option AV} {tmps : Array Value} {t : Nat} {b : Bool} (he : EnvOk κ env tmps) (ht : env t = some (.d (.v (.bool b)))) : EnvOk κ (updT env t (some (.kb b))) tmps := by
  intro x v hx
  simp only [updT, beq_dec] at hx
  by_cases h : x = t
  · subst h
    simp at hx
    subst hx
    obtain ⟨y, hy, hr⟩ := he x _ ht
    have := hr.val
    subst this
    exact ⟨_, hy, .kb b⟩
  · simp [h] at hx
    exact he x v hx
/-- one operation of a region -/
theorem runL_step (hT : TOk P T) (heq : ∀ t, (T t).eqs = true → (T t).known = true) (hF : ∀ f args r, F f args r → FnX w0.dr P f args r) {ops : Array Oper} {o : Oper} {r : List Oper} {K : ASt → Prop} {N : Act → World → Prop} {Q : Exit → Act → World → Prop} {st : ASt} {κ : Cx} {a : Act}
    (hs : Sim w0 A st.m κ) (he : EnvOk κ st.env a.tmps) (hn : a.tmps.size = nt) (hd : a.defers = []) (h : runL T base nt F ops.toList (o :: r) st K)
    (hN : ∀ st' κ' a', Sim w0 A st'.m κ' → EnvOk κ' st'.env a'.tmps → a'.tmps.size = nt → a'.defers = [] → runL T base nt F ops.toList r st' K → N a' κ'.w) :
    if Region.wanted o (yielded ops a.tmps) then o.wp P a κ.w N Q else N (a.put o.dst undef) κ.w := by
  unfold runL at h
  cases hdo : dstOk nt o
  · rw [hdo] at h; exact h.elim
  · rw [hdo] at h
    simp only [Bool.not_true, cond_false] at h
    have exec : ∀ env, EnvOk κ env a.tmps → (opF T base env o).wp F st.m (fun v m => runL T base nt F ops.toList r ⟨putE env o.dst v, m⟩ K) → o.wp P a κ.w N Q := by
      intro env he h
      obtain ⟨v, m', hr, hk⟩ := Step.wp_runs _ _ _ h
      refine Oper.wp_mono ?_ (op_sim hT heq hF hs he hr)
      rintro a' w' ⟨κ', rfl, h1, h2, x, rfl, hx⟩
      exact hN ⟨putE env o.dst v, m'⟩ κ' _ h1 ((he.mono h2).put hn hdo hx) (by rw [put_size, hn]) (by rw [put_defers, hd]) hk
    have skip : ∀ env, EnvOk κ env a.tmps → runL T base nt F ops.toList r ⟨putE env o.dst (.tup []), st.m⟩ K → N (a.put o.dst undef) κ.w := fun env he h =>
      hN ⟨putE env o.dst (.tup []), st.m⟩ κ _ hs (he.put hn hdo (undef_rel κ)) (by rw [put_size, hn]) (by rw [put_defers, hd]) h
    cases hg : o.guard with
    | none =>
      rw [hg] at h
      have : Region.wanted o (yielded ops a.tmps) = true := by simp [Region.wanted, hg]
      rw [if_pos this]
      exact exec _ he h
    | some p =>
      obtain ⟨j, want⟩ := p
      rw [hg] at h
      dsimp only at h
      cases hj : gdst ops.toList j with
      | none => rw [hj] at h; exact h.elim
      | some t =>
        rw [hj] at h
        dsimp only at h
        have hy : ∀ x, a.tmps[t]? = some x → yielded ops a.tmps j = match x with | .bool b => some b | _ => none := by
          intro x hx
          unfold yielded
          have hb : (ops[j]?).bind (·.dst) = some t := by
            unfold gdst at hj
            rw [← Array.getElem?_toList]
            cases hq : ops.toList[j]? with
            | none => rw [hq] at hj; cases hj
            | some q => rw [hq] at hj; exact hj
          rw [hb]
          simp only [Option.bind_some, hx]
          cases x <;> rfl
        have go : ∀ (b : Bool) (env : Nat → Option AV), EnvOk κ env a.tmps → a.tmps[t]? = some (.bool b) → (bif want then (bif b then (opF T base env o).wp F st.m (fun v m => runL T base nt F ops.toList r ⟨putE env o.dst v, m⟩ K) else runL T base nt F ops.toList r ⟨putE env o.dst (.tup []), st.m⟩ K)
            else (bif b then runL T base nt F ops.toList r ⟨putE env o.dst (.tup []), st.m⟩ K else (opF T base env o).wp F st.m (fun v m => runL T base nt F ops.toList r ⟨putE env o.dst v, m⟩ K))) →
            if Region.wanted o (yielded ops a.tmps) then o.wp P a κ.w N Q else N (a.put o.dst undef) κ.w := by
          intro b env he hx h
          have hy := hy _ hx
          dsimp only at hy
          cases want <;> cases b
          · have : Region.wanted o (yielded ops a.tmps) = true := by simp [Region.wanted, hg, hy]
            rw [if_pos this]
            exact exec env he h
          · have : Region.wanted o (yielded ops a.tmps) = false := by simp [Region.wanted, hg, hy]
            rw [this]
            exact skip env he h
          · have : Region.wanted o (yielded ops a.tmps) = false := by simp [Region.wanted, hg, hy]
            rw [this]
            exact skip env he h
          · have : Region.wanted o (yielded ops a.tmps) = true := by simp [Region.wanted, hg, hy]
            rw [if_pos this]
            exact exec env he h
        split at h
        · rename_i hb
          obtain ⟨x, hx, hr⟩ := he t _ hb
          cases hr
          exact go true _ he hx (by cases want <;> exact h)
        · rename_i hb
          obtain ⟨x, hx, hr⟩ := he t _ hb
          cases hr
          exact go false _ he hx (by cases want <;> exact h)
        · rename_i b hb
          obtain ⟨x, hx, hr⟩ := he t _ hb
          have := hr.val
          subst this
          have he' := env_known he hb
          cases b
          · exact go false _ he' hx (by cases want <;> exact h.2 rfl)
          · exact go true _ he' hx (by cases want <;> exact h.1 rfl)
        · rename_i hb
          obtain ⟨x, hx, hr⟩ := he t _ hb
          obtain ⟨vs, rfl, _⟩ := hr.tup_inv
          have hy := hy _ hx
          dsimp only at hy
          have : Region.wanted o (yielded ops a.tmps) = false := by simp [Region.wanted, hg, hy]
          rw [this]
          exact skip _ he h
        · exact h.elim
theorem runL_sound (hT : TOk P T) (heq : ∀ t, (T t).eqs = true → (T t).known = true) (hF : ∀ f args r, F f args r → FnX w0.dr P f args r) {ops : Array Oper} {K : ASt → Prop} {Q : Exit → Act → World → Prop} (hQ : ∀ a w, Holds w0 A nt K a w → Q .normal a w) :
    ∀ (l : List Oper) (st : ASt) (κ : Cx) (a : Act), Sim w0 A st.m κ → EnvOk κ st.env a.tmps → a.tmps.size = nt → a.defers = [] → runL T base nt F ops.toList l st K → wpList P ops Q l a κ.w
  | [], st, κ, a, hs, he, hn, hd, h => hQ a κ.w ⟨st, κ, rfl, hs, he, hn, hd, h⟩
  | o :: r, st, κ, a, hs, he, hn, hd, h => by
    refine wpList_step fun K' hK' => ?_
    exact runL_step hT heq hF hs he hn hd h fun st' κ' a' h1 h2 h3 h4 h5 => hK' _ _ (runL_sound hT heq hF hQ r st' κ' a' h1 h2 h3 h4 h5)
end
/- the head of a loop -/
def Cx.ren (κ : Cx) (σ : List (Nat × Nat × Nat)) : Cx := ⟨fun s _ => κ.φ (sig σ s).1 (sig σ s).2, fun _ => 1, κ.S, κ.w⟩
theorem ren1_rel {κ : Cx} {σ : List (Nat × Nat × Nat)} {v : AV} {x : Value} (hl : low1 v = true) (h : Rel κ (ren1 σ v) x) : Rel (κ.ren σ) v x := by
  have one : ∀ {g : Nat}, Nat.beq g 1 = true → g ≤ 1 := fun hg => by rw [Nat.eq_of_beq_eq_true hg]; exact Nat.le_refl _
  cases v with
  | lp s g o => cases h with | lp hg hb => exact .lp (one hl) hb
  | rp s g i o =>
    cases h with
    | rp hg hb => exact Rel.rp (κ := κ.ren σ) (s := s) (g := g) (i := i) (o := o) (one hl) hb
  | row s g n =>
    cases h with
    | row0 A' hg hb hz => exact .row0 A' (one hl) hb hz
    | row hg hb => exact Rel.row (κ := κ.ren σ) (s := s) (g := g) (one hl) hb
  | sub s g o n =>
    cases h with
    | sub0 A' hg hb hz => exact .sub0 A' (one hl) hb hz
    | sub A' hg hb hA hn => exact Rel.sub (κ := κ.ren σ) (s := s) (g := g) A' (one hl) hb hA hn
  | d y => cases h with | d h => exact .d h
  | nl => cases h with | nl A' => exact .nl A'
  | fp cs => cases h with | fp vs hb hc hr => exact .fp vs hb hc hr
  | mp s g => cases h with | mp hg hb => exact .mp (one hl) hb
  | _ => cases hl
theorem renL_rel {κ : Cx} {σ : List (Nat × Nat × Nat)} {cs : List AV} {vs : Array Value} (hl : cs.all low1 = true) (hn : vs.size = (cs.map (ren1 σ)).length) (h : ∀ (j : Nat) (c : AV) (v : Value), (cs.map (ren1 σ))[j]? = some c → vs[j]? = some v → Rel κ c v) :
    vs.size = cs.length ∧ ∀ (j : Nat) (c : AV) (v : Value), cs[j]? = some c → vs[j]? = some v → Rel (κ.ren σ) c v :=
  ⟨by simpa using hn, fun j c v hc hv => ren1_rel (List.all_eq_true.1 hl c (List.mem_of_getElem? hc)) (h j _ v (by rw [List.getElem?_map, hc]; rfl) hv)⟩
theorem renV_rel {κ : Cx} {σ : List (Nat × Nat × Nat)} {v : AV} {x : Value} (hl : lowV v = true) (h : Rel κ (renV σ v) x) : Rel (κ.ren σ) v x := by
  have h1 := @ren1_rel κ σ v x
  cases v with
  | agg cs => cases h with | agg hn h => exact let ⟨q1, q2⟩ := renL_rel hl hn h; .agg q1 q2
  | tup cs => cases h with | tup hn h => exact let ⟨q1, q2⟩ := renL_rel hl hn h; .tup q1 q2
  | fn f cs => cases h with | fn hn h => exact let ⟨q1, q2⟩ := renL_rel hl hn h; .fn q1 q2
  | _ => exact h1 hl h
theorem mapO_some {α β : Type} {f : α → β} {o : Option α} {y : β} (h : mapO f o = some y) : ∃ x, o = some x ∧ f x = y := by
  cases o with
  | none => cases h
  | some x => exact ⟨x, rfl, by injection h⟩
theorem frzM_sim {w0 : Start} {A : Nat → Prop} : ∀ (fl : List (Nat × Nat)) (m : Mem) (κ : Cx) (m' : Mem), Sim w0 A m κ → frzM m fl = some m' → ∃ κ', Sim w0 A m' κ' ∧ κ.Le κ' ∧ κ'.w = κ.w
  | [], m, κ, m', hs, h => by
    injection h with h
    subst h
    exact ⟨κ, hs, .refl κ, rfl⟩
  | (s, g) :: r, m, κ, m', hs, h => by
    simp only [frzM] at h
    split at h
    · rename_i sz es ro hi
      obtain ⟨q1, q2⟩ := hs.frz hi
      obtain ⟨κ', r1, r2, r3⟩ := frzM_sim r _ _ m' q1 h
      exact ⟨κ', r1, q2.trans r2, r3.trans rfl⟩
    · cases h
theorem sepM_get {σ : List (Nat × Nat × Nat)} : ∀ {M : List (Nat × Inst)}, sepM σ M = true → ∀ s s' i i', lookM M s = some i → lookM M s' = some i' → (sig σ s).1 = (sig σ s').1 → (sig σ s).2 = (sig σ s').2 → s = s'
  | [], _, s, s', i, i', h, _, _, _ => by cases h
  | (l, q) :: M, hs, s, s', i, i', h, h', e1, e2 => by
    simp only [sepM, Bool.and_eq_true] at hs
    have mem : ∀ {M : List (Nat × Inst)} {t : Nat} {j : Inst}, lookM M t = some j → ∃ p ∈ M, p.1 = t := by
      intro M
      induction M with
      | nil => intro t j h; cases h
      | cons p M ih =>
        obtain ⟨pl, pi⟩ := p
        intro t j h
        simp only [lookM, beq_dec] at h
        by_cases ht : t = pl
        · exact ⟨(pl, pi), by simp, ht.symm⟩
        · simp [ht] at h
          obtain ⟨p, hp, e⟩ := ih h
          exact ⟨p, by simp [hp], e⟩
    have far : ∀ {t : Nat} {j : Inst}, lookM M t = some j → ¬ ((sig σ l).1 = (sig σ t).1 ∧ (sig σ l).2 = (sig σ t).2) := by
      intro t j h
      obtain ⟨p, hp, rfl⟩ := mem h
      have := List.all_eq_true.1 hs.1 p hp
      simp only [beq_dec, Bool.not_eq_true', Bool.and_eq_false_imp, decide_eq_true_eq, decide_eq_false_iff_not] at this
      exact fun h => this h.1 h.2
    simp only [lookM, beq_dec] at h h'
    by_cases hl : s = l <;> by_cases hl' : s' = l
    · rw [hl, hl']
    · simp [hl'] at h'
      subst hl
      exact absurd ⟨e1, e2⟩ (far h')
    · simp [hl] at h
      subst hl'
      exact absurd ⟨e1.symm, e2.symm⟩ (far h)
    · simp [hl] at h
      simp [hl'] at h'
      exact sepM_get hs.2 s s' i i' h h' e1 e2
theorem sepM_pin {σ : List (Nat × Nat × Nat)} : ∀ {M : List (Nat × Inst)}, sepM σ M = true → pinS σ = true
  | [], h => h
  | (l, q) :: M, h => by
    simp only [sepM, Bool.and_eq_true] at h
    exact sepM_pin h.2
theorem sig_pin : ∀ {σ : List (Nat × Nat × Nat)}, pinS σ = true → ∀ x, 1000000 < x → sig σ x = (x, 1)
  | [], _, x, _ => rfl
  | (l, p) :: r, h, x, hx => by
    unfold pinS at h
    rw [List.all_cons, Bool.and_eq_true] at h
    have h1 := Nat.le_of_ble_eq_true h.1
    have hne : x ≠ l := by
      have h1 : l ≤ 1000000 := h1
      omega
    simp only [sig, beq_dec, hne, decide_false, cond_false]
    exact sig_pin h.2 x hx
section
variable {w0 : Start} {A : Nat → Prop} {m : Mem} {κ : Cx}
theorem viewA_rel (hs : Sim w0 A m κ) {v x : AV} {y : Value} (h : Rel κ x y) : Rel κ (viewA m v x) y := by
  unfold viewA
  split
  · split
    · rename_i s g n
      cases h with
      | row0 A' hg hb hz => exact .sub0 A' hg hb hz
      | row hg hb => exact Rel.sub (κ := κ) (s := s) (g := g) (o := 0) _ hg hb (Or.inr (by simp)) (by omega)
    · exact h
  · split
    · rename_i s g n
      split
      · rename_i sz es hi
        exact .d (row_read hs hi h (fun _ h => h) fun b hb => hs.isS s g _ b hi hb rfl).1
      · exact h
    · rename_i s g o n
      split
      · rename_i sz es hi
        exact .d (sub_read hs hi h (fun _ h => h) fun b hb => hs.isS s g _ b hi hb rfl).1
      · exact h
    · cases h with
      | nl A' => exact .d (.fz0 A' 0 fun _ => rfl)
    · exact h
  · exact h
theorem viewL_rel (hs : Sim w0 A m κ) : ∀ (vs xs : List AV) (ys : List Value), (∀ (j : Nat) (c : AV) (y : Value), xs[j]? = some c → ys[j]? = some y → Rel κ c y) → (viewL m vs xs).length = xs.length ∧ ∀ (j : Nat) (c : AV) (y : Value), (viewL m vs xs)[j]? = some c → ys[j]? = some y → Rel κ c y
  | [], xs, ys, h => ⟨by cases xs <;> rfl, fun j c y hc hy => h j c y (by cases xs <;> exact hc) hy⟩
  | v :: vs, [], ys, h => ⟨rfl, fun j c y hc hy => by simp [viewL] at hc⟩
  | v :: vs, x :: xs, ys, h => by
    cases ys with
    | nil => exact ⟨by simp [viewL, (viewL_rel hs vs xs [] (fun j c y _ hy => by simp at hy)).1], fun j c y _ hy => by simp at hy⟩
    | cons y0 ys =>
      obtain ⟨q1, q2⟩ := viewL_rel hs vs xs ys fun j c y hc hy => h (j + 1) c y (by simpa using hc) (by simpa using hy)
      refine ⟨by simp [viewL, q1], fun j c y hc hy => ?_⟩
      cases j with
      | zero =>
        simp [viewL] at hc hy
        subst hc hy
        exact viewA_rel hs (h 0 x _ rfl rfl)
      | succ j => exact q2 j c y (by simpa [viewL] using hc) (by simpa using hy)
theorem viewV_rel (hs : Sim w0 A m κ) {v x : AV} {y : Value} (h : Rel κ x y) : Rel κ (viewV m v x) y := by
  unfold viewV
  split
  · rename_i vs
    split
    · rename_i xs
      cases h with
      | @agg _ ys hl h =>
        obtain ⟨q1, q2⟩ := viewL_rel hs vs xs ys.toList fun j c y hc hy => h j c y hc (by simpa using hy)
        exact .agg (by rw [hl, q1]) fun j c y hc hy => q2 j c y hc (by simpa using hy)
    · exact h
  · exact viewA_rel hs h
end
theorem chkE_get {σ : List (Nat × Nat × Nat)} {st : ASt} : ∀ {E : List (Nat × AV)}, chkE σ st E → ∀ t v, lookE E t = some v → lowV v = true ∧ mapO (viewV st.m v) (unkO (st.env t)) = some (renV σ v)
  | [], _, t, v, h => by cases h
  | (t', v') :: E, hc, t, v, h => by
    simp only [chkE] at hc
    simp only [lookE, beq_dec] at h
    cases hl : lowV v'
    · rw [hl] at hc; exact hc.elim
    · rw [hl] at hc
      by_cases ht : t = t'
      · subst ht
        simp at h
        subst h
        exact ⟨hl, hc.1⟩
      · simp [ht] at h
        exact chkE_get hc.2 t v h
theorem chkM_get {σ : List (Nat × Nat × Nat)} {st : ASt} : ∀ {M : List (Nat × Inst)}, chkM σ st M → ∀ s i, lookM M s = some i → lowI i = true ∧ mapO (viewI st.m i) (st.m.at_ (sig σ s).1 (sig σ s).2) = some (renI σ i)
  | [], _, t, v, h => by cases h
  | (t', v') :: E, hc, t, v, h => by
    simp only [chkM] at hc
    simp only [lookM, beq_dec] at h
    cases hl : lowI v'
    · rw [hl] at hc; exact hc.elim
    · rw [hl] at hc
      by_cases ht : t = t'
      · subst ht
        simp at h
        subst h
        exact ⟨hl, hc.1⟩
      · simp [ht] at h
        exact chkM_get hc.2 t v h
theorem enters_sim {w0 : Start} {A : Nat → Prop} {st : ASt} {κ : Cx} {tmps : Array Value} {E : List (Nat × AV)} {M : List (Nat × Inst)} (hs : Sim w0 A st.m κ) (he : EnvOk κ st.env tmps) (h : Enters st E M) :
    ∃ κ', κ'.w = κ.w ∧ Sim w0 A (mkSt E M).m κ' ∧ EnvOk κ' (mkSt E M).env tmps := by
  obtain ⟨fl, σ, h⟩ := h
  split at h
  rotate_left
  · exact h.elim
  rename_i mf hfl
  obtain ⟨κ1, hs1, hle1, hw1⟩ := frzM_sim fl _ κ mf hs hfl
  have he1 := he.mono hle1
  rw [← hw1]
  obtain ⟨hsep, hE, hM⟩ := h
  have inst : ∀ s g i, (mkSt E M).m.at_ s g = some i → lookM M s = some i := by
    intro s g i hi
    simp only [mkSt, beq_dec] at hi
    by_cases hg : g = 1
    · simpa [hg] using hi
    · simp [hg] at hi
  have mem : ∀ s g i, (mkSt E M).m.at_ s g = some i → g = 1 ∧ lowI i = true ∧ ∃ j, mf.at_ (sig σ s).1 (sig σ s).2 = some j ∧ viewI mf i j = renI σ i := by
    intro s g i hi
    have hg : g = 1 := by
      simp only [mkSt, beq_dec] at hi
      by_cases hg : g = 1
      · exact hg
      · simp [hg] at hi
    obtain ⟨q1, q2⟩ := chkM_get hM s i (inst s g i hi)
    exact ⟨hg, q1, mapO_some q2⟩
  have rwi : ∀ i : Inst, (renI σ i).rw_ = i.rw_ := fun i => by cases i <;> rfl
  have rwv : ∀ i j : Inst, (viewI mf i j).rw_ = j.rw_ := fun i j => by cases i <;> cases j <;> rfl
  have rwj : ∀ i j : Inst, viewI mf i j = renI σ i → j.rw_ = i.rw_ := fun i j h => by rw [← rwv i j, h, rwi]
  refine ⟨κ1.ren σ, rfl, ⟨hs1.below, rfl, ?_, ?_, ?_, ?_, ?_, ?_, hs1.st, hs1.args, fun i hi => ⟨by
    show κ1.φ (sig σ (1000001 + i)).1 (sig σ (1000001 + i)).2 = _
    rw [sig_pin (sepM_pin hsep) _ (by omega)]
    exact (hs1.pin i hi).1, Nat.le_refl 1⟩⟩, fun t v ht => ?_⟩
  · intro s g i hi
    obtain ⟨rfl, hl, j, h1, h2⟩ := mem s g i hi
    have hok := hs1.ok _ _ _ h1
    show InstOk (κ1.ren σ) (κ1.φ (sig σ s).1 (sig σ s).2) i
    cases i with
    | box cs =>
      cases j with
      | rows => cases h2
      | mapi => cases h2
      | box xs =>
        obtain ⟨b, T, vs, hb, hh, hn, hr⟩ := hok
        have h2 : Inst.box (viewL mf cs xs) = .box (cs.map (ren1 σ)) := h2
        injection h2 with h2
        obtain ⟨q1, q2⟩ := viewL_rel hs1 cs xs vs.toList fun j c y hc hy => (hr j c y hc (by simpa using hy)).1
        have hlen : xs.length = cs.length := by rw [← q1, h2, List.length_map]
        refine ⟨b, T, vs, hb, hh, by rw [hn, hlen], fun j c v hc hv => ?_⟩
        have hj : j < xs.length := by rw [hlen]; exact (List.getElem?_eq_some_iff.1 hc).1
        refine ⟨ren1_rel (List.all_eq_true.1 hl c (List.mem_of_getElem? hc)) (q2 j _ v (by rw [h2, List.getElem?_map, hc]; rfl) (by simpa using hv)), (hr j xs[j] v (List.getElem?_eq_getElem hj) hv).2⟩
    | rows sz es ro =>
      cases j with
      | box => cases h2
      | mapi => cases h2
      | rows sz' es' ro' =>
        have h2 : Inst.rows sz' es' ro' = .rows sz es ro := h2
        rw [h2] at hok
        exact hok
    | mapi ck es =>
      cases j with
      | box => cases h2
      | rows => cases h2
      | mapi ck' es' =>
        have h2 : Inst.mapi ck' es' = .mapi ck es := h2
        rw [h2] at hok
        exact hok
  · intro s g i hi
    obtain ⟨rfl, _, _⟩ := mem s g i hi
    exact Nat.le_refl _
  · intro s g i b hi hb
    obtain ⟨rfl, _, j, h1, h2⟩ := mem s g i hi
    exact hs1.own _ _ _ b h1 hb
  · intro s g i b hi hb hr
    obtain ⟨rfl, _, j, h1, h2⟩ := mem s g i hi
    exact hs1.notS _ _ _ b h1 hb (by rw [rwj i j h2]; exact hr)
  · intro s g i b hi hb hr
    obtain ⟨rfl, _, j, h1, h2⟩ := mem s g i hi
    exact hs1.isS _ _ _ b h1 hb (by rw [rwj i j h2]; exact hr)
  · intro s g i s' g' i' b hi hi' hb hb' hr
    obtain ⟨rfl, _, j, h1, h2⟩ := mem s g i hi
    obtain ⟨rfl, _, j', h1', h2'⟩ := mem s' g' i' hi'
    have := hs1.sep _ _ _ _ _ _ b h1 h1' hb hb' (by rw [rwj i j h2]; exact hr)
    exact ⟨sepM_get hsep s s' i i' (inst _ _ _ hi) (inst _ _ _ hi') this.1 this.2, rfl⟩
  · obtain ⟨hl, h1⟩ := chkE_get hE t v ht
    obtain ⟨q, hq, h1⟩ := mapO_some h1
    dsimp only at hq h1
    cases hq' : st.env t with
    | none => rw [hq'] at hq; cases hq
    | some q' =>
      rw [hq'] at hq
      injection hq with hq
      obtain ⟨x, hx, hr⟩ := he1 t _ hq'
      refine ⟨x, hx, renV_rel hl ?_⟩
      rw [← h1, ← hq]
      exact viewV_rel hs1 hr.unk
end Go.Proofs.Ytlgadmholjaljaa

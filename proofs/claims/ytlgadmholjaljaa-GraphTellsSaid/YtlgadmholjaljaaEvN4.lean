/-
  Evaluation of Go code on plain data: the operations of a region, one after the other, in another order. Over any program.
-/
import Derived.Test.YtlgadmholjaljaaEvN3
namespace Go.Proofs.Ytlgadmholjaljaa
open Go.RowKit
def unkE (env : Nat → Option AV) : Nat → Option AV := fun t => unkO (env t)
theorem unk1_idem (v : AV) : unk1 (unk1 v) = unk1 v := by cases v <;> rfl
theorem unk_idem (v : AV) : unk (unk v) = unk v := by
  have h := unk1_idem v
  cases v with
  | agg cs =>
    simp only [unk, List.map_map]
    congr 1
    apply List.map_congr_left
    intro x _
    exact unk1_idem x
  | _ => first | rfl | exact h
theorem unkO_idem (v : Option AV) : unkO (unkO v) = unkO v := by
  cases v with
  | none => rfl
  | some v => simp only [unkO, unk_idem]
theorem raw_unkE (env : Nat → Option AV) (x : Operand) : unkO (rawOf (unkE env) x) = unkO (rawOf env x) := by
  cases x with
  | tmp t => exact unkO_idem _
  | _ => rfl
theorem rho_unkE (env : Nat → Option AV) : rhoOf (unkE env) = rhoOf env := funext fun x => raw_unkE env x
section
variable {T : Nat → TI} {base nt : Nat} {F : FuncId → List AV → AV → Prop}
theorem mv_unk {s sz : Nat} {x y : Option AV} (h : unkO x = unkO y) {m m' : Mem} {v : AV} (hr : (mvF s sz x).Runs F m v m') : ∃ v', (mvF s sz y).Runs F m v' m' ∧ unk v' = unk v := by
  cases x with
  | none => cases hr
  | some x =>
    cases y with
    | none => cases h
    | some y =>
      have h : unk x = unk y := Option.some.inj h
      by_cases hx : x = .nl
      · subst hx
        have hy : y = .nl := by
          cases y <;> first | rfl | cases h
        subst hy
        exact ⟨v, hr, rfl⟩
      · have hy : y ≠ .nl := by
          rintro rfl
          apply hx
          cases x <;> first | rfl | cases h
        have e1 : mvF s sz (some x) = .ret x := by cases x <;> first | rfl | exact absurd rfl hx
        have e2 : mvF s sz (some y) = .ret y := by cases y <;> first | rfl | exact absurd rfl hy
        rw [e1] at hr
        cases hr with
        | ret => exact ⟨y, by rw [e2]; exact .ret, h.symm⟩
theorem retO_unk {x y : Option AV} (h : unkO x = unkO y) {m m' : Mem} {v : AV} (hr : (retO x).Runs F m v m') : ∃ v', (retO y).Runs F m v' m' ∧ unk v' = unk v := by
  cases x with
  | none => cases hr
  | some x =>
    cases y with
    | none => cases h
    | some y =>
      cases hr with
      | ret => exact ⟨y, .ret, (Option.some.inj h).symm⟩
theorem pick_unk {c c' x x' y y' : Option AV} (hc : unkO c = unkO c') (hx : unkO x = unkO x') (hy : unkO y = unkO y') {m m' : Mem} {v : AV} (hr : (pickF c x y).Runs F m v m') : ∃ v', (pickF c' x' y').Runs F m v' m' ∧ unk v' = unk v := by
  obtain ⟨t, ht, hr⟩ := pickF_inv hr
  have hb : unkO c' = some (.d (.v (.bool t))) := by
    rw [← hc]
    rcases ht with rfl | rfl <;> rfl
  have hc' : c' = some (.d (.v (.bool t))) ∨ c' = some (.kb t) := by
    cases c' with
    | none => cases hb
    | some c' =>
      cases c' with
      | d z => left; exact hb
      | kb b => right; injection hb with hb; injection hb with hb; injection hb with hb; injection hb with hb; rw [hb]
      | _ => cases hb
  have fin : ∃ v', (bif t then retO x' else retO y').Runs F m v' m' ∧ unk v' = unk v := by
    cases t
    · exact retO_unk hy hr
    · exact retO_unk hx hr
  obtain ⟨v', h1, h2⟩ := fin
  refine ⟨v', ?_, h2⟩
  rcases hc' with rfl | rfl
  · exact .br h1
  · cases t <;> exact h1
/-- what is known of truth values makes no difference -/
theorem opF_unk {env env' : Nat → Option AV} (h : unkE env = unkE env') {o : Oper} {m m' : Mem} {v : AV} (hr : (opF T base env o).Runs F m v m') : ∃ v', (opF T base env' o).Runs F m v' m' ∧ unk v' = unk v := by
  have hraw : ∀ x, unkO (rawOf env x) = unkO (rawOf env' x) := fun x => by rw [← raw_unkE env, ← raw_unkE env', h]
  have hrho : rhoOf env = rhoOf env' := funext hraw
  unfold opF at hr ⊢
  split at hr
  all_goals rename_i ho
  · exact mv_unk (hraw _) hr
  · exact mv_unk (hraw _) hr
  · exact pick_unk (hraw _) (hraw _) (hraw _) hr
  all_goals first | exact ⟨v, hr, rfl⟩ | (rw [← hrho]; exact ⟨v, hr, rfl⟩)
/-- one operation, with known truth values forgotten -/
def Go1 (T : Nat → TI) (base : Nat) (F : FuncId → List AV → AV → Prop) (ops : Array Oper) (o : Oper) (env : Nat → Option AV) (v : AV) (m m1 : Mem) : Prop :=
  match o.guard with
  | none => ∃ v', (opF T base env o).Runs F m v' m1 ∧ v = unk v'
  | some (j, want) => ∃ t, gdst ops.toList j = some t ∧ ((∃ b, env t = some (.d (.v (.bool b))) ∧ ((b = want ∧ ∃ v', (opF T base env o).Runs F m v' m1 ∧ v = unk v') ∨ (b ≠ want ∧ v = .tup [] ∧ m1 = m))) ∨ (env t = some (.tup []) ∧ v = .tup [] ∧ m1 = m))
def StepN (T : Nat → TI) (base nt : Nat) (F : FuncId → List AV → AV → Prop) (ops : Array Oper) (o : Oper) (st st' : ASt) : Prop := dstOk nt o = true ∧ ∃ v, Go1 T base F ops o st.env v st.m st'.m ∧ st'.env = putE st.env o.dst v
def ChainN (T : Nat → TI) (base nt : Nat) (F : FuncId → List AV → AV → Prop) (ops : Array Oper) : List Oper → ASt → ASt → Prop
  | [], st, st' => st' = st
  | o :: r, st, st' => ∃ st1, StepN T base nt F ops o st st1 ∧ ChainN T base nt F ops r st1 st'
theorem unkE_put (env : Nat → Option AV) (d : Option Tmp) (v : AV) : unkE (putE env d v) = putE (unkE env) d (unk v) := by
  funext t
  cases d with
  | none => rfl
  | some d =>
    simp only [unkE, putE, updT, beq_dec]
    by_cases h : t = d <;> simp [h, unkO]
theorem unkE_idem (env : Nat → Option AV) : unkE (unkE env) = unkE env := funext fun _ => unkO_idem _
theorem unkE_known {env : Nat → Option AV} {t : Nat} {b : Bool} (h : env t = some (.d (.v (.bool b)))) : unkE (updT env t (some (.kb b))) = unkE env := by
  funext x
  simp only [unkE, updT, beq_dec]
  by_cases hx : x = t
  · subst hx; simp [h, unkO, unk, unk1]
  · simp [hx]
theorem runL_chain {ops : Array Oper} {K : ASt → Prop} : ∀ (l : List Oper) (st : ASt), runL T base nt F ops.toList l st K → ∃ st', ChainN T base nt F ops l ⟨unkE st.env, st.m⟩ ⟨unkE st'.env, st'.m⟩ ∧ K st'
  | [], st, h => ⟨st, rfl, h⟩
  | o :: r, st, h => by
    unfold runL at h
    cases hdo : dstOk nt o
    · rw [hdo] at h; exact h.elim
    · rw [hdo] at h
      simp only [Bool.not_true, cond_false] at h
      /- an operation that is carried out -/
      have exec : ∀ env, unkE env = unkE st.env → (opF T base env o).wp F st.m (fun v m => runL T base nt F ops.toList r ⟨putE env o.dst v, m⟩ K) →
          ∃ v' m1 st', (opF T base (unkE st.env) o).Runs F st.m v' m1 ∧ ChainN T base nt F ops r ⟨putE (unkE st.env) o.dst (unk v'), m1⟩ ⟨unkE st'.env, st'.m⟩ ∧ K st' := by
        intro env he h
        obtain ⟨v, m1, h1, h2⟩ := Step.wp_runs _ _ _ h
        obtain ⟨st', h3, h4⟩ := runL_chain r _ h2
        obtain ⟨v', h5, h6⟩ := opF_unk (env' := unkE st.env) (by rw [he, unkE_idem]) h1
        refine ⟨v', m1, st', h5, ?_, h4⟩
        simp only [unkE_put, he] at h3
        rw [h6]
        exact h3
      have skip : ∀ env, unkE env = unkE st.env → runL T base nt F ops.toList r ⟨putE env o.dst (.tup []), st.m⟩ K → ∃ st', ChainN T base nt F ops r ⟨putE (unkE st.env) o.dst (.tup []), st.m⟩ ⟨unkE st'.env, st'.m⟩ ∧ K st' := by
        intro env he h
        obtain ⟨st', h3, h4⟩ := runL_chain r _ h
        simp only [unkE_put, he] at h3
        exact ⟨st', h3, h4⟩
      cases hg : o.guard with
      | none =>
        rw [hg] at h
        obtain ⟨v', m1, st', h1, h2, h3⟩ := exec _ rfl h
        exact ⟨st', ⟨_, ⟨hdo, unk v', by unfold Go1; rw [hg]; exact ⟨v', h1, rfl⟩, rfl⟩, h2⟩, h3⟩
      | some p =>
        obtain ⟨j, want⟩ := p
        rw [hg] at h
        dsimp only at h
        cases hj : gdst ops.toList j with
        | none => rw [hj] at h; exact h.elim
        | some t =>
          rw [hj] at h
          dsimp only at h
          have yes : ∀ (b : Bool) (env : Nat → Option AV), unkE env = unkE st.env → unkO (st.env t) = some (.d (.v (.bool b))) → b = want → (opF T base env o).wp F st.m (fun v m => runL T base nt F ops.toList r ⟨putE env o.dst v, m⟩ K) → ∃ st', ChainN T base nt F ops (o :: r) ⟨unkE st.env, st.m⟩ ⟨unkE st'.env, st'.m⟩ ∧ K st' := by
            intro b env he hb hw h
            obtain ⟨v', m1, st', h1, h2, h3⟩ := exec env he h
            exact ⟨st', ⟨_, ⟨hdo, unk v', by unfold Go1; rw [hg]; exact ⟨t, hj, Or.inl ⟨b, hb, Or.inl ⟨hw, v', h1, rfl⟩⟩⟩, rfl⟩, h2⟩, h3⟩
          have no : ∀ (b : Bool) (env : Nat → Option AV), unkE env = unkE st.env → unkO (st.env t) = some (.d (.v (.bool b))) → b ≠ want → runL T base nt F ops.toList r ⟨putE env o.dst (.tup []), st.m⟩ K → ∃ st', ChainN T base nt F ops (o :: r) ⟨unkE st.env, st.m⟩ ⟨unkE st'.env, st'.m⟩ ∧ K st' := by
            intro b env he hb hw h
            obtain ⟨st', h2, h3⟩ := skip env he h
            exact ⟨st', ⟨_, ⟨hdo, .tup [], by unfold Go1; rw [hg]; exact ⟨t, hj, Or.inl ⟨b, hb, Or.inr ⟨hw, rfl, rfl⟩⟩⟩, rfl⟩, h2⟩, h3⟩
          split at h
          · rename_i hb
            have hb' : unkO (st.env t) = some (.d (.v (.bool true))) := by rw [hb]; rfl
            cases want
            · exact no true _ rfl hb' (by decide) h
            · exact yes true _ rfl hb' rfl h
          · rename_i hb
            have hb' : unkO (st.env t) = some (.d (.v (.bool false))) := by rw [hb]; rfl
            cases want
            · exact yes false _ rfl hb' rfl h
            · exact no false _ rfl hb' (by decide) h
          · rename_i b hb
            have hb' : unkO (st.env t) = some (.d (.v (.bool b))) := by rw [hb]; rfl
            have he := unkE_known hb
            cases b
            · cases want
              · exact yes false _ he hb' rfl (h.2 rfl)
              · exact no false _ he hb' (by decide) (h.2 rfl)
            · cases want
              · exact no true _ he hb' (by decide) (h.1 rfl)
              · exact yes true _ he hb' rfl (h.1 rfl)
          · rename_i hb
            have hb' : unkO (st.env t) = some (.tup []) := by rw [hb]; rfl
            obtain ⟨st', h2, h3⟩ := skip _ rfl h
            exact ⟨st', ⟨_, ⟨hdo, .tup [], by unfold Go1; rw [hg]; exact ⟨t, hj, Or.inr ⟨hb', rfl, rfl⟩⟩, rfl⟩, h2⟩, h3⟩
          · exact h.elim
end
end Go.Proofs.Ytlgadmholjaljaa

/-
  Evaluation of Go code on plain data: regions that draw their order. Over any program.
-/
import Derived.Test.YtlgadmholjaljaaEvN4
namespace Go.Proofs.Ytlgadmholjaljaa
open Go.RowKit
section
variable {P : Program} {T : Nat → TI} {base nt : Nat} {F : FuncId → List AV → AV → Prop} {w0 : Start} {A : Nat → Prop} {ops : Array Oper}
theorem pure_runs {x : Step} {m m' : Mem} {v : AV} (hr : x.Runs F m v m') : x.Fits (fun _ _ => False) (fun _ => False) → m' = m ∧ ∀ q, x.Runs F q v q := by
  induction hr with
  | ret => exact fun _ => ⟨rfl, fun q => .ret⟩
  | rdb h r ih => exact fun hf => hf.1.elim
  | rdr h r ih => exact fun hf => hf.1.elim
  | rdm h r ih => exact fun hf => hf.1.elim
  | rww => exact fun hf => hf.elim
  | rdz h r ih => exact fun hf => hf.1.elim
  | wr => exact fun hf => hf.elim
  | new r ih => exact fun hf => hf.1.elim
  | app => exact fun hf => hf.elim
  | frz h r ih => exact fun hf => hf.1.elim
  | elem h r ih => exact fun hf => let ⟨h1, h2⟩ := ih (hf _); ⟨h1, fun q => .elem h (h2 q)⟩
  | call h r ih => exact fun hf => let ⟨h1, h2⟩ := ih (hf _); ⟨h1, fun q => .call h (h2 q)⟩
  | chk h r ih => exact fun hf => let ⟨h1, h2⟩ := ih hf; ⟨h1, fun q => .chk h (h2 q)⟩
  | @br b x y m m' v r ih => exact fun hf => let ⟨h1, h2⟩ := ih (by cases b; exact hf.2; exact hf.1); ⟨h1, fun q => .br (h2 q)⟩
theorem rawOf_put {E : Nat → Option AV} {d : Option Tmp} {v : AV} {x : Operand} (h : ∀ t, d = some t → x ≠ .tmp t) : rawOf (putE E d v) x = rawOf E x := by
  cases d with
  | none => rfl
  | some t =>
    cases x with
    | tmp u =>
      have hne : u ≠ t := fun e => h t rfl (by rw [e])
      simp [rawOf, putE, updT, beq_dec, hne]
    | _ => rfl
theorem looks_operand {o : Oper} {x : Operand} (hx : x ∈ o.op.operands) {t : Tmp} (e : x = .tmp t) : t ∈ o.looksAt ops := by
  unfold Oper.looksAt
  refine List.mem_append_left _ (List.mem_filterMap.2 ⟨x, by simpa using hx, ?_⟩)
  rw [e]
theorem looks_guard {o : Oper} {j : Nat} {w : Bool} (hg : o.guard = some (j, w)) {t : Tmp} (ht : gdst ops.toList j = some t) : t ∈ o.looksAt ops := by
  unfold Oper.looksAt
  rw [hg]
  refine List.mem_append_right _ ?_
  show t ∈ ((ops[j]?).bind (·.dst)).toList
  unfold gdst at ht
  rw [← Array.getElem?_toList]
  cases hq : ops.toList[j]? with
  | none => rw [hq] at ht; cases ht
  | some q => rw [hq] at ht; simp [ht]
/-- an operation looks at its operands and its guard alone -/
theorem Go1.put {o : Oper} {E : Nat → Option AV} {d : Option Tmp} {u v : AV} {m m1 : Mem} (h : ∀ t, d = some t → t ∉ o.looksAt ops) : Go1 T base F ops o (putE E d u) v m m1 ↔ Go1 T base F ops o E v m m1 := by
  have e : opF T base (putE E d u) o = opF T base E o := opF_congr fun x hx => rawOf_put fun t ht e => h t ht (looks_operand hx e)
  unfold Go1
  cases hg : o.guard with
  | none => simp only [e]
  | some p =>
    obtain ⟨j, w⟩ := p
    simp only [e]
    have hE : ∀ t, gdst ops.toList j = some t → (putE E d u) t = E t := by
      intro t ht
      have := rawOf_put (E := E) (d := d) (v := u) (x := .tmp t) fun t' ht' e => h t' ht' (by injection e with e; rw [← e]; exact looks_guard hg ht)
      exact this
    constructor
    · rintro ⟨t, ht, h2⟩
      rw [hE t ht] at h2
      exact ⟨t, ht, h2⟩
    · rintro ⟨t, ht, h2⟩
      refine ⟨t, ht, ?_⟩
      rw [hE t ht]
      exact h2
/-- carried out, or passed over -/
theorem Go1.cases {o : Oper} {E : Nat → Option AV} {v : AV} {m m1 : Mem} (h : Go1 T base F ops o E v m m1) :
    (∃ v', (opF T base E o).Runs F m v' m1 ∧ v = unk v' ∧ ∀ q q1, (opF T base E o).Runs F q v' q1 → Go1 T base F ops o E v q q1) ∨ (m1 = m ∧ ∀ q, Go1 T base F ops o E v q q) := by
  unfold Go1 at h ⊢
  cases hg : o.guard with
  | none =>
    rw [hg] at h
    obtain ⟨v', h1, h2⟩ := h
    exact Or.inl ⟨v', h1, h2, fun q q1 hq => ⟨v', hq, h2⟩⟩
  | some p =>
    obtain ⟨j, w⟩ := p
    rw [hg] at h
    rcases h with ⟨t, ht, ⟨b, hb, ⟨hw, v', h1, h2⟩ | ⟨hw, h1, h2⟩⟩ | ⟨hb, h1, h2⟩⟩
    · exact Or.inl ⟨v', h1, h2, fun q q1 hq => ⟨t, ht, Or.inl ⟨b, hb, Or.inl ⟨hw, v', hq, h2⟩⟩⟩⟩
    · exact Or.inr ⟨h2, fun q => ⟨t, ht, Or.inl ⟨b, hb, Or.inr ⟨hw, h1, rfl⟩⟩⟩⟩
    · exact Or.inr ⟨h2, fun q => ⟨t, ht, Or.inr ⟨hb, h1, rfl⟩⟩⟩
theorem Sim.boxes {w0 : Start} {A : Nat → Prop} {m : Mem} {κ : Cx} (hs : Sim w0 A m κ) {s g : Nat} {cs : List AV} (hi : m.at_ s g = some (.box cs)) : ∀ p ∈ cs.flatMap refs1, p.2 ≤ m.gen p.1 := by
  obtain ⟨b, T, vs, hb, hh, hn, hr⟩ := hs.ok s g _ hi
  intro p hp
  obtain ⟨c, hc, hp⟩ := List.mem_flatMap.1 hp
  obtain ⟨j, hj, rfl⟩ := List.getElem_of_mem hc
  have := refs1_rel (hr j cs[j] _ (List.getElem?_eq_getElem hj) (Array.getElem?_eq_getElem (by omega))).1 p hp
  rw [hs.gn] at this
  exact this
/-- what an operation names was there before, and so was what the boxes of then name -/
structure OldAt (G : Nat → Nat) (E : Nat → Option AV) (y : Oper) (m : Mem) : Prop where
  wf : MemWF m
  refs : ∀ s g, opRefs E y s g → g ≤ G s
  gen : ∀ s, G s ≤ m.gen s
  box : ∀ s g cs, g ≤ G s → m.at_ s g = some (.box cs) → ∀ p ∈ cs.flatMap refs1, p.2 ≤ G p.1
/-- two operations that do not touch each other -/
def Compat (T : Nat → TI) (x y : Oper) : Prop := opKind T x.op = 0 ∨ opKind T y.op = 0 ∨ (opKind T x.op = 1 ∧ opKind T y.op = 1 ∧ ∃ d e : Nat, x.dst = some d ∧ y.dst = some e ∧ d < 65536 ∧ e < 65536 ∧ d ≠ e)
theorem swap_mem {x y : Oper} {E : Nat → Option AV} {v u : AV} {m m1 m2 : Mem} (hc : Compat T x y) {G : Nat → Nat} (hold : opKind T y.op = 1 → OldAt G E y m) (h1 : Go1 T base F ops x E v m m1) (h2 : Go1 T base F ops y E u m1 m2) :
    ∃ m1', Go1 T base F ops y E u m m1' ∧ Go1 T base F ops x E v m1' m2 := by
  rcases h1.cases with ⟨v', r1, _, k1⟩ | ⟨rfl, k1⟩
  · rcases h2.cases with ⟨u', r2, _, k2⟩ | ⟨rfl, k2⟩
    · rcases hc with hc | hc | ⟨hx, hy, d, e, hd, he, hd1, he1, hne⟩
      · obtain ⟨rfl, p1⟩ := pure_runs r1 (opF_fits0 hc)
        exact ⟨m2, h2, k1 _ _ (p1 m2)⟩
      · obtain ⟨rfl, p2⟩ := pure_runs r2 (opF_fits0 hc)
        exact ⟨m, k2 _ _ (p2 m), h1⟩
      · have ho := hold hy
        obtain ⟨m1', q1, q2⟩ := fits_swap (opF_fits1 hx hd fun _ _ _ => trivial) (opF_fits1 hy he ho.refs) (fun s => by
          rintro ⟨k, hk⟩ ⟨k', hk'⟩
          exact hne (by omega)) ho.wf ho.gen ho.box r1 r2
        exact ⟨m1', k2 _ _ q1, k1 _ _ q2⟩
    · exact ⟨m, k2 m, h1⟩
  · exact ⟨m2, h2, k1 m2⟩
theorem swap_step {x y : Oper} {s s1 s2 : ASt} (ha : x.apart ops y = true) (hc : Compat T x y) {G : Nat → Nat} (hold : opKind T y.op = 1 → OldAt G s.env y s.m) (h1 : StepN T base nt F ops x s s1) (h2 : StepN T base nt F ops y s1 s2) :
    ∃ s1', StepN T base nt F ops y s s1' ∧ StepN T base nt F ops x s1' s2 := by
  obtain ⟨a1, a2, a3⟩ := Oper.apart_spec ha
  obtain ⟨d1, v, g1, e1⟩ := h1
  obtain ⟨d2, u, g2, e2⟩ := h2
  rw [e1] at g2
  have g2 := (Go1.put a1).1 g2
  obtain ⟨m1', q1, q2⟩ := swap_mem hc hold g1 g2
  refine ⟨⟨putE s.env y.dst u, m1'⟩, ⟨d2, u, q1, rfl⟩, ⟨d1, v, (Go1.put a3).2 q2, ?_⟩⟩
  rw [e2, e1]
  funext t
  cases hx : x.dst with
  | none => rfl
  | some d =>
    cases hy : y.dst with
    | none => rfl
    | some e =>
      have hne : d ≠ e := fun h => a2 d hx (by rw [hy, h])
      simp only [putE, updT, beq_dec]
      by_cases h1 : t = d
      · subst h1; simp [hne]
      · simp [h1]
theorem keep_old {x y : Oper} {s s1 : ASt} (ha : x.apart ops y = true) (hc : Compat T x y) {G : Nat → Nat} (hold : opKind T y.op = 1 → OldAt G s.env y s.m) (h1 : StepN T base nt F ops x s s1) :
    opKind T y.op = 1 → OldAt G s1.env y s1.m := by
  intro hy
  have ho := hold hy
  obtain ⟨a1, a2, a3⟩ := Oper.apart_spec ha
  obtain ⟨d1, v, g1, e1⟩ := h1
  have hrefs : ∀ a g, opRefs s1.env y a g → opRefs s.env y a g := by
    rintro a g ⟨x', hx', v', hv', hp⟩
    rw [e1, rawOf_put fun t ht e => a1 t ht (looks_operand hx' e)] at hv'
    exact ⟨x', hx', v', hv', hp⟩
  rcases g1.cases with ⟨v', r1, _, _⟩ | ⟨hm, _⟩
  · rcases hc with hc | hc | ⟨hx, _, d, e, hd, _⟩
    · obtain ⟨hm, _⟩ := pure_runs r1 (opF_fits0 hc)
      rw [hm]
      exact ⟨ho.wf, fun a g h => ho.refs a g (hrefs a g h), ho.gen, ho.box⟩
    · rw [hc] at hy; cases hy
    · obtain ⟨es, f1, _, f3, _⟩ := Step.Fits.runs r1 (opF_fits1 hx hd fun _ _ _ => trivial) (Or.inl fun _ _ => trivial) ho.wf
      refine ⟨f3, fun a g h => ho.refs a g (hrefs a g h), fun a => Nat.le_trans (ho.gen a) (by rw [f1]; exact apL_gen es s.m a), fun a g cs hg hi => ho.box a g cs hg ?_⟩
      rw [f1] at hi
      exact frzI_box (by rw [← apL_at es s.m a g (Nat.le_trans hg (ho.gen a)), hi])
  · rw [hm]
    exact ⟨ho.wf, fun a g h => ho.refs a g (hrefs a g h), ho.gen, ho.box⟩
/-- an operation comes first -/
theorem chain_front {G : Nat → Nat} {y : Oper} {post : List Oper} {s' : ASt} : ∀ (pre : List Oper) (s : ASt), (∀ x ∈ pre, x.apart ops y = true ∧ Compat T x y) → (opKind T y.op = 1 → OldAt G s.env y s.m) → ChainN T base nt F ops (pre ++ y :: post) s s' →
    ∃ s1, StepN T base nt F ops y s s1 ∧ ChainN T base nt F ops (pre ++ post) s1 s'
  | [], s, _, _, h => h
  | x :: pre, s, hp, ho, h => by
    obtain ⟨sa, h1, h2⟩ := h
    obtain ⟨hx1, hx2⟩ := hp x (by simp)
    obtain ⟨sb, h3, h4⟩ := chain_front pre sa (fun z hz => hp z (by simp [hz])) (keep_old hx1 hx2 ho h1) h2
    obtain ⟨s1, h5, h6⟩ := swap_step hx1 hx2 ho h1 h3
    exact ⟨s1, h5, sb, h6, h4⟩
/-- one operation in the model -/
theorem stepN_sim (hT : TOk P T) (heq : ∀ t, (T t).eqs = true → (T t).known = true) (hF : ∀ f args r, F f args r → FnX w0.dr P f args r) {o : Oper} {N : Act → World → Prop} {Q : Exit → Act → World → Prop} {st st1 : ASt} {κ : Cx} {a : Act}
    (hs : Sim w0 A st.m κ) (he : EnvOk κ st.env a.tmps) (hn : a.tmps.size = nt) (hd : a.defers = []) (h : StepN T base nt F ops o st st1)
    (hN : ∀ κ' a', Sim w0 A st1.m κ' → EnvOk κ' st1.env a'.tmps → a'.tmps.size = nt → a'.defers = [] → N a' κ'.w) :
    if Region.wanted o (yielded ops a.tmps) then o.wp P a κ.w N Q else N (a.put o.dst undef) κ.w := by
  obtain ⟨hdo, v, hg1, he1⟩ := h
  have exec : ∀ v', (opF T base st.env o).Runs F st.m v' st1.m → v = unk v' → o.wp P a κ.w N Q := by
    intro v' hr hv
    refine Oper.wp_mono ?_ (op_sim hT heq hF hs he hr)
    rintro a' w' ⟨κ', rfl, h1, h2, x, rfl, hx⟩
    refine hN κ' _ h1 ?_ (by rw [put_size, hn]) (by rw [put_defers, hd])
    rw [he1, hv]
    exact (he.mono h2).put hn hdo hx.unk
  have skip : v = .tup [] → st1.m = st.m → N (a.put o.dst undef) κ.w := by
    intro hv hm
    refine hN κ _ (by rw [hm]; exact hs) ?_ (by rw [put_size, hn]) (by rw [put_defers, hd])
    rw [he1, hv]
    exact he.put hn hdo (undef_rel κ)
  unfold Go1 at hg1
  cases hg : o.guard with
  | none =>
    rw [hg] at hg1
    obtain ⟨v', h1, h2⟩ := hg1
    have : Region.wanted o (yielded ops a.tmps) = true := by simp [Region.wanted, hg]
    rw [if_pos this]
    exact exec v' h1 h2
  | some p =>
    obtain ⟨j, want⟩ := p
    rw [hg] at hg1
    obtain ⟨t, hj, hg1⟩ := hg1
    have hy : ∀ x, a.tmps[t]? = some x → yielded ops a.tmps j = match x with | .bool b => some b | _ => none := by
      intro x hx
      unfold yielded
      have hb : (ops[j]?).bind (·.dst) = some t := by
        unfold gdst at hj
        rw [← Array.getElem?_toList]
        cases hq : ops.toList[j]? with
        | none => rw [hq] at hj; cases hj
        | some q => rw [hq] at hj; exact hj
      rw [hb]
      simp only [Option.bind_some, hx]
      cases x <;> rfl
    rcases hg1 with ⟨b, hb, ⟨rfl, v', h1, h2⟩ | ⟨hw, h1, h2⟩⟩ | ⟨hb, h1, h2⟩
    · obtain ⟨x, hx, hr⟩ := he t _ hb
      have := hr.val
      subst this
      have hy := hy _ hx
      have : Region.wanted o (yielded ops a.tmps) = true := by simp [Region.wanted, hg, hy]
      rw [if_pos this]
      exact exec v' h1 h2
    · obtain ⟨x, hx, hr⟩ := he t _ hb
      have := hr.val
      subst this
      have hy := hy _ hx
      have : Region.wanted o (yielded ops a.tmps) = false := by simp [Region.wanted, hg, hy, hw]
      rw [this]
      exact skip h1 h2
    · obtain ⟨x, hx, hr⟩ := he t _ hb
      obtain ⟨vs, rfl, _⟩ := hr.tup_inv
      have hy := hy _ hx
      have : Region.wanted o (yielded ops a.tmps) = false := by simp [Region.wanted, hg, hy]
      rw [this]
      exact skip h1 h2
end
end Go.Proofs.Ytlgadmholjaljaa

/-
  Evaluation of Go code on plain data: the contract of a function. Over any program.
-/
import Derived.Test.YtlgadmholjaljaaEvP
namespace Go.Proofs.Ytlgadmholjaljaa
open Go.RowKit
/-- while results are taken: what has been used of memory, and the blocks that are handed over -/
structure Taken (w0 : Start) (A : Nat → Prop) (m m1 : Mem) (κ κ1 : Cx) (used : List (Nat × Nat)) (bs : List (Option Nat)) : Prop where
  sim : Sim w0 A m1 κ1
  le : κ.Le κ1
  φ : κ1.φ = κ.φ
  w : κ1.w = κ.w
  same : ∀ s g, (s, g) ∉ used → m1.at_ s g = m.at_ s g
  own : ∀ b, some b ∈ bs → ∃ s g i, (s, g) ∈ used ∧ m1.at_ s g = some i ∧ i.rw_ = true ∧ (κ1.φ s g).blk = some b ∧ ∃ sz es, i = .rows sz es false
  keep : ∀ s g, (∀ sz es ro, m.at_ s g ≠ some (.rows sz es ro)) → m1.at_ s g = m.at_ s g
  apart : Apart bs
theorem unused_mem {used : List (Nat × Nat)} {s g : Nat} (h : unused used s g = true) : (s, g) ∉ used := by
  intro hm
  unfold unused at h
  have := List.all_eq_true.1 h _ hm
  simp at this
theorem apart_snoc {bs : List (Option Nat)} {b : Option Nat} (h : Apart bs) (hn : ∀ c, b = some c → some c ∉ bs) : Apart (bs ++ [b]) := by
  unfold Apart at h ⊢
  rw [List.filterMap_append]
  cases b with
  | none => simpa using h
  | some c =>
    simp only [List.filterMap_cons, id, List.filterMap_nil]
    rw [List.nodup_append]
    refine ⟨h, by simp, ?_⟩
    intro x hx y hy e
    simp at hy
    subst hy e
    obtain ⟨z, hz, hz'⟩ := List.mem_filterMap.1 hx
    simp at hz'
    subst hz'
    exact hn _ rfl hz
section
variable {w0 : Start} {A : Nat → Prop} {m : Mem} {κ : Cx}
theorem Taken.none_ {m1 : Mem} {κ1 : Cx} {used : List (Nat × Nat)} {bs : List (Option Nat)} (h : Taken w0 A m m1 κ κ1 used bs) : Taken w0 A m m1 κ κ1 used (bs ++ [none]) :=
  ⟨h.sim, h.le, h.φ, h.w, h.same, fun b hb => h.own b (by simpa using hb), h.keep, apart_snoc h.apart fun c hc => by cases hc⟩
theorem Taken.frz {m1 : Mem} {κ1 : Cx} {used : List (Nat × Nat)} {bs : List (Option Nat)} (h : Taken w0 A m m1 κ κ1 used bs) {s g sz : Nat} {es : List (List D)} {ro : Bool} (hi : m.at_ s g = some (.rows sz es ro)) (hu : (s, g) ∉ used) :
    ∃ m2 κ2, Taken w0 A m m2 κ κ2 ((s, g) :: used) (bs ++ [none]) ∧ κ1.Le κ2 ∧ κ2.w = κ1.w ∧ m1.at_ s g = some (.rows sz es ro) ∧ ∀ b, (κ.φ s g).blk = some b → κ2.S b := by
  have hi1 : m1.at_ s g = some (.rows sz es ro) := by rw [h.same s g hu]; exact hi
  obtain ⟨q1, q2⟩ := h.sim.frz hi1
  refine ⟨_, _, ⟨q1, h.le.trans q2, h.φ, h.w, fun s' g' hn => ?_, fun b hb => ?_, fun s' g' hn => ?_, apart_snoc h.apart fun c hc => by cases hc⟩, q2, rfl, hi1, fun b hb => Or.inr (by rw [h.φ]; exact hb)⟩
  · rw [setAt, if_neg (fun e => hn (by rw [e.1, e.2]; simp))]
    exact h.same s' g' fun hm => hn (by simp [hm])
  · obtain ⟨s', g', i, h1, h2, h3, h4⟩ := h.own b (by simpa using hb)
    refine ⟨s', g', i, by simp [h1], ?_, h3, h4⟩
    rw [setAt, if_neg]
    · exact h2
    · rintro ⟨rfl, rfl⟩
      exact hu h1
  · rw [setAt, if_neg]
    · exact h.keep s' g' hn
    · rintro ⟨rfl, rfl⟩
      exact hn _ _ _ hi
theorem ret1_sound {m1 : Mem} {κ1 : Cx} {used : List (Nat × Nat)} {bs : List (Option Nat)} (h : Taken w0 A m m1 κ κ1 used bs) {v r : AV} {x : Value} (hx : Rel κ v x) {K : List (Nat × Nat) → Prop} (hr : ret1 m used v r K) :
    ∃ m2 κ2 used' b, Taken w0 A m m2 κ κ2 used' (bs ++ [b]) ∧ κ1.Le κ2 ∧ κ2.w = κ1.w ∧ Res1 κ2.S κ2.w r x b ∧ K used' := by
  unfold ret1 at hr
  have hx1 := hx.mono h.le
  cases r with
  | ow sz es =>
    cases v with
    | nl =>
      obtain ⟨rfl, hk⟩ := hr
      cases hx with
      | nl A' => exact ⟨m1, κ1, used, none, h.none_, .refl _, rfl, ⟨by simp, Or.inl ⟨rfl, rfl, A', rfl⟩⟩, hk⟩
    | row s g n =>
      dsimp only at hr
      split at hr
      · rename_i sz' es' hi
        cases hu : unused used s g
        · rw [hu] at hr; exact hr.elim
        · rw [hu] at hr
          obtain ⟨rfl, rfl, hk⟩ := hr
          have hu := unused_mem hu
          have hi1 : m1.at_ s g = some (.rows sz' es' false) := by rw [h.same s g hu]; exact hi
          obtain ⟨e1, e2, e3⟩ := h.sim.ok s g _ hi1
          have tk : ∀ b, (κ1.φ s g).blk = b → Taken w0 A m m1 κ κ1 ((s, g) :: used) (bs ++ [b]) := by
            intro b hb
            refine ⟨h.sim, h.le, h.φ, h.w, fun s' g' hn => h.same s' g' fun hm => hn (by simp [hm]), fun c hc => ?_, h.keep, apart_snoc h.apart fun c hc hm => ?_⟩
            · rcases List.mem_append.1 hc with hc | hc
              · obtain ⟨s', g', i, h1, h2⟩ := h.own c hc
                exact ⟨s', g', i, by simp [h1], h2⟩
              · simp at hc
                exact ⟨s, g, _, by simp, hi1, rfl, by rw [hb, hc], _, _, rfl⟩
            · obtain ⟨s', g', i, h1, h2, h3, h4, _⟩ := h.own c hm
              have := h.sim.sep s g _ s' g' i c hi1 h2 (by rw [hb, hc]) h4 rfl
              exact hu (by rw [this.1, this.2]; exact h1)
          rcases e3 with ⟨h4, rfl⟩ | ⟨b, T, cur, hb, hz, hh, hl, hm, hc, hra⟩
          · refine ⟨m1, κ1, _, none, tk none h4, .refl _, rfl, ⟨e2, Or.inl ⟨rfl, rfl, ?_⟩⟩, hk⟩
            cases hx1 with
            | row0 A' hg hb hz => exact ⟨A', rfl⟩
            | row hg hb => rw [h4] at hb; cases hb
          · refine ⟨m1, κ1, _, some b, tk (some b) hb, .refl _, rfl, ⟨e2, Or.inr ?_⟩, hk⟩
            cases hx1 with
            | row0 A' hg hb' hz => rw [hb'] at hb; cases hb
            | row hg hb' =>
              rw [hb'] at hb
              injection hb with hb
              subst hb
              exact ⟨_, T, cur, _, rfl, by rw [e1], hh, by rw [e1]; exact hl, hm, hc, hra⟩
      · exact hr.elim
    | _ => exact hr.elim
  | d y =>
    cases v with
    | d y' =>
      obtain ⟨rfl, hk⟩ := hr
      cases hx1 with
      | d hd => exact ⟨m1, κ1, used, none, h.none_, .refl _, rfl, ⟨hd, rfl⟩, hk⟩
    | nl =>
      obtain ⟨rfl, hk⟩ := hr
      cases hx with
      | nl A' => exact ⟨m1, κ1, used, none, h.none_, .refl _, rfl, ⟨.fz0 _ _ (fun _ => rfl), rfl⟩, hk⟩
    | row s g n =>
      dsimp only at hr
      split at hr
      · rename_i sz' es' ro hi
        cases hu : unused used s g
        · rw [hu] at hr; exact hr.elim
        · rw [hu] at hr
          obtain ⟨rfl, hk⟩ := hr
          obtain ⟨m2, κ2, t1, t2, t3, t4, t5⟩ := h.frz hi (unused_mem hu)
          refine ⟨m2, κ2, _, none, t1, t2, t3, ⟨?_, rfl⟩, hk⟩
          have := (row_read h.sim t4 hx1 t2.S (fun b hb => t5 b (by rw [← h.φ]; exact hb))).1
          rw [t3]
          exact this
      · exact hr.elim
    | sub s g o n =>
      dsimp only at hr
      split at hr
      · rename_i sz' es' ro hi
        cases hu : unused used s g
        · rw [hu] at hr; exact hr.elim
        · rw [hu] at hr
          obtain ⟨rfl, hk⟩ := hr
          obtain ⟨m2, κ2, t1, t2, t3, t4, t5⟩ := h.frz hi (unused_mem hu)
          refine ⟨m2, κ2, _, none, t1, t2, t3, ⟨?_, rfl⟩, hk⟩
          have := (sub_read h.sim t4 hx1 t2.S (fun b hb => t5 b (by rw [← h.φ]; exact hb))).1
          rw [t3]
          exact this
      · exact hr.elim
    | _ => exact hr.elim
  | _ => exact hr.elim
theorem retL_sound : ∀ (vs rs : List AV) (xs : List Value) (m1 : Mem) (κ1 : Cx) (used : List (Nat × Nat)) (bs : List (Option Nat)) (K : List (Nat × Nat) → Prop), Taken w0 A m m1 κ κ1 used bs → RelL κ vs xs → retL m used vs rs K →
    ∃ m2 κ2 used' b2, Taken w0 A m m2 κ κ2 used' (bs ++ b2) ∧ κ1.Le κ2 ∧ κ2.w = κ1.w ∧ ResL κ2.S κ2.w rs xs b2 ∧ K used'
  | [], [], xs, m1, κ1, used, bs, K, h, hx, hr => by
    refine ⟨m1, κ1, used, [], by simpa using h, .refl _, rfl, ⟨hx.nil_inv, rfl⟩, hr⟩
  | [], r :: rs, xs, m1, κ1, used, bs, K, h, hx, hr => hr.elim
  | v :: vs, [], xs, m1, κ1, used, bs, K, h, hx, hr => hr.elim
  | v :: vs, r :: rs, xs, m1, κ1, used, bs, K, h, hx, hr => by
    obtain ⟨x, xs', rfl, h1, h2⟩ := hx.cons_inv
    obtain ⟨m2, κ2, used2, b, t1, t2, t3, t4, t5⟩ := ret1_sound h h1 hr
    obtain ⟨m3, κ3, used3, b3, q1, q2, q3, q4, q5⟩ := retL_sound vs rs xs' m2 κ2 used2 (bs ++ [b]) K t1 h2 t5
    refine ⟨m3, κ3, used3, b :: b3, by simpa using q1, t2.trans q2, q3.trans t3, ⟨x, xs', b, b3, rfl, rfl, ?_, q4⟩, q5⟩
    rw [q3]
    exact t4.mono q2.S
theorem retC_sound {m1 : Mem} {κ1 : Cx} {used : List (Nat × Nat)} {bs : List (Option Nat)} (h : Taken w0 A m m1 κ κ1 used bs) {v r : AV} {x : Value} (hx : Rel κ v x) {K : List (Nat × Nat) → Prop} (hr : retC m used v r K) :
    ∃ m2 κ2 used' b2, Taken w0 A m m2 κ κ2 used' (bs ++ b2) ∧ κ1.Le κ2 ∧ κ2.w = κ1.w ∧ ResC κ2.S κ2.w r x b2 ∧ K used' := by
  have one : ret1 m used v r K → (∀ rs, r ≠ .agg rs) → ∃ m2 κ2 used' b2, Taken w0 A m m2 κ κ2 used' (bs ++ b2) ∧ κ1.Le κ2 ∧ κ2.w = κ1.w ∧ ResC κ2.S κ2.w r x b2 ∧ K used' := by
    intro hr hne
    obtain ⟨m2, κ2, used2, b, t1, t2, t3, t4, t5⟩ := ret1_sound h hx hr
    refine ⟨m2, κ2, used2, [b], t1, t2, t3, ?_, t5⟩
    cases r <;> first | exact ⟨b, rfl, t4⟩ | exact absurd rfl (hne _)
  by_cases hc : ∃ rs, r = .agg rs
  · obtain ⟨rs, rfl⟩ := hc
    cases v with
    | agg vs =>
      obtain ⟨xs, rfl, hxs⟩ := hx.agg_inv
      obtain ⟨m2, κ2, used2, b2, t1, t2, t3, t4, t5⟩ := retL_sound vs rs xs.toList m1 κ1 used bs K h hxs hr
      exact ⟨m2, κ2, used2, b2, t1, t2, t3, ⟨xs, rfl, t4⟩, t5⟩
    | _ => exact hr.elim
  · refine one ?_ fun rs e => hc ⟨rs, e⟩
    cases r <;> first | exact hr | exact absurd ⟨_, rfl⟩ hc
theorem retT_sound : ∀ (vs rs : List AV) (xs : List Value) (m1 : Mem) (κ1 : Cx) (used : List (Nat × Nat)) (bs : List (Option Nat)) (K : List (Nat × Nat) → Prop), Taken w0 A m m1 κ κ1 used bs → RelL κ vs xs → retT m used vs rs K →
    ∃ m2 κ2 used' b2, Taken w0 A m m2 κ κ2 used' (bs ++ b2) ∧ κ1.Le κ2 ∧ κ2.w = κ1.w ∧ ResT κ2.S κ2.w rs xs b2 ∧ K used'
  | [], [], xs, m1, κ1, used, bs, K, h, hx, hr => by
    refine ⟨m1, κ1, used, [], by simpa using h, .refl _, rfl, ⟨hx.nil_inv, rfl⟩, hr⟩
  | [], r :: rs, xs, m1, κ1, used, bs, K, h, hx, hr => hr.elim
  | v :: vs, [], xs, m1, κ1, used, bs, K, h, hx, hr => hr.elim
  | v :: vs, r :: rs, xs, m1, κ1, used, bs, K, h, hx, hr => by
    obtain ⟨x, xs', rfl, h1, h2⟩ := hx.cons_inv
    obtain ⟨m2, κ2, used2, b, t1, t2, t3, t4, t5⟩ := retC_sound h h1 hr
    obtain ⟨m3, κ3, used3, b3, q1, q2, q3, q4, q5⟩ := retT_sound vs rs xs' m2 κ2 used2 (bs ++ b) K t1 h2 t5
    refine ⟨m3, κ3, used3, b ++ b3, by simpa using q1, t2.trans q2, q3.trans t3, ⟨x, xs', b, b3, rfl, rfl, ?_, q4⟩, q5⟩
    rw [q3]
    exact t4.mono q2.S
end
def resR (tmps : Array Value) : ResultVar → Sem Value
  | .tmp t => pure (tmps.getD t undef)
  | .cell a t => do loadVar t (← asAddr (tmps.getD a undef))
section
variable {P : Program} {T : Nat → TI} {w0 : Start} {A : Nat → Prop} {κ : Cx}
theorem valR_sound (hT : TOk P T) {st : ASt} {a : Act} (hs : Sim w0 A st.m κ) (he : EnvOk κ st.env a.tmps) {x : ResultVar} {K : AV → Prop} (h : valR T st x K) :
    ∃ v y, (resR a.tmps x).run P κ.w = .ok y κ.w ∧ Rel κ v y ∧ K v := by
  cases x with
  | tmp t =>
    simp only [valR] at h
    split at h
    · rename_i v hv
      exact ⟨_, _, rfl, (raw_rel (x := .tmp t) he hv).unk, h⟩
    · exact h.elim
  | cell t ty =>
    simp only [valR] at h
    split at h
    · rename_i s g o hv
      split at h
      · rename_i cs hi
        split at h
        · rename_i v hl
          have hr := raw_rel (x := .tmp t) he hv
          have hev : a.eval (.tmp t) = a.tmps.getD t undef := rfl
          rw [hev] at hr
          generalize hy : a.tmps.getD t undef = y at hr
          cases hr with
          | lp hg hb =>
            obtain ⟨b', tt, vs, hb', hh, hn, hrel⟩ := hs.ok s g _ hi
            rw [hb] at hb'
            injection hb' with hb'
            subst hb'
            have hL : RelL κ cs vs.toList := ⟨by simpa using hn, fun j c u hc hu => (hrel j c u hc (by simpa using hu)).1⟩
            obtain ⟨z, hz, hrz, _⟩ := ldA_runs (F := fun _ _ _ => False) (m := st.m) (m' := st.m) (v := v) hT (hL.drop o) (range_block hh o) (by rw [hl]; exact .ret)
            refine ⟨v, z, ?_, hrz, h⟩
            have : (Instr.loadAt ty (.pointer (some ⟨_, o, none⟩))).run P κ.w = .ok z κ.w := hz
            simp only [Instr.loadAt, Instr.sureAddr, Sem.run_bind, Sem.run_pure, Result.andThen_ok] at this
            simp only [resR, hy, asAddr, Sem.run_bind, Sem.run_pure, Result.andThen_ok, this]
        · exact h.elim
      · exact h.elim
    · exact h.elim
theorem valL_sound (hT : TOk P T) {st : ASt} {a : Act} (hs : Sim w0 A st.m κ) (he : EnvOk κ st.env a.tmps) : ∀ (xs : List ResultVar) (K : List AV → Prop), valL T st xs K →
    ∃ vs ys, (xs.mapM (resR a.tmps)).run P κ.w = .ok ys κ.w ∧ RelL κ vs ys ∧ K vs
  | [], K, h => ⟨[], [], rfl, .nil κ, h⟩
  | x :: xs, K, h => by
    obtain ⟨v, y, h1, h2, h3⟩ := valR_sound hT hs he h
    obtain ⟨vs, ys, q1, q2, q3⟩ := valL_sound hT hs he xs _ h3
    refine ⟨v :: vs, y :: ys, ?_, .cons h2 q2, q3⟩
    rw [List.mapM_cons]
    simp only [Sem.run_bind, h1, Result.andThen_ok, q1, Sem.run_pure]
/-- THE CONTRACT OF A FUNCTION: its body, evaluated -/
theorem Fn.of_AW {dr : Prop} {js : List Nat} {F : FuncId → List AV → AV → Prop} {base : Nat} (hm : P.follows .mixedOrders = true) (hT : TOk P T) (heq : ∀ t, (T t).eqs = true → (T t).known = true) (hF : ∀ f args r, F f args r → FnX dr P f args r) {f : FuncId} {fn : Func} {c : Code} {nt : Nat} {rs : List ResultVar} {args : List AV} {r : AV}
    (hcall : ∀ (args : Array Value) (w : World), (callFunc f args).run P w = .ok (.enter f args) w) (hf : P.funcs[f]? = some fn) (hb : fn.body = some c) (hnt : fn.ntmps = nt) (hrs : fn.results.toList = rs) (hargs : args.length ≤ nt)
    (h : AW T base nt F js c (st0 args) (EndP T rs r)) : Fn dr P f args r := by
  refine ⟨hcall, fun w A vals hI hA hr => ?_⟩
  have hlen : vals.size = args.length := by simpa using hr.1
  refine calls_of_wp hf hb (wp_mono (AW_sound (w0 := ⟨w, fun _ => False, dr, hI, fun _ h => h.elim, 0, fun _ => ⟨none, 0, 0, 0⟩⟩) (A := A) hm hT heq hF c _ _ w ⟨st0 args, cx0 A w, rfl, ⟨BelowX.refl _ _, rfl, fun s g i hi => (by cases hi), fun s g i hi => (by cases hi), fun s g i b hi => (by cases hi), fun s g i b hi => (by cases hi), fun s g i b hi => (by cases hi), fun s g i s' g' i' b hi => (by cases hi), fun b hb => ⟨hA b hb, Or.inl hb⟩, fun b hb => hb, fun i hi => absurd hi (Nat.not_lt_zero i)⟩, ?_, ?_, rfl, h⟩) ?_)
  · intro t v ht
    have hn : ∀ (l : List AV) (t : Nat), nthA l t = l[t]? := by
      intro l
      induction l with
      | nil => intro t; cases t <;> rfl
      | cons x l ih => intro t; cases t with
        | zero => rfl
        | succ t => simp [nthA, ih]
    have ht : args[t]? = some v := by rw [← hn]; exact ht
    obtain ⟨x, hx, hrx⟩ := hr.get ht
    have hlt : t < vals.size := by rw [hlen]; exact (List.getElem?_eq_some_iff.1 ht).1
    refine ⟨x, ?_, hrx⟩
    rw [Array.getElem?_append_left hlt]
    simpa using hx
  · simp [hnt]
    omega
  · have fin : ∀ a' w', Holds ⟨w, fun _ => False, dr, hI, fun _ h => h.elim, 0, fun _ => ⟨none, 0, 0, 0⟩⟩ A nt (RetP T rs r) a' w' → a'.defers = [] ∧ ∃ v, (results fn a'.tmps).run P w' = .ok v w' ∧ ∃ v' S' bs, Ending.returned v = Ending.returned v' ∧ BelowD dr w.heap.size w w' ∧ (∀ b, S' b → b < w'.heap.size ∧ (A b ∨ w.heap.size ≤ b)) ∧ Res S' w' r v' bs ∧ Apart bs ∧ ∀ b, some b ∈ bs → w.heap.size ≤ b ∧ b < w'.heap.size ∧ ¬ S' b := by
      rintro a' w' ⟨st, κ, rfl, hs, he, hn, hd, hret⟩
      refine ⟨hd, ?_⟩
      obtain ⟨vs, ys, h1, h2, h3⟩ := valL_sound (P := P) hT hs he rs _ hret
      have tk0 : Taken ⟨w, fun _ => False, dr, hI, fun _ h => h.elim, 0, fun _ => ⟨none, 0, 0, 0⟩⟩ A st.m st.m κ κ [] [] := ⟨hs, .refl κ, rfl, rfl, fun _ _ _ => rfl, fun b hb => by simp at hb, fun _ _ _ => rfl, by simp [Apart]⟩
      have done : ∀ (m2 : Mem) (κ2 : Cx) (used : List (Nat × Nat)) (b2 : List (Option Nat)) (y : Value), Taken ⟨w, fun _ => False, dr, hI, fun _ h => h.elim, 0, fun _ => ⟨none, 0, 0, 0⟩⟩ A st.m m2 κ κ2 used b2 → Res κ2.S κ2.w r y b2 →
          ∃ v' S' bs, Ending.returned y = Ending.returned v' ∧ BelowD dr w.heap.size w κ.w ∧ (∀ b, S' b → b < κ.w.heap.size ∧ (A b ∨ w.heap.size ≤ b)) ∧ Res S' κ.w r v' bs ∧ Apart bs ∧ ∀ b, some b ∈ bs → w.heap.size ≤ b ∧ b < κ.w.heap.size ∧ ¬ S' b := by
        intro m2 κ2 used b2 y t1 t2
        refine ⟨y, κ2.S, b2, rfl, hs.below.toD, fun b hb => ?_, by rw [← t1.w]; exact t2, t1.apart, fun b hb => ?_⟩
        · rw [← t1.w]
          obtain ⟨k1, k2⟩ := t1.sim.st b hb
          exact ⟨k1, k2.imp id fun h => h.elim id fun h => h.elim⟩
        obtain ⟨s, g, i, q1, q2, q3, q4, _⟩ := t1.own b hb
        have := t1.sim.own s g i b q2 q4
        exact ⟨this.1.elim id fun h => h.elim, by rw [← t1.w]; exact this.2, t1.sim.notS s g i b q2 q4 q3⟩
      have hrun : (results fn a'.tmps).run P κ.w = .ok (if hsz : ys.toArray.size = 1 then ys.toArray[0] else .tuple ys.toArray) κ.w := by
        have e : results fn a'.tmps = (do let vs ← fn.results.mapM (resR a'.tmps); pure (if h : vs.size = 1 then vs[0] else .tuple vs)) := rfl
        rw [e, Array.mapM_eq_mapM_toList, hrs]
        simp only [Sem.run_bind, Sem.run_map, h1, Result.andThen_ok, Sem.run_pure]
      have tuple : ys.length ≠ 1 → (∃ ps, r = .tup ps ∧ retT st.m [] vs ps fun _ => True) → ∃ v, (results fn a'.tmps).run P κ.w = .ok v κ.w ∧ ∃ v' S' bs, Ending.returned v = Ending.returned v' ∧ BelowD dr w.heap.size w κ.w ∧ (∀ b, S' b → b < κ.w.heap.size ∧ (A b ∨ w.heap.size ≤ b)) ∧ Res S' κ.w r v' bs ∧ Apart bs ∧ ∀ b, some b ∈ bs → w.heap.size ≤ b ∧ b < κ.w.heap.size ∧ ¬ S' b := by
        rintro hne ⟨ps, rfl, hr2⟩
        obtain ⟨m2, κ2, used, b2, t1, t2, t3, t4, _⟩ := retT_sound vs ps ys st.m κ [] [] _ tk0 h2 hr2
        rw [List.nil_append] at t1
        have hsz : ¬ ys.toArray.size = 1 := by simpa using hne
        rw [dif_neg hsz] at hrun
        exact ⟨_, hrun, done m2 κ2 used b2 _ t1 ⟨_, rfl, by simpa using t4⟩⟩
      have hl := h2.1
      match vs, h2, h3, hl with
      | [], h2, h3, hl =>
        refine tuple (by simp at hl; simp [hl]) ?_
        cases r with
        | tup ps => exact ⟨ps, rfl, h3⟩
        | _ => exact h3.elim
      | [v], h2, h3, hl =>
        obtain ⟨y, ys', rfl, hy, hys⟩ := h2.cons_inv
        have := hys.nil_inv
        subst this
        have hrun : (results fn a'.tmps).run P κ.w = .ok y κ.w := hrun
        have h3 : retC st.m [] v r fun _ => True := h3
        obtain ⟨m2, κ2, used, b2, t1, t2, t3, t4, _⟩ := retC_sound tk0 hy h3
        rw [List.nil_append] at t1
        refine ⟨y, hrun, done m2 κ2 used b2 y t1 ?_⟩
        cases r with
        | tup ps => exact h3.elim
        | _ => exact t4
      | v :: v' :: vs', h2, h3, hl =>
        refine tuple (by simp at hl; omega) ?_
        cases r with
        | tup ps => exact ⟨ps, rfl, h3⟩
        | _ => exact h3.elim
    intro e a' w' hq
    cases e with
    | normal => exact fin a' w' hq
    | ret => exact fin a' w' hq
    | exit i => obtain ⟨_, _, _, _, _, _, _, h⟩ := hq; exact h.elim
    | goto l => exact hq.elim
    | panic ch => exact hq.elim
    | outgrown => exact hq.elim
end
end Go.Proofs.Ytlgadmholjaljaa

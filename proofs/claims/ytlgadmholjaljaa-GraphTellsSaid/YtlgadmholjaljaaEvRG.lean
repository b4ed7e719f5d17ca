/-
  Evaluation of Go code on plain data: loops over maps, whose order is open. Over any program.
-/
import Derived.Test.YtlgadmholjaljaaEvS
import Derived.Maps.RangeRun
import Derived.Laws.IdiomRangeMap
namespace Go.Proofs.Ytlgadmholjaljaa
open Go.RowKit Go.ChangeMaps Go.MapKept
/-- what a piece of code does, from a state of the evaluation on -/
def AX (P : Program) (dr : Prop) (nt : Nat) (c : Code) (st : ASt) (Q : Ex → ASt → Prop) : Prop :=
  ∀ (w0 : Start) (A : Nat → Prop) (κ : Cx) (a : Act), w0.dr = dr → Sim w0 A st.m κ → EnvOk κ st.env a.tmps → a.tmps.size = nt → a.defers = [] → c.wp P (Lift w0 A nt Q) a κ.w
section
variable {P : Program} {T : Nat → TI} {base nt : Nat} {F : FuncId → List AV → AV → Prop} {js : List Nat} {dr : Prop} {st : ASt} {Q : Ex → ASt → Prop}
theorem AX.aw (hm : P.follows .mixedOrders = true) (hT : TOk P T) (heq : ∀ t, (T t).eqs = true → (T t).known = true) (hF : ∀ f args r, F f args r → FnX dr P f args r) {c : Code} (h : AW T base nt F js c st Q) : AX P dr nt c st Q := by
  rintro w0 A κ a rfl hs he hn hd
  exact AW_sound hm hT heq hF c Q a κ.w ⟨st, κ, rfl, hs, he, hn, hd, h⟩
theorem AX.seq {x y : Code} (h : AX P dr nt x st (seqK (AX P dr nt y) Q)) : AX P dr nt (.seq x y) st Q := by
  intro w0 A κ a hdr hs he hn hd
  refine wp_seq (wp_mono (h w0 A κ a hdr hs he hn hd) ?_)
  intro e a' w' hq
  cases e with
  | normal =>
    obtain ⟨st', κ', rfl, hs', he', hn', hd', h'⟩ := hq
    exact h' w0 A κ' a' hdr hs' he' hn' hd'
  | exit i => exact hq
  | ret => exact hq
  | goto l => exact hq.elim
  | panic ch => exact hq.elim
  | outgrown => exact hq.elim
end
/- a new start in the midst of a run: what exists stays, but for what is the call's own -/
def Start.at {w0 : Start} {A : Nat → Prop} {m : Mem} {κ : Cx} (hs : Sim w0 A m κ) : Start :=
  ⟨κ.w, fun b => ∃ s g i, m.at_ s g = some i ∧ (κ.φ s g).blk = some b, w0.dr, hs.inv, fun _ ⟨_, _, _, hi, hb⟩ => hs.noTab hi hb, w0.n, w0.loc⟩
section
variable {w0 : Start} {A : Nat → Prop} {m : Mem} {κ : Cx}
theorem Sim.rebase (hs : Sim w0 A m κ) : Sim (Start.at hs) κ.S m κ :=
  ⟨.refl _ _, hs.gn, hs.ok, hs.gens, fun s g i b hi hb => ⟨Or.inr ⟨s, g, i, hi, hb⟩, (hs.own s g i b hi hb).2⟩, hs.notS, hs.isS, hs.sep, fun b hb => ⟨(hs.st b hb).1, Or.inl hb⟩, fun _ h => h, hs.pin⟩
theorem Sim.unbase (hs : Sim w0 A m κ) {m' : Mem} {κ' : Cx} (h : Sim (Start.at hs) κ.S m' κ') : Sim w0 A m' κ' := by
  have hnew : ∀ b, (Start.at hs).New b → w0.New b := by
    rintro b (hb | ⟨s, g, i, hi, hb⟩)
    · exact Or.inl (Nat.le_trans hs.below.size hb)
    · exact (hs.own s g i b hi hb).1
  refine ⟨hs.below.step h.below.os h.below.tape h.below.output h.below.size h.below.drawn fun k hk hne => h.below.block k (Nat.lt_of_lt_of_le hk hs.below.size) ?_, h.gn, h.ok, h.gens, fun s g i b hi hb => ⟨hnew b (h.own s g i b hi hb).1, (h.own s g i b hi hb).2⟩, h.notS, h.isS, h.sep, fun b hb => ⟨(h.st b hb).1, ?_⟩, fun b hb => h.args b (hs.args b hb), h.pin⟩
  · rintro ⟨s, g, i, hi, hb⟩
    rcases (hs.own s g i k hi hb).1 with h1 | h1
    · omega
    · exact hne h1
  · rcases (h.st b hb).2 with h1 | h1
    · exact (hs.st b h1).2
    · exact Or.inr (hnew b h1)
end
/-- an iterator over a map -/
structure Rng (w : World) (b r : Nat) (ents : Array MapEntry) (clock : Nat) (seen : Array Nat) : Prop where
  hb : w.heap[b]? = some (.map ents clock)
  hr : ∃ since c0, w.heap[r]? = some (.mapIter (some b) since seen c0) ∧ (∀ x ∈ ents.toList, x.born < since) ∧ since ≤ c0 ∧ since ≤ clock
theorem Rng.keep {w w' : World} {b r : Nat} {ents : Array MapEntry} {clock : Nat} {seen : Array Nat} (h : Rng w b r ents clock seen) (h1 : w'.heap[b]? = w.heap[b]?) (h2 : w'.heap[r]? = w.heap[r]?) : Rng w' b r ents clock seen := by
  obtain ⟨hb, since, c0, h3, h4⟩ := h
  exact ⟨h1.trans hb, since, c0, h2.trans h3, h4⟩
def ptrV (r : Nat) : AV := .d (.v (.pointer (some ⟨r, 0, none⟩)))
/-- what comes behind a round -/
def rangeK {X : Type} (E : X → List (Nat × AV)) (M : X → List (Nat × Inst)) (b b1 : Nat) (J : X → Prop) (Q : Ex → ASt → Prop) : Ex → ASt → Prop
  | .normal, st => ∃ x, J x ∧ Enters st (E x) (M x)
  | .exit i, st => bif Nat.beq i b1 then ∃ x, J x ∧ Enters st (E x) (M x) else bif Nat.beq i b then Q .normal st else Q (.exit i) st
  | .ret, st => Q .ret st
def moreE (E : List (Nat × AV)) (t14 t15 t16 : Tmp) (p : Value × D) : Nat → Option AV := putE (putE (putE (lookE E) (some t14) (.tup [B true, .d (.v p.1), mcell p.2])) (some t15) (B true)) (some t16) (.tup [.d (.v p.1), mcell p.2])
def doneE (E : List (Nat × AV)) (t14 t15 : Tmp) : Nat → Option AV := putE (putE (lookE E) (some t14) (.tup [B false])) (some t15) (B false)
structure RngP (T : Nat → TI) (base nt : Nat) (F : FuncId → List AV → AV → Prop) (js : List Nat) (en : Oper) (rest : List Oper) (z : Code) (dit t14 t15 t16 : Tmp) (b b1 : Nat) (es : List (Value × D)) (st : ASt) (r : Nat) (Q : Ex → ASt → Prop) : Prop where
  h : ∃ (X : Type) (E : X → List (Nat × AV)) (M : X → List (Nat × Inst)) (J : List Nat → X → Prop),
    (∃ x, J [] x ∧ Enters ⟨putE st.env (some dit) (ptrV r), st.m⟩ (E x) (M x)) ∧
    (∀ x, lookE (E x) dit = some (ptrV r) ∧ (M x).all (fun p => p.2.rw_) = true) ∧
    (∀ pre x, J pre x → (∀ j, j < es.length → j ∈ pre) → Q .normal ⟨doneE (E x) t14 t15, (mkSt (E x) (M x)).m⟩) ∧
    ∀ pre x j p, J pre x → es[j]? = some p → j ∉ pre → runL T base nt F (en :: rest) rest ⟨moreE (E x) t14 t15 t16 p, (mkSt (E x) (M x)).m⟩ fun st' => AW T base nt F js z st' (rangeK E M b b1 (J (pre ++ [j])) Q)
section
variable {P : Program} {T : Nat → TI} {base nt : Nat} {F : FuncId → List AV → AV → Prop} {js : List Nat} {dr : Prop} {st : ASt} {Q : Ex → ASt → Prop}
theorem born_inj' {ents : Array MapEntry} {clock : Nat} (hst : MapKept.Stamped ents clock) {i j : Nat} {e e' : MapEntry} (hi : ents[i]? = some e) (hj : ents[j]? = some e') (h : e.born = e'.born) : i = j := by
  have hn := ((MapKept.stamped_iff ents clock).1 hst).2.1
  have h1 : (ents.toList.map (·.born))[i]? = some e.born := by simp [hi]
  have h2 : (ents.toList.map (·.born))[j]? = some e'.born := by simp [hj]
  rw [← h] at h2
  have hlt := (List.getElem?_eq_some_iff.1 h1).1
  exact (List.getElem?_inj hlt hn).1 (h1.trans h2.symm)
theorem runL_soundA {w0 : Start} {A : Nat → Prop} (hT : TOk P T) (heq : ∀ t, (T t).eqs = true → (T t).known = true) (hF : ∀ f args r, F f args r → FnX w0.dr P f args r) {ops : Array Oper} {K : ASt → Prop} {Q : Exit → Act → World → Prop} {tl : List Oper} (hQ : ∀ a w, Holds w0 A nt K a w → wpList P ops Q tl a w) :
    ∀ (l : List Oper) (st : ASt) (κ : Cx) (a : Act), Sim w0 A st.m κ → EnvOk κ st.env a.tmps → a.tmps.size = nt → a.defers = [] → runL T base nt F ops.toList l st K → wpList P ops Q (l ++ tl) a κ.w
  | [], st, κ, a, hs, he, hn, hd, h => hQ a κ.w ⟨st, κ, rfl, hs, he, hn, hd, h⟩
  | o :: r, st, κ, a, hs, he, hn, hd, h => by
    refine wpList_step fun K' hK' => ?_
    exact runL_step hT heq hF hs he hn hd h fun st' κ' a' h1 h2 h3 h4 h5 => hK' _ _ (runL_soundA hT heq hF hQ r st' κ' a' h1 h2 h3 h4 h5)
/-- the state at the head of the loop -/
structure RI (w0 : Start) (A : Nat → Prop) (nt : Nat) (E : List (Nat × AV)) (M : List (Nat × Inst)) (ck : CK) (es : List (Value × D)) (b r : Nat) (ents : Array MapEntry) (clock : Nat) (seen : Array Nat) (pre : List Nat) (a : Act) (κ : Cx) : Prop where
  sim : Sim w0 A (mkSt E M).m κ
  env : EnvOk κ (mkSt E M).env a.tmps
  size : a.tmps.size = nt
  defers : a.defers = []
  bS : κ.S b
  mapin : MapIn κ.S κ.w ck ents es
  rng : Rng κ.w b r ents clock seen
  seen : ∀ j e, ents[j]? = some e → (seen.contains e.born = true ↔ j ∈ pre)
  rS : ¬ κ.S r
  rN : w0.New r
  rO : ∀ s g i, (mkSt E M).m.at_ s g = some i → (κ.φ s g).blk ≠ some r
theorem putE_sim {κ : Cx} {env : Nat → Option AV} {a : Act} {t : Tmp} {v : AV} {x : Value} (h : EnvOk κ env a.tmps) (hn : a.tmps.size = nt) (ht : t < nt) (hx : Rel κ v x) : EnvOk κ (putE env (some t) v) (a.put (some t) x).tmps :=
  EnvOk.put (o := ⟨some t, .extract (.const (.bool false)) 0, 0, "", #[], none⟩) h hn (by simp only [dstOk]; exact Nat.ble_eq_true_of_le ht) hx
/-- a run that started anew, seen from the first start -/
theorem Holds.unbase {w0 : Start} {A : Nat → Prop} {m : Mem} {κ : Cx} (hs : Sim w0 A m κ) {R : ASt → Prop} {a : Act} {w : World} (h : Holds (Start.at hs) κ.S nt R a w) : Holds w0 A nt R a w := by
  obtain ⟨st, κ', h1, h2, h3⟩ := h
  exact ⟨st, κ', h1, hs.unbase h2, h3⟩
theorem RI.make {w0 : Start} {A : Nat → Prop} {m m' : Mem} {κ κ' : Cx} {env : Nat → Option AV} {a : Act} {E : List (Nat × AV)} {M : List (Nat × Inst)} {ck : CK} {es : List (Value × D)} {b r : Nat} {ents : Array MapEntry} {clock : Nat} {seen : Array Nat} {pre : List Nat}
    (hs : Sim w0 A m κ) (h : Sim (Start.at hs) κ.S m' κ') (he : EnvOk κ' env a.tmps) (hn : a.tmps.size = nt) (hd : a.defers = []) (hen : Enters ⟨env, m'⟩ E M)
    (bS : κ.S b) (hmi : MapIn κ.S κ.w ck ents es) (hrng : Rng κ.w b r ents clock seen) (hseen : ∀ j e, ents[j]? = some e → (seen.contains e.born = true ↔ j ∈ pre)) (rS : ¬ κ.S r) (rN : w0.New r) (rO : ∀ s g i, m.at_ s g = some i → (κ.φ s g).blk ≠ some r) (hSk : ∀ c, κ.S c → κ'.w.heap[c]? = κ.w.heap[c]?) :
    ∃ κ2, κ2.w = κ'.w ∧ RI w0 A nt E M ck es b r ents clock seen pre a κ2 := by
  obtain ⟨κ2, e1, h2, he2⟩ := enters_sim (st := ⟨env, m'⟩) h he hen
  have hlt : ∀ c, κ.S c → c < κ.w.heap.size := fun c hc => (hs.st c hc).1
  obtain ⟨_, _, hrr, _⟩ := hrng.hr
  have rlt : r < κ.w.heap.size := (Array.getElem?_eq_some_iff.1 hrr).1
  have keep : ∀ c, c < κ.w.heap.size → (∀ s g i, m.at_ s g = some i → (κ.φ s g).blk ≠ some c) → κ2.w.heap[c]? = κ.w.heap[c]? := fun c hc hno => by
    rw [e1]
    exact h.below.block c hc fun ⟨s, g, i, hi, hb⟩ => hno s g i hi hb
  have rnew : ¬ (Start.at hs).New r := by
    rintro (h1 | ⟨s, g, i, hi, hb⟩)
    · exact absurd rlt (Nat.not_lt.2 h1)
    · exact rO s g i hi hb
  have keepS : ∀ c, κ.S c → κ2.w.heap[c]? = κ.w.heap[c]? := fun c hc => by rw [e1]; exact hSk c hc
  refine ⟨κ2, e1, hs.unbase h2, he2, hn, hd, h2.args b bS, ?_, hrng.keep (keepS b bS) (keep r rlt rO), hseen, fun hr => ?_, rN, fun s g i hi hb => rnew (h2.own s g i r hi hb).1⟩
  · exact ⟨hmi.1, fun j p e hp he => ⟨(hmi.2 j p e hp he).1, (hmi.2 j p e hp he).2.1.mono (fun c hc => h2.args c hc) keepS, (hmi.2 j p e hp he).2.2⟩⟩
  · rcases (h2.st r hr).2 with h3 | h3
    · exact rS h3
    · exact rnew h3
theorem eval_put {a : Act} {t : Tmp} {v : Value} (h : t < a.tmps.size) : (a.put (some t) v).eval (.tmp t) = v := by
  simp [Act.put, Act.eval, h]
theorem eval_put_other {a : Act} {t t' : Tmp} {v : Value} (h : t ≠ t') : (a.put (some t) v).eval (.tmp t') = a.eval (.tmp t') := by
  simp [Act.put, Act.eval, Array.getElem?_setIfInBounds_ne h]
theorem ext1 {on oe : Oper} {t14 t15 : Tmp} (hoe : oe.op = .extract (.tmp t14) 0) (goe : oe.guard = none) (doe : oe.dst = some t15) (h15 : t15 < nt) {env : Nat → Option AV} {m : Mem} {bb : Bool} {vs : List AV} {st' : ASt} (he : env t14 = some (.tup (B bb :: vs))) (hst : st' = ⟨putE env (some t15) (B bb), m⟩) :
    runL T base nt F [on, oe].toArray.toList [oe] ⟨env, m⟩ fun s => s = st' := by
  subst hst
  have hd : dstOk nt oe = true := by
    simp only [dstOk, doe]
    exact Nat.ble_eq_true_of_le h15
  have hop : opF T base env oe = .ret (B bb) := by
    unfold opF
    rw [hoe]
    simp [rhoOf, rawOf, he, unkO, unk, unk1, extractF, retO]
  simp only [runL, hd, goe, hop, Bool.not_true, cond_false, Step.wp, doe]
/-- A LOOP OVER A MAP THAT NOBODY CHANGES -/
theorem AX.range (hm : P.follows .mixedOrders = true) (hT : TOk P T) (heq : ∀ t, (T t).eqs = true → (T t).known = true) (hF : ∀ f args r, F f args r → FnX dr P f args r) {i i3 i4 b b1 : Nat} {l rest : List Oper} {ro on oe en : Oper} {z : Code} {m : Operand} {dit t14 t15 t16 : Tmp} {tm kt et : TypeId}
    (hl : l.getLast? = some ro) (hro : ro.op = .range tm m) (gro : ro.guard = none) (dro : ro.dst = some dit) (hdit : dit < nt) (hk : (T tm).k = .map kt et)
    (hon : on.op = .next (.tmp dit) false) (gon : on.guard = none) (don : on.dst = some t14) (h14 : t14 < nt)
    (hoe : oe.op = .extract (.tmp t14) 0) (goe : oe.guard = none) (doe : oe.dst = some t15) (h15 : t15 < nt)
    (hen : en.op = .entry (.tmp dit)) (gen : en.guard = none) (den : en.dst = some t16) (h16 : t16 < nt) (hne : dit ≠ t14 ∧ dit ≠ t15)
    (h : runL T base nt F l l.dropLast st fun st1 => ∃ ck es, rhoOf st1.env m = some (.d (.mz ck es)) ∧ ∀ r, RngP T base nt F js en rest z dit t14 t15 t16 b b1 es st1 r Q) :
    AX P dr nt (.seq (.region i l.toArray false) (.block b (.loop (.seq (.region i3 [on, oe].toArray false) (.seq (.cond (.tmp t15) .skip (.exit b)) (.block b1 (.seq (.region i4 (en :: rest).toArray false) z))))))) st Q := by
  rintro w0 A κ a rfl hs he hn hd
  have hsplit : l = l.dropLast ++ [ro] := by
    obtain ⟨ys, rfl⟩ := List.getLast?_eq_some_iff.1 hl
    simp
  obtain ⟨d0, hu0, hd0⟩ := hT.kok hk (by simp)
  have hd0 : d0 = .map kt et := hd0
  subst hd0
  refine wp_seq (wp_region_list ?_)
  rw [List.toList_toArray]
  rw [show (wpList P l.toArray _ l a κ.w : Prop) = wpList P l.toArray _ (l.dropLast ++ [ro]) a κ.w by rw [← hsplit]]
  refine runL_soundA hT heq hF (ops := l.toArray) ?_ l.dropLast st κ a hs he hn hd h
  clear h hs he hn hd
  rintro a1 w1 ⟨st1, κ1, rfl, hs1, he1, hn1, hd1, ck, es, hm1, hR⟩
  have hev := ev_rel he1 hm1
  generalize hu : a1.eval m = u at hev
  obtain ⟨b0, ents, clock, rfl, hbS, hh, hMI, hst⟩ := (show RelD κ1.S κ1.w (.mz ck es) u by cases hev with | d h => exact h).map_inv
  have hlt0 : b0 < κ1.w.heap.size := (hs1.st b0 hbS).1
  have hbw : BelowD w0.dr κ1.w.heap.size κ1.w (κ1.w.alloc (.mapIter (some b0) clock #[] clock)) := belowD_alloc _ _
  obtain ⟨hs2, hle2⟩ := hs1.grow hbw (S' := κ1.S) (fun _ h => h) (fun _ h => Or.inl h)
  refine wpList_plain gro fun K' hK' => ?_
  refine wp_val (x := .pointer (some ⟨κ1.w.heap.size, 0, none⟩)) (w' := κ1.w.alloc (.mapIter (some b0) clock #[] clock)) ?_ (hK' _ _ (wpList_nil ?_))
  · unfold execOp
    rw [hro]
    simp [hu, run_range_map _ _ _ _ _ _ _ hu0 hh, Result.andThen]
  rw [dro]
  show (Code.block b _).wp P _ _ _
  obtain ⟨X, E, M, J, ⟨x0, hJ0, hen0⟩, hit, hdone, hmore⟩ := (hR κ1.w.heap.size).h
  generalize hr : κ1.w.heap.size = r at *
  have hst' := (MapKept.stamped_iff ents clock).1 hst
  refine wp_block (wp_loop_ghost (fun n a w => ∃ κ x pre seen, κ.w = w ∧ J pre x ∧ RI w0 A nt (E x) (M x) ck es b0 r ents clock seen pre a κ ∧ (leftOf ents seen).size = n) (leftOf ents #[]).size ?_ ?_)
  · obtain ⟨κ2, q1, q2⟩ := RI.make (nt := nt) (E := E x0) (M := M x0) (pre := []) (seen := #[]) (r := r) (b := b0) (ck := ck) (es := es) (ents := ents) (clock := clock) (a := a1.put (some dit) (.pointer (some ⟨r, 0, none⟩))) hs2 hs2.rebase (putE_sim (he1.mono hle2) hn1 hdit (.d (.v _ rfl))) ((put_size ..).trans hn1) ((put_defers ..).trans hd1) hen0 hbS
      ⟨hMI.1, fun j p e hp he => ⟨(hMI.2 j p e hp he).1, (hMI.2 j p e hp he).2.1.mono (fun _ h => h) (fun c hc => hbw.block c (by rw [← hr]; exact (hs1.st c hc).1)), (hMI.2 j p e hp he).2.2⟩⟩
      ⟨(hbw.block b0 hlt0).trans hh, clock, clock, by rw [← hr]; exact heap_alloc_new _ _, hst'.1, Nat.le_refl _, Nat.le_refl _⟩ (fun j e _ => by simp) (fun h => by have := (hs1.st r h).1; omega) (Or.inl (by have := hs1.below.size; omega)) (fun s g i hi hb => by have := (hs1.own s g i r hi hb).2; omega) (fun _ _ => rfl)
    exact ⟨κ2, x0, [], #[], q1, hJ0, q2, rfl⟩
  · rintro n a w ⟨κ, x, pre, seen, rfl, hJ, hI, hn⟩
    have hptr : a.eval (.tmp dit) = .pointer (some ⟨r, 0, none⟩) := (ev_rel hI.env (x := .tmp dit) (c := ptrV r) (by
      show unkO (lookE (E x) dit) = _
      rw [(hit x).1]
      rfl)).val
    obtain ⟨hb, since, c0, hrr, hold, hsc, hsk⟩ := hI.rng
    refine wp_seq (wp_region_list ?_)
    rw [List.toList_toArray]
    rcases run_next_at (P := P) κ.w on.type r b0 since c0 seen ents clock hrr hb hold hsc with ⟨h0, hrun⟩ | ⟨e, hel, w1, hal, hrun⟩
    · refine wpList_plain gon fun K' hK' => wp_val (x := .tuple #[.bool false]) (w' := κ.w) ?_ (hK' _ _ ?_)
      · unfold execOp
        rw [hon]
        simp [hptr, hrun, Result.andThen]
      rw [don]
      have e1 : EnvOk κ (putE (lookE (E x)) (some t14) (.tup [B false])) (a.put (some t14) (.tuple #[.bool false])).tmps := putE_sim hI.env hI.size h14 (.tup rfl fun j c y hc hy => by
        match j, hc, hy with
        | 0, hc, hy =>
          simp at hc hy
          subst hc hy
          exact relv κ _
        | j + 1, hc, hy => simp at hc)
      refine runL_sound (base := base) (ops := [on, oe].toArray) hT heq hF (K := fun st' => st' = ⟨doneE (E x) t14 t15, (mkSt (E x) (M x)).m⟩) ?_ [oe] ⟨putE (lookE (E x)) (some t14) (.tup [B false]), (mkSt (E x) (M x)).m⟩ κ _ hI.sim e1 ((put_size ..).trans hI.size) ((put_defers ..).trans hI.defers) (ext1 (base := base) (bb := false) (vs := []) hoe goe doe h15 (by simp only [putE, updT, Nat.beq_refl, cond_true]) rfl)
      rintro a2 w2 ⟨_, κ2, rfl, s2, v2, n2, d2, rfl⟩
      have hc : a2.eval (.tmp t15) = .bool false := (ev_rel v2 (x := .tmp t15) (c := B false) (by simp [rhoOf, rawOf, doneE, putE, updT, unkO, unk, unk1, B])).val
      refine wp_seq (wp_cond hc (wp_exit ?_))
      show (if b = b then _ else _)
      rw [if_pos rfl]
      refine ⟨_, κ2, rfl, s2, v2, n2, d2, hdone pre x hJ fun j hj => ?_⟩
      rw [← hI.mapin.1] at hj
      have he := Array.getElem?_eq_getElem hj
      exact (hI.seen j _ he).1 (all_seen ents seen h0 _ (by simp))
    · obtain ⟨hem, hes⟩ := mem_left hel
      obtain ⟨j, hj, hje⟩ := List.mem_iff_getElem.1 hem
      have hje : ents[j]? = some e := by
        rw [Array.getElem?_eq_getElem (by simpa using hj)]
        simpa using hje
      have hjl : j < es.length := by rw [← hI.mapin.1]; simpa using hj
      generalize hp : es[j] = p
      have hpj : es[j]? = some p := by rw [List.getElem?_eq_getElem hjl, hp]
      obtain ⟨m1, m2, m3⟩ := hI.mapin.2 j p e hpj hje
      have hjp : j ∉ pre := fun h => by rw [(hI.seen j e hje).2 h] at hes; cases hes
      generalize hw' : setBlock w1 r (.mapIter (some b0) since (seen.push e.born) clock) = w' at hrun
      have hw1 : w1.heap = κ.w.heap := by rcases hal with rfl | rfl <;> rfl
      have hset := heap_set (w := w1) (o' := .mapIter (some b0) since (seen.push e.born) clock) (by rw [hw1]; exact hrr)
      have hwr : w'.heap[r]? = some (.mapIter (some b0) since (seen.push e.born) clock) := by rw [← hw']; exact hset.1
      have hwo : ∀ c, c ≠ r → w'.heap[c]? = κ.w.heap[c]? := fun c hc => by rw [← hw', ← hw1]; exact hset.2 c hc
      have hfree : Free w0 (mkSt (E x) (M x)).m κ r := ⟨hI.rN, (Array.getElem?_eq_some_iff.1 hrr).1, hI.rS, fun s g i hi => hI.rO s g i hi⟩
      have hbr : b0 ≠ r := fun e => hI.rS (e ▸ hI.bS)
      obtain ⟨hsa, lea⟩ := hI.sim.upd (w' := w') hfree (by rw [← hw']; rcases hal with rfl | rfl <;> simp [setBlock]) (by rw [← hw']; rcases hal with rfl | rfl <;> rfl) (by rw [← hw']; rcases hal with rfl | rfl <;> rfl) (by rw [← hw']; rcases hal with rfl | rfl <;> rfl) (by rw [← hw', ← hw1]; simp [setBlock]) hwo
      refine wpList_plain gon fun K' hK' => wp_val (x := .tuple #[.bool true, e.key, e.val]) (w' := w') ?_ (hK' _ _ ?_)
      · unfold execOp
        rw [hon]
        simp [hptr, hrun, Result.andThen]
      rw [don]
      generalize hκa : ({ κ with w := w' } : Cx) = κa at hsa lea
      have hwa : κa.w = w' := by rw [← hκa]
      have hSa : κa.S = κ.S := by rw [← hκa]
      have hφa : κa.φ = κ.φ := by rw [← hκa]
      rw [← hwa]
      have one : e.key.oneCell' = true := by
        rw [m1]
        revert m3
        cases ck <;> cases p.1 <;> intro m3 <;> first | rfl | cases m3
      have rk : Rel κa (.d (.v p.1)) e.key := by rw [← m1]; exact .d (.v _ one)
      have rv : Rel κa (mcell p.2) e.val := .ofE (lea.relE m2)
      have e1 : EnvOk κa (putE (lookE (E x)) (some t14) (.tup [B true, .d (.v p.1), mcell p.2])) (a.put (some t14) (.tuple #[.bool true, e.key, e.val])).tmps := putE_sim (hI.env.mono lea) hI.size h14 (.tup rfl fun j c y hc hy => by
        match j, hc, hy with
        | 0, hc, hy =>
          simp at hc hy
          subst hc hy
          exact relv κa _
        | 1, hc, hy =>
          simp at hc hy
          subst hc hy
          exact rk
        | 2, hc, hy =>
          simp at hc hy
          subst hc hy
          exact rv
        | j + 3, hc, hy => simp at hc)
      have hne14 : (a.put (some t14) (.tuple #[.bool true, e.key, e.val])).eval (.tmp t14) = .tuple #[.bool true, e.key, e.val] := eval_put (by rw [hI.size]; exact h14)
      refine wpList_plain goe fun K2 hK2 => wp_val (x := .bool true) (w' := κa.w) ?_ (hK2 _ _ (wpList_nil ?_))
      · unfold execOp
        rw [hoe]
        simp [hne14, Instr.extract]
      rw [doe]
      have e2 := putE_sim (nt := nt) e1 ((put_size ..).trans hI.size) h15 (relv κa (.bool true))
      generalize ha2 : (a.put (some t14) (.tuple #[.bool true, e.key, e.val])).put (some t15) (.bool true) = a2 at e2
      have n2 : a2.tmps.size = nt := by rw [← ha2]; exact (put_size ..).trans ((put_size ..).trans hI.size)
      have d2 : a2.defers = [] := by rw [← ha2]; exact (put_defers ..).trans ((put_defers ..).trans hI.defers)
      have hc : a2.eval (.tmp t15) = .bool true := by rw [← ha2]; exact eval_put (by rw [put_size, hI.size]; exact h15)
      have hp2 : a2.eval (.tmp dit) = .pointer (some ⟨r, 0, none⟩) := by
        rw [← ha2, eval_put_other (Ne.symm hne.2), eval_put_other (Ne.symm hne.1)]
        exact hptr
      refine wp_seq (wp_cond hc (wp_skip ?_))
      refine wp_block (wp_seq (wp_region_list ?_))
      rw [List.toList_toArray]
      refine wpList_plain gen fun K3 hK3 => wp_val (x := .tuple #[e.key, e.val]) (w' := κa.w) ?_ (hK3 _ _ ?_)
      · unfold execOp
        rw [hen]
        simp [hp2, run_entry_at κa.w r b0 since seen ents clock e (by rw [hwa]; exact hwr) (by rw [hwa, hwo b0 hbr]; exact hb) hem hst'.2.1, Result.andThen]
      rw [den]
      have e3 := putE_sim (nt := nt) e2 n2 h16 (v := .tup [.d (.v p.1), mcell p.2]) (x := .tuple #[e.key, e.val]) (.tup rfl fun j c y hc hy => by
        match j, hc, hy with
        | 0, hc, hy =>
          simp at hc hy
          subst hc hy
          exact rk
        | 1, hc, hy =>
          simp at hc hy
          subst hc hy
          exact rv
        | j + 2, hc, hy => simp at hc)
      have hall : ∀ s g i, (mkSt (E x) (M x)).m.at_ s g = some i → i.rw_ = true := by
        have h1 := (hit x).2
        intro s g i hi
        have hl : lookM (M x) s = some i := by
          simp only [mkSt, beq_dec] at hi
          by_cases hg : g = 1
          · simpa [hg] using hi
          · simp [hg] at hi
        revert h1 hl
        generalize M x = L
        induction L with
        | nil => intro _ hl; cases hl
        | cons q L ih =>
          obtain ⟨t, v⟩ := q
          intro h1 hl
          rw [List.all_cons, Bool.and_eq_true] at h1
          simp only [lookM] at hl
          cases ht : Nat.beq s t
          · rw [ht] at hl; exact ih h1.2 hl
          · rw [ht] at hl
            injection hl with hl
            subst hl
            exact h1.1
      refine runL_sound (w0 := Start.at hsa) (A := κa.S) (ops := (en :: rest).toArray) hT heq hF ?_ rest ⟨moreE (E x) t14 t15 t16 p, (mkSt (E x) (M x)).m⟩ κa _ hsa.rebase e3 ((put_size ..).trans n2) ((put_defers ..).trans d2) (hmore pre x j p hJ hpj hjp)
      intro a4 w4 h4
      refine wp_mono (AW_sound (w0 := Start.at hsa) (A := κa.S) hm hT heq hF z _ a4 w4 h4) ?_
      have back : ∀ (a5 : Act) (w5 : World), Holds (Start.at hsa) κa.S nt (fun st => ∃ x', J (pre ++ [j]) x' ∧ Enters st (E x') (M x')) a5 w5 → ∃ n', n' < n ∧ ∃ κ x pre seen, κ.w = w5 ∧ J pre x ∧ RI w0 A nt (E x) (M x) ck es b0 r ents clock seen pre a5 κ ∧ (leftOf ents seen).size = n' := by
        rintro a5 w5 ⟨⟨env5, m5⟩, κ5, rfl, s5, v5, n5, d5, x', hJ', hen'⟩
        obtain ⟨κ6, q1, q2⟩ := RI.make (nt := nt) (pre := pre ++ [j]) (seen := seen.push e.born) (r := r) (b := b0) (ck := ck) (es := es) (ents := ents) (clock := clock) (a := a5) hsa s5 v5 n5 d5 hen' (by rw [hSa]; exact hI.bS)
          ⟨hI.mapin.1, fun j p e hp he => ⟨(hI.mapin.2 j p e hp he).1, lea.relE (hI.mapin.2 j p e hp he).2.1, (hI.mapin.2 j p e hp he).2.2⟩⟩
          ⟨by rw [hwa, hwo b0 hbr]; exact hb, since, clock, by rw [hwa]; exact hwr, hold, hsk, hsk⟩ (fun q e' hq => by
            rw [contains_push, Bool.or_eq_true, hI.seen q e' hq, List.mem_append, List.mem_singleton]
            constructor
            · rintro (h | h)
              · exact Or.inl h
              · exact Or.inr (born_inj' hst hq hje (by simpa using h))
            · rintro (h | h)
              · exact Or.inl h
              · subst h
                rw [hje] at hq
                injection hq with hq
                subst hq
                exact Or.inr (by simp)) (by rw [hSa]; exact hI.rS) hI.rN (by rw [hφa]; exact hI.rO) (fun c hc => s5.below.block c (hsa.st c hc).1 fun ⟨s, g, i, hi, hb⟩ => hsa.notS s g i c hi hb (hall s g i hi) hc)
        exact ⟨_, by rw [← hn]; exact left_shrinks ents seen e hel, κ6, x', pre ++ [j], seen.push e.born, q1, hJ', q2, rfl⟩
      intro e5 a5 w5 hq
      cases e5 with
      | normal => exact back a5 w5 hq
      | exit i5 =>
        have hq : Holds (Start.at hsa) κa.S nt (fun st => bif Nat.beq i5 b1 then ∃ x', J (pre ++ [j]) x' ∧ Enters st (E x') (M x') else bif Nat.beq i5 b then Q .normal st else Q (.exit i5) st) a5 w5 := hq
        rw [beq_dec, beq_dec] at hq
        show if i5 = b1 then _ else _
        by_cases h1 : i5 = b1
        · simp only [h1, decide_true, cond_true] at hq
          rw [if_pos h1]
          exact back a5 w5 hq
        · simp only [h1, decide_false, cond_false] at hq
          rw [if_neg h1]
          show if i5 = b then _ else _
          by_cases h2 : i5 = b
          · simp only [h2, decide_true, cond_true] at hq
            rw [if_pos h2]
            exact hq.unbase hsa
          · simp only [h2, decide_false, cond_false] at hq
            rw [if_neg h2]
            exact hq.unbase hsa
      | ret => exact Holds.unbase hsa hq
      | goto l => exact hq.elim
      | panic ch => exact hq.elim
      | outgrown => exact hq.elim
end
/- plain programs: something that is done with a list in whatever order -/
open Classical in
noncomputable def permO {A B : Type} (l : List A) (f : List A → Option B) : Option B := if h : ∃ b, ∀ l' : List A, l'.Perm l → f l' = some b then some h.choose else none
theorem permO_all {A B : Type} {l : List A} {f : List A → Option B} {b : B} (h : permO l f = some b) (l' : List A) (hp : l'.Perm l) : f l' = some b := by
  unfold permO at h
  split at h
  · rename_i hx
    injection h with h
    subst h
    exact hx.choose_spec l' hp
  · cases h
theorem permO_of {A B : Type} {l : List A} {f : List A → Option B} {b : B} (h : ∀ l' : List A, l'.Perm l → f l' = some b) : permO l f = some b := by
  have hx : ∃ b, ∀ l' : List A, l'.Perm l → f l' = some b := ⟨b, h⟩
  unfold permO
  rw [dif_pos hx, ← hx.choose_spec l (.refl l)]
  exact h l (.refl l)
/-- round after round, then the end -/
def rangeF {S A B : Type} (done : S → Option B) (body : S → A → Option (S ⊕ B)) : List A → S → Option B
  | [], s => done s
  | p :: l, s => match body s p with
    | none => none
    | some (.inl s') => rangeF done body l s'
    | some (.inr b) => some b
theorem filter_range {A : Type} (l : List A) : (List.range l.length).filterMap (fun j => l[j]?) = l := by
  apply List.ext_getElem?
  intro i
  induction l generalizing i with
  | nil => simp
  | cons a l ih =>
    rw [List.length_cons, List.range_succ_eq_map, List.filterMap_cons]
    simp only [List.getElem?_cons_zero]
    cases i with
    | zero => simp
    | succ i =>
      rw [List.getElem?_cons_succ, List.getElem?_cons_succ, ← ih i, List.filterMap_map]
      rfl
section
variable {P : Program} {T : Nat → TI} {base nt : Nat} {F : FuncId → List AV → AV → Prop} {js : List Nat} {Q : Ex → ASt → Prop} {st : ASt}
theorem X.range {S B Kt V : Type} {en : Oper} {rest : List Oper} {z : Code} {m : Operand} {dit t14 t15 t16 : Tmp} {b b1 : Nat} {ck : CK} {ke : Kt → Value} {ve : V → D} {lm : List (Kt × V)} {done : S → Option B} {body : S → Kt × V → Option (S ⊕ B)} {s0 : S} {o : B} (E : Nat → S → List (Nat × AV)) (M : S → List (Nat × Inst)) (G : B → Prop)
    (h : permO lm (fun l => rangeF done body l s0) = some o) (hG : G o) (hm : rhoOf st.env m = some (.d (.mz ck (mapE ke ve lm))))
    (hen : ∀ r, Enters ⟨putE st.env (some dit) (ptrV r), st.m⟩ (E r s0) (M s0)) (hit : ∀ r s, lookE (E r s) dit = some (ptrV r) ∧ (M s).all (fun p => p.2.rw_) = true)
    (hd : ∀ r s f, done s = some f → G f → Q .normal ⟨doneE (E r s) t14 t15, (mkSt (E r s) (M s)).m⟩)
    (hb : ∀ r (J : S → Prop) s p f, body s p = some f → Good J G f → runL T base nt F (en :: rest) rest ⟨moreE (E r s) t14 t15 t16 (ke p.1, ve p.2), (mkSt (E r s) (M s)).m⟩ fun st' => AW T base nt F js z st' (rangeK (E r) M b b1 J Q)) :
    ∃ ck es, rhoOf st.env m = some (.d (.mz ck es)) ∧ ∀ r, RngP T base nt F js en rest z dit t14 t15 t16 b b1 es st r Q := by
  refine ⟨ck, _, hm, fun r => ⟨⟨S, E r, M, fun pre s => pre.Nodup ∧ (∀ j ∈ pre, j < lm.length) ∧ ∀ suf : List Nat, (pre ++ suf).Perm (List.range lm.length) → rangeF done body (suf.filterMap fun j => lm[j]?) s = some o, ⟨s0, ⟨by simp, fun j hj => (by simp at hj), fun suf hs => ?_⟩, hen r⟩, hit r, ?_, ?_⟩⟩⟩
  · refine permO_all h _ ?_
    have := (show suf.Perm (List.range lm.length) by simpa using hs).filterMap fun j => lm[j]?
    rwa [filter_range] at this
  · rintro pre s ⟨h1, h2, h3⟩ hall
    have hlen : (mapE ke ve lm).length = lm.length := List.length_map ..
    rw [hlen] at hall
    have := h3 [] (by
      rw [List.append_nil]
      refine (List.perm_ext_iff_of_nodup h1 List.nodup_range).2 fun j => ?_
      rw [List.mem_range]
      exact ⟨h2 j, hall j⟩)
    exact hd r s o this hG
  · rintro pre s j p ⟨h1, h2, h3⟩ hp hj
    have hp : (List.map (fun p => (ke p.1, ve p.2)) lm)[j]? = some p := hp
    rw [List.getElem?_map] at hp
    cases hq : lm[j]? with
    | none => rw [hq] at hp; cases hp
    | some q =>
      rw [hq] at hp
      injection hp with hp
      subst hp
      have hjl : j < lm.length := (List.getElem?_eq_some_iff.1 hq).1
      have hnd : (pre ++ [j]).Nodup := by
        rw [List.nodup_append]
        refine ⟨h1, by simp, fun a ha b hb => ?_⟩
        rw [List.mem_singleton] at hb
        subst hb
        rintro rfl
        exact hj ha
      have hlt : ∀ i ∈ pre ++ [j], i < lm.length := fun i hi => by
        rcases List.mem_append.1 hi with hi | hi
        · exact h2 i hi
        · rw [List.mem_singleton] at hi
          subst hi
          exact hjl
      have step : ∀ suf : List Nat, (pre ++ [j] ++ suf).Perm (List.range lm.length) → rangeF done body (q :: suf.filterMap fun j => lm[j]?) s = some o := fun suf hs => by
        have := h3 (j :: suf) (by simpa using hs)
        rwa [List.filterMap_cons, hq] at this
      have hex : (pre ++ [j] ++ (List.range lm.length).filter fun i => decide (i ∉ pre ++ [j])).Perm (List.range lm.length) := by
        refine (List.perm_ext_iff_of_nodup ?_ List.nodup_range).2 fun i => ?_
        · rw [List.nodup_append]
          refine ⟨hnd, List.nodup_range.filter _, fun a ha b hb => ?_⟩
          rintro rfl
          have := (List.mem_filter.1 hb).2
          exact absurd ha (of_decide_eq_true this)
        · rw [List.mem_append, List.mem_filter, List.mem_range]
          constructor
          · rintro (h | h)
            · exact hlt i h
            · exact h.1
          · intro h
            by_cases hi : i ∈ pre ++ [j]
            · exact Or.inl hi
            · exact Or.inr ⟨h, decide_eq_true hi⟩
      cases hf : body s q with
      | none =>
        have := step _ hex
        rw [rangeF, hf] at this
        cases this
      | some f =>
        refine hb r _ s q f hf ?_
        cases f with
        | inl s' =>
          refine ⟨hnd, hlt, fun suf hs => ?_⟩
          have := step suf hs
          rwa [rangeF, hf] at this
        | inr b' =>
          have := step _ hex
          rw [rangeF, hf] at this
          injection this with this
          subst this
          exact hG
end
section
variable {P : Program} {T : Nat → TI}
/-- the contract of a function with loops over maps -/
theorem Fn.of_AX {dr : Prop} (hT : TOk P T) {f : FuncId} {fn : Func} {c : Code} {nt : Nat} {rs : List ResultVar} {args : List AV} {r : AV}
    (hcall : ∀ (args : Array Value) (w : World), (callFunc f args).run P w = .ok (.enter f args) w) (hf : P.funcs[f]? = some fn) (hb : fn.body = some c) (hnt : fn.ntmps = nt) (hrs : fn.results.toList = rs) (hargs : args.length ≤ nt)
    (h : AX P dr nt c (st0 args) (EndP T rs r)) : Fn dr P f args r := by
  refine ⟨hcall, fun w A vals hI hA hr => ?_⟩
  have hlen : vals.size = args.length := by simpa using hr.1
  refine calls_of_wp hf hb (wp_mono (h ⟨w, fun _ => False, dr, hI, fun _ h => h.elim, 0, fun _ => ⟨none, 0, 0, 0⟩⟩ A (cx0 A w) _ rfl ⟨BelowX.refl _ _, rfl, fun s g i hi => (by cases hi), fun s g i hi => (by cases hi), fun s g i b hi => (by cases hi), fun s g i b hi => (by cases hi), fun s g i b hi => (by cases hi), fun s g i s' g' i' b hi => (by cases hi), fun b hb => ⟨hA b hb, Or.inl hb⟩, fun b hb => hb, fun i hi => absurd hi (Nat.not_lt_zero i)⟩ ?_ ?_ rfl) ?_)
  · intro t v ht
    have hn : ∀ (l : List AV) (t : Nat), nthA l t = l[t]? := by
      intro l
      induction l with
      | nil => intro t; cases t <;> rfl
      | cons x l ih => intro t; cases t with
        | zero => rfl
        | succ t => simp [nthA, ih]
    have ht : args[t]? = some v := by rw [← hn]; exact ht
    obtain ⟨x, hx, hrx⟩ := hr.get ht
    have hlt : t < vals.size := by rw [hlen]; exact (List.getElem?_eq_some_iff.1 ht).1
    refine ⟨x, ?_, hrx⟩
    rw [Array.getElem?_append_left hlt]
    simpa using hx
  · simp [hnt]
    omega
  · have fin : ∀ a' w', Holds ⟨w, fun _ => False, dr, hI, fun _ h => h.elim, 0, fun _ => ⟨none, 0, 0, 0⟩⟩ A nt (RetP T rs r) a' w' → a'.defers = [] ∧ ∃ v, (results fn a'.tmps).run P w' = .ok v w' ∧ ∃ v' S' bs, Ending.returned v = Ending.returned v' ∧ BelowD dr w.heap.size w w' ∧ (∀ b, S' b → b < w'.heap.size ∧ (A b ∨ w.heap.size ≤ b)) ∧ Res S' w' r v' bs ∧ Apart bs ∧ ∀ b, some b ∈ bs → w.heap.size ≤ b ∧ b < w'.heap.size ∧ ¬ S' b := by
      rintro a' w' ⟨st, κ, rfl, hs, he, hn, hd, hret⟩
      refine ⟨hd, ?_⟩
      obtain ⟨vs, ys, h1, h2, h3⟩ := valL_sound (P := P) hT hs he rs _ hret
      have tk0 : Taken ⟨w, fun _ => False, dr, hI, fun _ h => h.elim, 0, fun _ => ⟨none, 0, 0, 0⟩⟩ A st.m st.m κ κ [] [] := ⟨hs, .refl κ, rfl, rfl, fun _ _ _ => rfl, fun b hb => by simp at hb, fun _ _ _ => rfl, by simp [Apart]⟩
      have done : ∀ (m2 : Mem) (κ2 : Cx) (used : List (Nat × Nat)) (b2 : List (Option Nat)) (y : Value), Taken ⟨w, fun _ => False, dr, hI, fun _ h => h.elim, 0, fun _ => ⟨none, 0, 0, 0⟩⟩ A st.m m2 κ κ2 used b2 → Res κ2.S κ2.w r y b2 →
          ∃ v' S' bs, Ending.returned y = Ending.returned v' ∧ BelowD dr w.heap.size w κ.w ∧ (∀ b, S' b → b < κ.w.heap.size ∧ (A b ∨ w.heap.size ≤ b)) ∧ Res S' κ.w r v' bs ∧ Apart bs ∧ ∀ b, some b ∈ bs → w.heap.size ≤ b ∧ b < κ.w.heap.size ∧ ¬ S' b := by
        intro m2 κ2 used b2 y t1 t2
        refine ⟨y, κ2.S, b2, rfl, hs.below.toD, fun b hb => ?_, by rw [← t1.w]; exact t2, t1.apart, fun b hb => ?_⟩
        · rw [← t1.w]
          obtain ⟨k1, k2⟩ := t1.sim.st b hb
          exact ⟨k1, k2.imp id fun h => h.elim id fun h => h.elim⟩
        obtain ⟨s, g, i, q1, q2, q3, q4, _⟩ := t1.own b hb
        have := t1.sim.own s g i b q2 q4
        exact ⟨this.1.elim id fun h => h.elim, by rw [← t1.w]; exact this.2, t1.sim.notS s g i b q2 q4 q3⟩
      have hrun : (results fn a'.tmps).run P κ.w = .ok (if hsz : ys.toArray.size = 1 then ys.toArray[0] else .tuple ys.toArray) κ.w := by
        have e : results fn a'.tmps = (do let vs ← fn.results.mapM (resR a'.tmps); pure (if h : vs.size = 1 then vs[0] else .tuple vs)) := rfl
        rw [e, Array.mapM_eq_mapM_toList, hrs]
        simp only [Sem.run_bind, Sem.run_map, h1, Result.andThen_ok, Sem.run_pure]
      have tuple : ys.length ≠ 1 → (∃ ps, r = .tup ps ∧ retT st.m [] vs ps fun _ => True) → ∃ v, (results fn a'.tmps).run P κ.w = .ok v κ.w ∧ ∃ v' S' bs, Ending.returned v = Ending.returned v' ∧ BelowD dr w.heap.size w κ.w ∧ (∀ b, S' b → b < κ.w.heap.size ∧ (A b ∨ w.heap.size ≤ b)) ∧ Res S' κ.w r v' bs ∧ Apart bs ∧ ∀ b, some b ∈ bs → w.heap.size ≤ b ∧ b < κ.w.heap.size ∧ ¬ S' b := by
        rintro hne ⟨ps, rfl, hr2⟩
        obtain ⟨m2, κ2, used, b2, t1, t2, t3, t4, _⟩ := retT_sound vs ps ys st.m κ [] [] _ tk0 h2 hr2
        rw [List.nil_append] at t1
        have hsz : ¬ ys.toArray.size = 1 := by simpa using hne
        rw [dif_neg hsz] at hrun
        exact ⟨_, hrun, done m2 κ2 used b2 _ t1 ⟨_, rfl, by simpa using t4⟩⟩
      have hl := h2.1
      match vs, h2, h3, hl with
      | [], h2, h3, hl =>
        refine tuple (by simp at hl; simp [hl]) ?_
        cases r with
        | tup ps => exact ⟨ps, rfl, h3⟩
        | _ => exact h3.elim
      | [v], h2, h3, hl =>
        obtain ⟨y, ys', rfl, hy, hys⟩ := h2.cons_inv
        have := hys.nil_inv
        subst this
        have hrun : (results fn a'.tmps).run P κ.w = .ok y κ.w := hrun
        have h3 : retC st.m [] v r fun _ => True := h3
        obtain ⟨m2, κ2, used, b2, t1, t2, t3, t4, _⟩ := retC_sound tk0 hy h3
        rw [List.nil_append] at t1
        refine ⟨y, hrun, done m2 κ2 used b2 y t1 ?_⟩
        cases r with
        | tup ps => exact h3.elim
        | _ => exact t4
      | v :: v' :: vs', h2, h3, hl =>
        refine tuple (by simp at hl; omega) ?_
        cases r with
        | tup ps => exact ⟨ps, rfl, h3⟩
        | _ => exact h3.elim
    intro e a' w' hq
    cases e with
    | normal => exact fin a' w' hq
    | ret => exact fin a' w' hq
    | exit i => obtain ⟨_, _, _, _, _, _, _, h⟩ := hq; exact h.elim
    | goto l => exact hq.elim
    | panic ch => exact hq.elim
    | outgrown => exact hq.elim
end
section
variable {X : Type} {E : X → List (Nat × AV)} {M : X → List (Nat × Inst)} {b b1 : Nat} {J : X → Prop} {Q : Ex → ASt → Prop} {st : ASt}
theorem rangeK.n {x : X} (hJ : J x) (h : Enters st (E x) (M x)) : rangeK E M b b1 J Q .normal st := ⟨x, hJ, h⟩
theorem rangeK.c {x : X} (hJ : J x) (h : Enters st (E x) (M x)) : rangeK E M b b1 J Q (.exit b1) st := by
  simp only [rangeK, Nat.beq_refl, cond_true]
  exact ⟨x, hJ, h⟩
theorem rangeK.bx (hne : Nat.beq b b1 = false) (h : Q .normal st) : rangeK E M b b1 J Q (.exit b) st := by
  simp only [rangeK, hne, Nat.beq_refl, cond_true, cond_false]
  exact h
theorem rangeK.e {i : Nat} (h1 : Nat.beq i b1 = false) (h2 : Nat.beq i b = false) (h : Q (.exit i) st) : rangeK E M b b1 J Q (.exit i) st := by
  simp only [rangeK, h1, h2, cond_false]
  exact h
theorem rangeK.r (h : Q .ret st) : rangeK E M b b1 J Q .ret st := h
end
end Go.Proofs.Ytlgadmholjaljaa

/-
  Evaluation of Go code on plain data: operations that may change places. Over any program.
-/
import Derived.Test.YtlgadmholjaljaaEvN2
namespace Go.Proofs.Ytlgadmholjaljaa
open Go.RowKit
/-- the blocks that the operands of an operation name -/
def opRefs (E : Nat → Option AV) (o : Oper) (s g : Nat) : Prop := ∃ x ∈ o.op.operands, ∃ v, rawOf E x = some v ∧ (s, g) ∈ refsOf v
theorem opRefs_rho {E : Nat → Option AV} {o : Oper} {x : Operand} (hx : x ∈ o.op.operands) {v : AV} (hv : rhoOf E x = some v) : ∀ p ∈ refsOf v, opRefs E o p.1 p.2 := by
  intro p hp
  unfold rhoOf at hv
  cases hq : rawOf E x with
  | none => rw [hq] at hv; cases hv
  | some q =>
    rw [hq] at hv
    injection hv with hv
    subst hv
    rw [refsOf_unk] at hp
    exact ⟨x, hx, q, hq, hp⟩
theorem refs1_sub (v : AV) : ∀ p ∈ refs1 v, p ∈ refsOf v := by
  intro p hp
  cases v with
  | agg => simp [refs1] at hp
  | tup => simp [refs1] at hp
  | fn => simp [refs1] at hp
  | _ => exact hp
theorem cells_refs (v : AV) : ∀ p ∈ (cellsOf v).flatMap refs1, p ∈ refsOf v := by
  intro p hp
  have one : p ∈ [v].flatMap refs1 → p ∈ refsOf v := fun h => refs1_sub v p (by simpa using h)
  cases v with
  | agg cs => exact hp
  | _ => exact one hp
theorem retA_fits {R : Nat → Nat → Prop} {Z : Nat → Prop} {x : Option (List AV)} : (retA x).Fits R Z := by cases x <;> trivial
section
variable {T : Nat → TI} {base : Nat} {E : Nat → Option AV} {o : Oper}
theorem opF_fits0 (h : opKind T o.op = 0) {R : Nat → Nat → Prop} {Z : Nat → Prop} : (opF T base E o).Fits R Z := by
  unfold opF
  split
  all_goals rename_i ho
  all_goals try (rw [ho] at h; cases h; done)
  · unfold pickF
    split
    · exact retO_fits
    · exact retO_fits
    · exact ⟨retO_fits, retO_fits⟩
    · trivial
  · unfold buildF
    split
    · exact retA_fits
    · exact retA_fits
    · trivial
  · unfold nilckF
    split <;> trivial
  · show (bif isNilP _ then _ else _ : Step).Fits _ _
    cases isNilP _
    case true =>
      show (nilpF _ _ _).Fits _ _
      unfold nilpF
      split <;> trivial
    show (bif isNilC _ then _ else _ : Step).Fits _ _
    cases isNilC _
    case true =>
      show (nilF _ _ _).Fits _ _
      unfold nilF
      split <;> trivial
    show (bopF _ _ _ _).Fits _ _
    unfold bopF
    split
    · split <;> trivial
    · unfold binF
      split
      · split
        · trivial
        · unfold intF
          split
          · trivial
          · split <;> trivial
      · split <;> trivial
      · split
        · split <;> trivial
        · trivial
      · trivial
    · trivial
  · unfold unF
    split <;> trivial
  · unfold convF
    split <;> trivial
  · unfold mfuncF
    split <;> trivial
  · unfold faddrF
    split
    · split <;> trivial
    · trivial
  · unfold fieldF
    split
    · split
      · exact ldA_fits
      · trivial
    · trivial
  · unfold indexF
    split
    · trivial
    · exact ldA_fits
    · trivial
  · unfold extractF
    split
    · exact retO_fits
    · trivial
  · rename_i x t
    have hm : ∀ a b, (T t).k ≠ .map a b := by
      intro a b e
      rw [ho] at h
      have h : (bif [t].any fun t => (T t).k.isMap then 1 else 0) = 0 := h
      simp [e, TK.isMap] at h
    show (lenF (T t).k (rhoOf E x)).Fits _ _
    generalize (T t).k = k at hm
    unfold lenF
    split
    all_goals first
      | trivial
      | exact absurd rfl (hm _ _)
  · unfold minF
    split <;> trivial
  · unfold maxF
    split <;> trivial
  · exfalso
    rw [ho] at h
    rename_i fv xs ts
    have h : (bif Nat.beq (ownOf T fv) 0 || Nat.beq (ownOf T fv) 7 then 1 else 2) = 0 := h
    cases hb : (Nat.beq (ownOf T fv) 0 || Nat.beq (ownOf T fv) 7) <;> rw [hb] at h <;> cases h
  · trivial
theorem opF_fits1 (h : opKind T o.op = 1) {d : Nat} (hd : o.dst = some d) {R : Nat → Nat → Prop} (hop : ∀ s g, opRefs E o s g → R s g) : (opF T base E o).Fits R (fun s => ∃ k, s = base + d + 65536 * k) := by
  have hz : ∀ k, ∃ k', base + o.dst.getD 0 + 65536 * k = base + d + 65536 * k' := fun k => ⟨k, by rw [hd]; rfl⟩
  have hz0 : ∃ k', base + o.dst.getD 0 = base + d + 65536 * k' := ⟨0, by rw [hd]; rfl⟩
  have mv : ∀ (sz : Nat) (x : Option AV), (mvF (base + o.dst.getD 0) sz x).Fits R (fun s => ∃ k, s = base + d + 65536 * k) := by
    intro sz x
    unfold mvF
    split
    · exact ⟨hz0, fun g => trivial⟩
    · exact retO_fits
  unfold opF
  split
  all_goals rename_i ho
  all_goals try (rw [ho] at h; cases h; done)
  · exact mv _ _
  · exact mv _ _
  · unfold allocF
    cases (T _).known
    · trivial
    · exact boxF_fits hz _
  · unfold boxO
    split
    · exact boxF_fits hz _
    · trivial
  · rename_i t n parts
    split
    · rename_i e z hk
      show (bsliceF (T e) (base + o.dst.getD 0) n (parts.toList.map fun p => (p.1, rhoOf E p.2))).Fits _ _
      unfold bsliceF
      cases ((T e).known && Nat.ble (n * (T e).size) 1000000 && Nat.blt 0 (T e).size)
      · trivial
      · refine buildEs_fits _ _ _ _ _ (fun p hp v hv q hq => ?_) fun es => ⟨hz0, fun g => trivial⟩
        obtain ⟨p', hp', rfl⟩ := List.mem_map.1 hp
        refine hop _ _ (opRefs_rho (x := p'.2) ?_ hv q (cells_refs v q hq))
        rw [ho]
        simp only [Op.operands]
        simp
        exact ⟨p'.1, by simpa using hp'⟩
    · trivial
  · rename_i t x
    show (loadF (T t) (rhoOf E x)).Fits _ _
    have hx : ∀ v, rhoOf E x = some v → ∀ p ∈ refsOf v, R p.1 p.2 := fun v hv p hp => hop _ _ (opRefs_rho (by rw [ho]; simp [Op.operands]) hv p hp)
    unfold loadF
    split
    · exact ldD_fits
    · rename_i s g q hv
      exact ⟨hx _ hv (s, g) (by simp [refsOf, refs1]), fun c _ => ldA_fits⟩
    · rename_i s g i q hv
      exact ⟨hx _ hv (s, g) (by simp [refsOf, refs1]), fun c c' => ldD_fits⟩
    · trivial
  · rename_i t x lo hi
    show (sliceF (T t).k (rhoOf E x) (lo.map (rhoOf E)) (hi.map (rhoOf E))).Fits _ _
    have hx : ∀ v, rhoOf E x = some v → ∀ p ∈ refsOf v, R p.1 p.2 := fun v hv p hp => hop _ _ (opRefs_rho (by rw [ho]; simp [Op.operands]) hv p hp)
    unfold sliceF
    split
    · split <;> trivial
    · split <;> trivial
    · rename_i hv
      split
      · exact ⟨hx _ hv (_, _) (by simp [refsOf, refs1]), trivial⟩
      · trivial
    · rename_i hv
      split
      · exact ⟨hx _ hv (_, _) (by simp [refsOf, refs1]), trivial⟩
      · trivial
    · trivial
  · rename_i t x ix
    show (iaddrF (T t).k (rhoOf E x) (rhoOf E ix)).Fits _ _
    have hx : ∀ v, rhoOf E x = some v → ∀ p ∈ refsOf v, R p.1 p.2 := fun v hv p hp => hop _ _ (opRefs_rho (by rw [ho]; simp [Op.operands]) hv p hp)
    generalize hq : rhoOf E x = c at hx
    unfold iaddrF
    split
    · trivial
    · trivial
    · trivial
    · exact fun c => trivial
    · exact ⟨hx _ rfl (_, _) (by simp [refsOf, refs1]), trivial⟩
    · exact ⟨hx _ rfl (_, _) (by simp [refsOf, refs1]), trivial⟩
    · trivial
  · rename_i x t
    show (lenF (T t).k (rhoOf E x)).Fits _ _
    have hx : ∀ v, rhoOf E x = some v → ∀ p ∈ refsOf v, R p.1 p.2 := fun v hv p hp => hop _ _ (opRefs_rho (by rw [ho]; simp [Op.operands, Call.operands]) hv p hp)
    generalize rhoOf E x = c at hx
    unfold lenF
    split
    all_goals first
      | trivial
      | exact ⟨hx _ rfl (_, _) (by simp [refsOf, refs1]), fun _ _ => trivial⟩
  · show (mkmapF _ _ _).Fits _ _
    unfold mkmapF
    split
    · split
      · exact ⟨hz0, fun g => trivial⟩
      · trivial
    · trivial
  · rename_i t x k ok
    show (lookupF T (T t).k ok (rhoOf E x) (rhoOf E k)).Fits _ _
    have hx : ∀ v, rhoOf E x = some v → ∀ p ∈ refsOf v, R p.1 p.2 := fun v hv p hp => hop _ _ (opRefs_rho (by rw [ho]; simp [Op.operands]) hv p hp)
    generalize hq : rhoOf E x = c at hx
    unfold lookupF
    split
    · split
      · cases ((T _).known && ckHas _ _)
        · trivial
        · refine ⟨hx _ rfl (_, _) (by simp [refsOf, refs1]), fun ck es => ?_⟩
          show (bif ckSame _ ck then Step.ret _ else Step.fail).Fits _ _
          cases ckSame _ ck
          · exact trivial
          · exact trivial
      · trivial
    · split
      · cases ((T _).known && ckHas _ _ && ckSame _ _)
        · trivial
        · trivial
      · trivial
    · trivial
  · rename_i fv xs ts
    rw [ho] at h
    cases hb : Nat.beq (ownOf T fv) 0
    · have h7 : Nat.beq (ownOf T fv) 7 = true := by
        have h : (bif Nat.beq (ownOf T fv) 0 || Nat.beq (ownOf T fv) 7 then 1 else 2) = 1 := h
        rw [hb] at h
        cases hb : Nat.beq (ownOf T fv) 7
        · rw [hb] at h; cases h
        · rfl
      show (ocallF T (base + o.dst.getD 0) fv (xs.toList.map (rhoOf E))).Fits _ _
      cases fv with
      | func f =>
        have h7 : ownF T f = 7 := Nat.eq_of_beq_eq_true h7
        show (bif Nat.beq (ownF T f) 3 then _ else bif Nat.beq (ownF T f) 4 then _ else bif Nat.beq (ownF T f) 7 then _ else _ : Step).Fits _ _
        rw [h7]
        refine objCall_fits hz f _ fun v hv p hp => ?_
        obtain ⟨x, hx, he⟩ := List.mem_map.1 hv
        exact hop _ _ (opRefs_rho (by rw [ho]; simp only [Op.operands, Call.operands]; simp; right; simpa using hx) he p hp)
      | _ => exact trivial
    show (fcallF (base + o.dst.getD 0) (rhoOf E fv) (xs.toList.map (rhoOf E))).Fits _ _
    generalize hfv : rhoOf E fv = c
    unfold fcallF
    split
    · rename_i f cs
      cases hcap : cs.all cap1
      · exact trivial
      simp only [cond_true]
      refine argT_fits _ (fun v hv p hp => ?_) _ fun ys l hl => fun r => ?_
      · rcases List.mem_append.1 hv with hv | hv
        · obtain ⟨x, hx, he⟩ := List.mem_map.1 hv
          exact hop _ _ (opRefs_rho (by rw [ho]; simp only [Op.operands, Call.operands]; simp; right; simpa using hx) he p hp)
        · obtain ⟨x, hx, he⟩ := List.mem_map.1 hv
          injection he with he
          subst he
          refine hop _ _ (opRefs_rho (x := fv) (by rw [ho]; simp only [Op.operands, Call.operands]; simp) hfv p ?_)
          refine List.mem_flatMap.2 ⟨x, hx, ?_⟩
          have := List.all_eq_true.1 hcap x hx
          cases x <;> first | exact hp | cases this
      · show (bif scalar r then _ else _ : Step).Fits _ _
        cases scalar r
        · exact frzL_fits _ _ hl (recv_fits hz _ fun x => trivial)
        · exact recv_fits hz _ fun x => trivial
    · trivial
  · trivial
theorem congr_pairs {E E' : Nat → Option AV} (parts : Array (Nat × Operand)) (h : ∀ x ∈ (parts.toList.map (·.2)), rhoOf E x = rhoOf E' x) : (parts.toList.map fun p => (p.1, rhoOf E p.2)) = (parts.toList.map fun p => (p.1, rhoOf E' p.2)) :=
  List.map_congr_left fun p hp => by rw [h p.2 (List.mem_map.2 ⟨p, hp, rfl⟩)]
/-- an operation looks at its operands alone -/
theorem opF_congr {E E' : Nat → Option AV} (h : ∀ x ∈ o.op.operands, rawOf E x = rawOf E' x) : opF T base E o = opF T base E' o := by
  have hr : ∀ x ∈ o.op.operands, rhoOf E x = rhoOf E' x := fun x hx => by unfold rhoOf; rw [h x hx]
  unfold opF
  split
  all_goals rename_i ho
  all_goals try rw [ho] at h hr
  all_goals try simp only [Op.operands] at h hr
  · rw [h _ (by simp)]
  · rw [h _ (by simp)]
  · rename_i c x y
    rw [h c (by simp), h x (by simp), h y (by simp)]
  · rw [hr _ (by simp)]
  · rw [congr_pairs _ fun x hx => hr x (by simpa using hx)]
  · rw [congr_pairs _ fun x hx => hr x (by simpa using hx)]
  · rw [hr _ (by simp)]
  · rename_i x y
    rw [hr x (by simp), hr y (by simp)]
  · rw [hr _ (by simp)]
  · rename_i x y _
    rw [hr x (by simp), hr y (by simp)]
  · rw [hr _ (by simp)]
  · rw [hr _ (by simp)]
  · rename_i f first cap
    have e1 : first.toList.map (rhoOf E) = first.toList.map (rhoOf E') := List.map_congr_left fun x hx => hr x (by simp; left; simpa using hx)
    have e2 : ∀ (l : List Operand), (∀ x ∈ l, rhoOf E x = rhoOf E' x) → l.mapM (rhoOf E) = l.mapM (rhoOf E') := by
      intro l
      induction l with
      | nil => intro _; rfl
      | cons x l ih =>
        intro hl
        rw [List.mapM_cons, List.mapM_cons, hl x (by simp), ih fun y hy => hl y (by simp [hy])]
    rw [e1, e2 _ fun x hx => hr x (by simp; right; simpa using hx)]
  · rename_i t x lo hi
    have e1 : lo.map (rhoOf E) = lo.map (rhoOf E') := by
      cases lo with
      | none => rfl
      | some l => simp only [Option.map_some]; rw [hr l (by simp)]
    have e2 : hi.map (rhoOf E) = hi.map (rhoOf E') := by
      cases hi with
      | none => rfl
      | some l => simp only [Option.map_some]; rw [hr l (by simp)]
    rw [hr x (by simp), e1, e2]
  · rw [hr _ (by simp)]
  · rw [hr _ (by simp)]
  · rename_i x y
    rw [hr x (by simp), hr y (by simp)]
  · rename_i x y
    rw [hr x (by simp), hr y (by simp)]
  · rw [hr _ (by simp)]
  · rw [hr _ (by simp [Call.operands])]
  · rename_i x y t t'
    rw [hr x (by simp [Call.operands]), hr y (by simp [Call.operands])]
  · rename_i x y t t'
    rw [hr x (by simp [Call.operands]), hr y (by simp [Call.operands])]
  · rename_i x t
    rw [hr x (by simp [Call.operands])]
  · rename_i t x y
    rw [hr x (by simp), hr y (by simp)]
  · rename_i t x k ok
    rw [hr x (by simp), hr k (by simp)]
  · rename_i t x k y
    rw [hr x (by simp), hr k (by simp), hr y (by simp)]
  · rename_i t x k y
    rw [hr x (by simp), hr k (by simp), hr y (by simp)]
  · rename_i x k t t'
    rw [hr x (by simp [Call.operands]), hr k (by simp [Call.operands])]
  · rename_i x y _
    rw [hr x (by simp [Call.operands]), hr y (by simp [Call.operands])]
  · rename_i x y _
    rw [hr x (by simp [Call.operands]), hr y (by simp [Call.operands])]
  · rename_i fv xs ts
    have e1 : xs.toList.map (rhoOf E) = xs.toList.map (rhoOf E') := List.map_congr_left fun x hx => hr x (by simp [Call.operands]; right; simpa using hx)
    rw [hr fv (by simp [Call.operands]), e1]
  · rfl
end
end Go.Proofs.Ytlgadmholjaljaa

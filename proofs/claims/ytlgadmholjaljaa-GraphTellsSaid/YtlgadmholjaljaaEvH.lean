/-
  Evaluation of Go code on plain data: operations on aggregates and memory. Over any program.
-/
import Derived.Test.YtlgadmholjaljaaEvG
namespace Go.Proofs.Ytlgadmholjaljaa
open Go.RowKit

theorem over_nil {α : Type} (cs : List α) (o : Nat) : over cs o [] = cs := by simp [over]
theorem over_get {α : Type} (cs : List α) (o : Nat) (vs : List α) (h : o + vs.length ≤ cs.length) (i : Nat) : (over cs o vs)[i]? = if i < o then cs[i]? else if i < o + vs.length then vs[i - o]? else cs[i]? := by
  unfold over
  rw [List.getElem?_append, List.getElem?_append]
  simp only [List.length_append, List.length_take]
  have e : min o cs.length = o := by omega
  rw [e]
  by_cases h1 : i < o
  · rw [if_pos (by omega), if_pos h1, if_pos h1, List.getElem?_take_of_lt h1]
  · by_cases h2 : i < o + vs.length
    · rw [if_pos h2, if_neg h1, if_neg h1, if_pos h2]
    · rw [if_neg h2, if_neg h1, if_neg h2, List.getElem?_drop]
      congr 1
      omega
theorem over_cons {α : Type} (cs : List α) (o : Nat) (v : α) (vs : List α) (h : o + (vs.length + 1) ≤ cs.length) : over (cs.set o v) (o + 1) vs = over cs o (v :: vs) := by
  apply List.ext_getElem?
  intro i
  rw [over_get _ _ _ (by simp; omega), over_get _ _ _ (by simpa using h), List.getElem?_set, List.length_cons]
  by_cases h1 : i < o
  · rw [if_pos (by omega), if_pos h1, if_neg (by omega)]
  · by_cases h2 : i = o
    · subst h2
      rw [if_pos (by omega), if_pos rfl, if_pos (by omega), if_neg (by omega), if_pos (by omega)]
      simp
    · rw [if_neg (by omega), if_neg h1]
      by_cases h3 : i < o + 1 + vs.length
      · rw [if_pos h3, if_pos (by omega)]
        obtain ⟨k, hk⟩ : ∃ k, i - o = k + 1 := ⟨i - o - 1, by omega⟩
        rw [hk, List.getElem?_cons_succ]
        congr 1
        omega
      · rw [if_neg h3, if_neg (by omega), if_neg (by omega)]
theorem over_length {α : Type} (cs : List α) (o : Nat) (vs : List α) (h : o + vs.length ≤ cs.length) : (over cs o vs).length = cs.length := by
  unfold over
  simp
  omega
theorem fold_over (off : Nat) : ∀ (vs : List Value) (k : Nat) (cells : Array Value), off + k + vs.length ≤ cells.size →
    ((vs.zipIdx k).foldl (fun cs (p : Value × Nat) => cs.setIfInBounds (off + p.2) p.1) cells).toList = over cells.toList (off + k) vs
  | [], k, cells, _ => by simp [over_nil]
  | v :: vs, k, cells, h => by
    rw [List.zipIdx_cons, List.foldl_cons, fold_over off vs (k + 1) _ (by simp at h ⊢; omega), Array.toList_setIfInBounds]
    rw [← Nat.add_assoc]
    exact over_cons _ _ _ _ (by simp at h ⊢; omega)
theorem fill_step (place : Nat → Option (Nat × Nat)) (cells : Array Value) (i : Nat) (x : Value) (r : List (Nat × Value)) {off n : Nat} (hp : place i = some (off, n)) (hn : x.cells.size = n) (hl : off + n ≤ cells.size) :
    Instr.fill place cells ((i, x) :: r) = Instr.fill place (over cells.toList off x.cells.toList).toArray r := by
  rw [Instr.fill, hp]
  have h1 : (decide (x.cells.size ≠ n) || decide (off + x.cells.size > cells.size)) = false := by simp [hn]; omega
  simp only [h1, Bool.false_eq_true, if_false]
  congr 1
  apply Array.ext'
  have := fold_over off x.cells.toList 0 cells (by simp [hn]; omega)
  simp only [Nat.add_zero] at this
  rw [List.toList_toArray, ← this, ← Array.foldl_toList]
  simp
section
variable {P : Program} {T : Nat → TI} {F : FuncId → List AV → AV → Prop} {w0 : Start} {A : Nat → Prop} {o : Oper} {a : Act} {κ : Cx} {m m' : Mem} {v : AV} {Q : Exit → Act → World → Prop} {env : Nat → Option AV}
theorem fillA_sim (he : EnvOk κ env a.tmps) (place : Nat → Option (Nat × Nat)) : ∀ (parts : List (Nat × Operand)) (cs : List AV) (vs : Array Value) (r : List AV), RelL κ cs vs.toList →
    fillA place cs (parts.map fun p => (p.1, rhoOf env p.2)) = some r → ∃ us, Instr.fill place vs (parts.map fun p => (p.1, a.eval p.2)) = some us ∧ RelL κ r us.toList
  | [], cs, vs, r, hr, h => by
    simp only [List.map_nil, fillA] at h
    injection h with h
    subst h
    exact ⟨vs, rfl, hr⟩
  | (i, x) :: parts, cs, vs, r, hr, h => by
    simp only [List.map_cons] at h ⊢
    cases hx : rhoOf env x with
    | none => rw [hx] at h; simp [fillA] at h
    | some c =>
      rw [hx] at h
      simp only [fillA] at h
      split at h
      · rename_i off n hp
        cases hb : (Nat.beq (cellsOf c).length n && Nat.ble (off + n) cs.length && (cellsOf c).all isOne)
        · rw [hb] at h; cases h
        · rw [hb] at h
          simp only [Bool.and_eq_true] at hb
          obtain ⟨⟨h1, h2⟩, h3⟩ := hb
          have h1 := Nat.eq_of_beq_eq_true h1
          have h2 := Nat.le_of_ble_eq_true h2
          obtain ⟨hc, _⟩ := (ev_rel he hx).cells h3
          have hl := hc.1
          have hl2 := hr.1
          rw [fill_step place vs i (a.eval x) _ hp (by rw [← h1]; simpa using hl) (by rw [← hl2] at h2; simpa using h2)]
          rw [overF_eq _ _ _ (by omega)] at h
          exact fillA_sim he place parts _ _ r (by simpa using hr.over hc off) h
      · cases h
theorem sim_build (hT : TOk P T) (hs : Sim w0 A m κ) (he : EnvOk κ env a.tmps) {t : Nat} {parts : Array (Nat × Operand)} (ho : o.op = .build t parts) (h : (buildF (T t) (parts.toList.map fun p => (p.1, rhoOf env p.2))).Runs F m v m') :
    o.wp P a κ.w (fun a' w' => After w0 A κ o v m' a a' w') Q := by
  unfold buildF at h
  have hzr : ∀ (ht : TOk1 P t (T t)), (T t).agg = true → RelL κ (cellsOf (unk (ofConst (T t).zero))) (T t).zero.cells.toList := by
    intro ht _
    have hr := (ofConst_rel κ _ ht.zok).unk
    have hone : (cellsOf (unk (ofConst (T t).zero))).all isOne = true := by
      have hzk := ht.zok
      have one : ∀ x : Value, isOne (unk1 (const1 x)) = true := by
        intro x
        simp only [const1]
        split <;> rfl
      cases hz : (T t).zero with
      | agg cs =>
        simp only [ofConst, unk, cellsOf, List.map_map, List.all_map]
        rw [List.all_eq_true]
        intro x hx
        exact one x
      | tuple => rw [hz] at hzk; cases hzk
      | slice b n c =>
        simp only [ofConst, const1]
        split <;> simp [cellsOf, isOne, unk, unk1]
      | _ => rfl
    exact (hr.cells hone).1
  have fin : ∀ (cells : Array Value) (r : List AV), P.built t (parts.map fun p => (p.1, a.eval p.2)).toList = some cells → RelL κ r cells.toList → v = .agg r → m' = m → o.wp P a κ.w (fun a' w' => After w0 A κ o v m' a a' w') Q := by
    intro cells r hb hr e1 e2
    subst e1 e2
    have hrun : (execOp a.eval o).run P κ.w = .ok (.value (.agg cells)) κ.w := by
      unfold execOp
      rw [ho]
      simp only [Sem.run_bind, run_build κ.w t _ cells hb, Result.andThen_ok]
      rfl
    refine wp_val hrun (After.pure_ hs ?_)
    have := Rel.agg_mk hr
    simpa using this
  have eparts : (parts.map fun p => (p.1, a.eval p.2)).toList = parts.toList.map fun p => (p.1, a.eval p.2) := by simp
  split at h
  · rename_i fs hk
    have ht := hT.of hk (by simp)
    obtain ⟨i, hi, hsz, _, hz⟩ := ht.info
    obtain ⟨d, hu, hd, hko⟩ := ht.und
    rw [hk] at hko
    obtain ⟨fields, rfl, hf, hfs⟩ := hko
    cases hfill : fillA (fun i => (fs[i]?).map fun f => (f.1, f.2.2)) (cellsOf (unk (ofConst (T t).zero))) (parts.toList.map fun p => (p.1, rhoOf env p.2)) with
    | none => rw [hfill] at h; cases h
    | some r =>
      rw [hfill] at h
      cases h with
      | ret =>
        obtain ⟨us, hus, hr⟩ := fillA_sim he _ parts.toList _ (T t).zero.cells r (hzr ht (by rw [← hd])) hfill
        refine fin us r ?_ hr rfl rfl
        have hp : ∀ (fl : List Field) (gs : List (Nat × Nat × Nat)), fl.map (fun f => (f.offset, f.type)) = gs.map (fun x => (x.1, x.2.1)) → (∀ x ∈ gs, SizeIs P x.2.1 x.2.2) →
            fl.mapM (fun f => (P.info? f.type).map fun i => (f.offset, i.size)) = some (gs.map fun x => (x.1, x.2.2)) := by
          intro fl
          induction fl with
          | nil =>
            intro gs hg _
            cases gs with
            | nil => rfl
            | cons => simp at hg
          | cons f fl ih =>
            intro gs hg hsz
            cases gs with
            | nil => simp at hg
            | cons g gs =>
              simp only [List.map_cons, List.cons.injEq, Prod.mk.injEq] at hg
              obtain ⟨⟨q1, q2⟩, q3⟩ := hg
              have hs := hsz g (by simp)
              unfold SizeIs at hs
              cases hq : P.info? g.2.1 with
              | none => simp [hq] at hs
              | some i =>
                have hs' : i.size = g.2.2 := by simpa [hq] using hs
                rw [List.mapM_cons, ih gs q3 (fun x hx => hsz x (by simp [hx])), q2, hq]
                simp [q1, hs']
        unfold Program.built
        rw [hi, hu]
        simp only [hz, hp fields.toList fs hf hfs]
        rw [eparts, ← hus]
        congr 1
        funext x
        simp
  · rename_i n e z hk
    have ht := hT.of hk (by simp)
    obtain ⟨i, hi, hsz, _, hz⟩ := ht.info
    obtain ⟨d, hu, hd, hko⟩ := ht.und
    rw [hk] at hko
    obtain ⟨rfl, hes⟩ := hko
    cases hfill : fillA (fun i => some (i * z, z)) (cellsOf (unk (ofConst (T t).zero))) (parts.toList.map fun p => (p.1, rhoOf env p.2)) with
    | none => rw [hfill] at h; cases h
    | some r =>
      rw [hfill] at h
      cases h with
      | ret =>
        obtain ⟨us, hus, hr⟩ := fillA_sim he _ parts.toList _ (T t).zero.cells r (hzr ht (by rw [← hd])) hfill
        refine fin us r ?_ hr rfl rfl
        unfold SizeIs at hes
        cases hq : P.info? e with
        | none => simp [hq] at hes
        | some ie =>
          have hs' : ie.size = z := by simpa [hq] using hes
          unfold Program.built
          rw [hi, hu]
          simp only [hz, hq, hs']
          rw [eparts]
          exact hus
  · cases h
end
end Go.Proofs.Ytlgadmholjaljaa

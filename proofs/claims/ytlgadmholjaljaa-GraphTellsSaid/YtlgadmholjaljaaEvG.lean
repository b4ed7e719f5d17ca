/-
  Evaluation of Go code on plain data: each operation does in the model what the evaluation says. Over any program.
-/
import Derived.Test.YtlgadmholjaljaaEvE
import Derived.Deep.MidRow
import Derived.Deep.Slices
namespace Go.Proofs.Ytlgadmholjaljaa
open Go.RowKit

def SizeIs (P : Program) (t n : Nat) : Prop := (P.info? t).map (·.size) = some n
def KOk (P : Program) : TK → TypeDesc → Prop
  | .int k, d => d = .int k
  | .bool, d => d = .bool
  | .str, d => d = .string
  | .slice e sz, d => d = .slice e ∧ SizeIs P e sz
  | .array n e sz, d => d = .array n e ∧ SizeIs P e sz
  | .struct fs, d => ∃ fields, d = .struct fields ∧ fields.toList.map (fun f => (f.offset, f.type)) = fs.map (fun x => (x.1, x.2.1)) ∧ ∀ x ∈ fs, SizeIs P x.2.1 x.2.2
  | .map kt et, d => d = .map kt et
  | .ptr, d => ∃ e, d = .pointer e
  | .other, _ => True
  | .none_, _ => True
structure TOk1 (P : Program) (t : Nat) (ti : TI) : Prop where
  info : ∃ i, P.info? t = some i ∧ i.size = ti.size ∧ i.bytes = ti.bytes ∧ i.zero = some ti.zero
  und : ∃ d, P.underlying t = some d ∧ d.isRow = ti.agg ∧ KOk P ti.k d
  zok : okConst ti.zero = true
  zsz : ti.zero.cells.size = ti.size
  eq : ti.eqs = true → ∀ (w : World) (xs ys : Array Value) (cs ds : List AV) (b : Bool) (x y : Operand) (κ : Cx), RelL κ cs xs.toList → RelL κ ds ys.toList → eqCells ti.ek cs ds = some b →
    (eqGuard .eql t x y (.agg xs) (.agg ys)).run P w = .ok () w ∧ (eqGuard .neq t x y (.agg xs) (.agg ys)).run P w = .ok () w ∧ (Op.equal t (.agg xs) (.agg ys)).run P w = .ok b w
/-- the table of types is that of the program -/
def TOk (P : Program) (T : Nat → TI) : Prop := ∀ t, (T t).known = true → TOk1 P t (T t)
theorem TOk.of {P : Program} {T : Nat → TI} (h : TOk P T) {t : Nat} {k : TK} (hk : (T t).k = k) (hn : k ≠ .none_) : TOk1 P t (T t) := h t (by
  unfold TI.known
  rw [hk]
  cases k <;> first | rfl | exact absurd rfl hn)
theorem TOk.kok {P : Program} {T : Nat → TI} (h : TOk P T) {t : Nat} {k : TK} (hk : (T t).k = k) (hn : k ≠ .none_) : ∃ d, P.underlying t = some d ∧ KOk P k d := by
  obtain ⟨d, h1, _, h2⟩ := (h.of hk hn).und
  rw [hk] at h2
  exact ⟨d, h1, h2⟩

section
variable {P : Program} {o : Oper} {a : Act} {w w' : World} {K : Act → World → Prop} {Q : Exit → Act → World → Prop}
theorem wp_val {x : Value} (h : (execOp a.eval o).run P w = .ok (.value x) w') (hk : K (a.put o.dst x) w') : o.wp P a w K Q := by
  unfold Oper.wp
  rw [h]
  exact hk
theorem wp_skp (h : (execOp a.eval o).run P w = .ok .skip w') (hk : K (a.put o.dst undef) w') : o.wp P a w K Q := by
  unfold Oper.wp
  rw [h]
  exact hk
theorem run_load_one {t : TypeId} {d : TypeDesc} (hu : P.underlying t = some d) (hd : d.isRow = false) {b q : Nat} {v : Value} (hc : w.cell? ⟨b, q, none⟩ = some v) :
    (Instr.loadAt t (.pointer (some ⟨b, q, none⟩))).run P w = .ok v w := by
  have hagg : (isAgg t).run P w = .ok false w := by
    unfold isAgg
    rw [Sem.run_bind, run_underlying hu w]
    cases d <;> simp_all
  simp [Instr.loadAt, Instr.sureAddr, loadVar, hagg, hc]
theorem run_part {t : TypeId} {d : TypeDesc} (hu : P.underlying t = some d) {n : Nat} (hn : SizeIs P t n) (cs : Array Value) (off : Nat) :
    (part t cs off).run P w = if d.isRow then .ok (.agg (cs.extract off (off + n))) w else (match cs[off]? with | some v => .ok v w | none => .halt (.stuck "part: no such cell") w) := by
  have hagg : (isAgg t).run P w = .ok d.isRow w := by
    unfold isAgg
    rw [Sem.run_bind, run_underlying hu w]
    cases d <;> simp_all
  unfold SizeIs at hn
  cases hq : P.info? t with
  | none => simp [hq] at hn
  | some i =>
    have hs : i.size = n := by simpa [hq] using hn
    cases hr : d.isRow
    · simp [part, hagg, hr]
      cases cs[off]? <;> simp [stuck]
    · simp [part, hagg, hr, sizeOf, typeInfo, hq, hs]
end
theorem const1_rel (κ : Cx) (x : Value) (h : x.oneCell' = true) : Rel κ (const1 x) x := by
  unfold const1
  split
  · exact .nl none
  · exact .kb _
  · exact .d (.v _ h)
theorem ofConst_rel (κ : Cx) (x : Value) (h : okConst x = true) : Rel κ (ofConst x) x := by
  have hk := const1_rel κ x
  cases x with
  | agg cs =>
    simp only [okConst] at h
    refine .agg (by simp) fun j c v hc hv => ?_
    rw [List.getElem?_map] at hc
    have hv' : cs.toList[j]? = some v := by simpa using hv
    rw [hv'] at hc
    injection hc with hc
    subst hc
    exact const1_rel κ v (List.all_eq_true.1 h v (List.mem_of_getElem? hv'))
  | tuple => cases h
  | _ => exact hk h
theorem raw_rel {κ : Cx} {env : Nat → Option AV} {a : Act} (h : EnvOk κ env a.tmps) {x : Operand} {c : AV} (hx : rawOf env x = some c) : Rel κ c (a.eval x) := by
  cases x with
  | tmp t =>
    obtain ⟨y, hy, hr⟩ := h t c hx
    have : a.eval (.tmp t) = y := by
      show a.tmps.getD t undef = y
      rw [Array.getD_eq_getD_getElem?, hy]
      rfl
    rw [this]
    exact hr
  | const y =>
    simp only [rawOf] at hx
    cases hk : okConst y
    · simp [hk] at hx
    · simp [hk] at hx
      subst hx
      exact ofConst_rel κ y hk
  | func f =>
    simp only [rawOf] at hx
    injection hx with hx
    subst hx
    exact .fn rfl fun j c v hc => by simp at hc
  | global g => simp [rawOf] at hx
theorem ev_rel {κ : Cx} {env : Nat → Option AV} {a : Act} (h : EnvOk κ env a.tmps) {x : Operand} {c : AV} (hx : rhoOf env x = some c) : Rel κ c (a.eval x) := by
  unfold rhoOf at hx
  cases hq : rawOf env x with
  | none => rw [hq] at hx; cases hx
  | some q =>
    rw [hq] at hx
    injection hx with hx
    subst hx
    exact (raw_rel h hq).unk

/-- what an operation leaves -/
def After (w0 : Start) (A : Nat → Prop) (κ : Cx) (o : Oper) (v : AV) (m' : Mem) (a a' : Act) (w' : World) : Prop := ∃ κ', κ'.w = w' ∧ Sim w0 A m' κ' ∧ κ.Le κ' ∧ ∃ x, a' = a.put o.dst x ∧ Rel κ' v x
section
variable {P : Program} {T : Nat → TI} {F : FuncId → List AV → AV → Prop} {w0 : Start} {A : Nat → Prop} {o : Oper} {a : Act} {κ : Cx} {m m' : Mem} {v : AV} {Q : Exit → Act → World → Prop}
/-- nothing but a value -/
theorem After.pure_ (hs : Sim w0 A m κ) {x : Value} (hx : Rel κ v x) : After w0 A κ o v m a (a.put o.dst x) κ.w := ⟨κ, rfl, hs, .refl κ, x, rfl, hx⟩
theorem ldA_runs (hT : TOk P T) {t b q : Nat} {cs : List AV} {vs : List Value} (hr : RelL κ cs vs) (hw : κ.w.rangeAt b q vs) (h : (ldA (T t) cs).Runs F m v m') :
    ∃ x, (Instr.loadAt t (.pointer (some ⟨b, q, none⟩))).run P κ.w = .ok x κ.w ∧ Rel κ v x ∧ m' = m := by
  unfold ldA at h
  cases hk : (T t).known
  · simp only [hk, Bool.not_false, cond_true] at h
    cases h
  · simp only [hk, Bool.not_true, cond_false] at h
    have ht := hT t hk
    obtain ⟨i, hi, hsz, _, _⟩ := ht.info
    obtain ⟨d, hu, hd, _⟩ := ht.und
    cases hg : (T t).agg
    · simp only [hg, cond_false] at h
      cases cs with
      | nil => cases h
      | cons c cs =>
        cases h with
        | ret =>
          obtain ⟨x, vs', rfl, hx, _⟩ := hr.cons_inv
          exact ⟨x, run_load_one hu (by rw [hd, hg]) (hw 0 x rfl), hx, rfl⟩
    · simp only [hg, cond_true] at h
      cases hl : Nat.ble (T t).size cs.length
      · simp only [hl, cond_false] at h
        cases h
      · simp only [hl, cond_true] at h
        cases h with
        | ret =>
          have hl' : (T t).size ≤ cs.length := Nat.le_of_ble_eq_true hl
          refine ⟨.agg (vs.take (T t).size).toArray, run_loadAt_mid _ b q t _ d (fun j u hu' => hw j u ?_) hu (by rw [hd, hg]) (by simp [hi, hsz, hr.1]; omega), .agg_mk (hr.take _), rfl⟩
          rw [List.getElem?_take] at hu'
          split at hu'
          · exact hu'
          · cases hu'
theorem ldA_part (hT : TOk P T) {t off : Nat} {cs : List AV} {vs : Array Value} (hr : RelL κ cs vs.toList) (h : (ldA (T t) (cs.drop off)).Runs F m v m') :
    ∃ x, (part t vs off).run P κ.w = .ok x κ.w ∧ Rel κ v x ∧ m' = m := by
  unfold ldA at h
  cases hk : (T t).known
  · simp only [hk, Bool.not_false, cond_true] at h
    cases h
  · simp only [hk, Bool.not_true, cond_false] at h
    have ht := hT t hk
    obtain ⟨i, hi, hsz, _, _⟩ := ht.info
    obtain ⟨d, hu, hd, _⟩ := ht.und
    have hrun := run_part (P := P) (w := κ.w) hu (n := (T t).size) (by simp [SizeIs, hi, hsz]) vs off
    rw [hd] at hrun
    cases hg : (T t).agg
    · simp only [hg, cond_false] at h
      rw [hg] at hrun
      have hr' := hr.drop off
      generalize hcs : cs.drop off = cs' at h hr'
      cases cs' with
      | nil => cases h
      | cons c cs' =>
        cases h with
        | ret =>
          obtain ⟨x, vs', hvs, hx, _⟩ := hr'.cons_inv
          have : vs[off]? = some x := by
            have := congrArg (·[0]?) hvs
            simpa using this
          rw [this] at hrun
          exact ⟨x, hrun, hx, rfl⟩
    · simp only [hg, cond_true] at h
      cases hl : Nat.ble (T t).size (cs.drop off).length
      · simp only [hl, cond_false] at h
        cases h
      · simp only [hl, cond_true] at h
        cases h with
        | ret =>
          rw [hg] at hrun
          refine ⟨_, hrun, ?_, rfl⟩
          have := Rel.agg_mk ((hr.drop off).take (T t).size)
          have e : (vs.extract off (off + (T t).size)) = ((vs.toList.drop off).take (T t).size).toArray := by
            apply Array.ext'
            simp [Array.toList_extract]
          rw [e]
          exact this
theorem relL_of_data {cs : List D} {vs : List Value} (hl : vs.length = cs.length) (h : ∀ (j : Nat) (x : D) (u : Value), cs[j]? = some x → vs[j]? = some u → RelD κ.S κ.w x u) : RelL κ (cs.map dv) vs :=
  ⟨by simp [hl], fun j c u hc hu => by
    rw [List.getElem?_map] at hc
    cases hx : cs[j]? with
    | none => simp [hx] at hc
    | some x =>
      simp [hx] at hc
      subst hc
      exact .ofD (h j x u hx hu)⟩
theorem ldD_eq (t : TI) (cs : List D) : ldD t cs = ldA t (cs.map dv) := by
  unfold ldD ldA
  cases t.known
  · rfl
  · simp only [Bool.not_true, cond_false]
    cases t.agg
    · simp only [cond_false]
      cases cs <;> rfl
    · simp [List.map_take]
variable {env : Nat → Option AV}
theorem sim_move (hs : Sim w0 A m κ) (he : EnvOk κ env a.tmps) {s sz : Nat} {x : Operand} (hrun : (execOp a.eval o).run P κ.w = .ok (.value (a.eval x)) κ.w) (h : (mvF s sz (rawOf env x)).Runs F m v m') :
    o.wp P a κ.w (fun a' w' => After w0 A κ o v m' a a' w') Q := by
  refine wp_val hrun ?_
  cases hx : rawOf env x with
  | none => rw [hx] at h; cases h
  | some c =>
    have hr := raw_rel he hx
    rw [hx] at h
    by_cases hc : c = .nl
    · subst hc
      cases h with
      | new h =>
        cases h with
        | ret =>
          generalize a.eval x = y at hr
          cases hr with
          | nl A' =>
            obtain ⟨hs1, hle⟩ := hs.add (BelowD.refl _ _) s (.rows sz [] false) ⟨none, 0, 0, 0⟩ (fun b hb => by cases hb) rfl (fun _ => ⟨rfl, fun e he => by simp at he, Or.inl ⟨rfl, rfl⟩⟩)
            refine ⟨κ.put s ⟨none, 0, 0, 0⟩ κ.w, rfl, hs1, hle, _, rfl, ?_⟩
            rw [← hs.gn]
            exact .row0 A' (by rw [Cx.put_gn]; exact Nat.le_refl _) (by rw [Cx.put_new]) (by rw [Cx.put_new])
    · have e : mvF s sz (some c) = .ret c := by cases c <;> first | rfl | exact absurd rfl hc
      rw [e] at h
      cases h with
      | ret => exact After.pure_ hs hr
theorem retO_runs {x : Option AV} (h : (retO x).Runs F m v m') : x = some v ∧ m' = m := by
  cases x with
  | none => cases h
  | some c => cases h with | ret => exact ⟨rfl, rfl⟩
theorem Rel.val {κ : Cx} {x u : Value} (h : Rel κ (.d (.v x)) u) : u = x := by
  cases h with
  | d h => cases h with | v => rfl
theorem pickF_inv {c x y : Option AV} (h : (pickF c x y).Runs F m v m') : ∃ t, (c = some (.d (.v (.bool t))) ∨ c = some (.kb t)) ∧ (bif t then retO x else retO y).Runs F m v m' := by
  unfold pickF at h
  split at h
  · exact ⟨true, Or.inr rfl, h⟩
  · exact ⟨false, Or.inr rfl, h⟩
  · cases h with
    | br h => exact ⟨_, Or.inl rfl, h⟩
  · cases h
theorem Rel.boolv {κ : Cx} {c : Option AV} {t : Bool} {u : Value} {d : AV} (hd : c = some d) (hc : c = some (.d (.v (.bool t))) ∨ c = some (.kb t)) (h : Rel κ d u) : u = .bool t := by
  subst hd
  rcases hc with hc | hc
  · injection hc with hc; subst hc; exact h.val
  · injection hc with hc; subst hc; cases h with | kb => rfl
theorem sim_pick (hs : Sim w0 A m κ) (he : EnvOk κ env a.tmps) {c x y : Operand} (ho : o.op = .pick c x y) (h : (pickF (rawOf env c) (rawOf env x) (rawOf env y)).Runs F m v m') :
    o.wp P a κ.w (fun a' w' => After w0 A κ o v m' a a' w') Q := by
  obtain ⟨t, hc, h⟩ := pickF_inv h
  obtain ⟨d, hd⟩ : ∃ d, rawOf env c = some d := by rcases hc with hc | hc <;> exact ⟨_, hc⟩
  have hb := Rel.boolv hd hc (raw_rel he hd)
  have hrun : (execOp a.eval o).run P κ.w = .ok (.value (if t then a.eval x else a.eval y)) κ.w := by
    unfold execOp
    rw [ho]
    simp [hb, asBool]
  refine wp_val hrun ?_
  cases t
  · obtain ⟨h1, rfl⟩ := retO_runs h
    exact After.pure_ hs (raw_rel he h1)
  · obtain ⟨h1, rfl⟩ := retO_runs h
    exact After.pure_ hs (raw_rel he h1)
theorem run_newVar (t : TypeId) (x : Value) (w : World) : (newVar t x).run P w = .ok ⟨w.heap.size, 0, none⟩ (w.alloc (.cells x.cells t)) := by
  rfl
/-- a new variable -/
theorem boxF_runs (hs : Sim w0 A m κ) {ti : TI} {s t : Nat} {c : AV} {x : Value} (hx : Rel κ c x) (h : (boxF ti s c).Runs F m v m') :
    After w0 A κ o v m' a (a.put o.dst (.pointer (some ⟨κ.w.heap.size, 0, none⟩))) (κ.w.alloc (.cells x.cells t)) := by
  unfold boxF at h
  cases h1 : (cellsOf c).all isOne
  · rw [h1] at h; cases h
  · rw [h1] at h
    obtain ⟨hr, hone⟩ := hx.cells h1
    obtain ⟨m1, κ1, cs1, g1, g2, g3, g4, g5⟩ := settle_runs s ti.cz (cellsOf c) 0 _ m κ x.cells.toList v m' hs hr h
    cases g5 with
    | new g5 =>
      cases g5 with
      | ret =>
        have hz : κ1.w.heap.size = κ.w.heap.size := by rw [g3]
        obtain ⟨hs1, hle⟩ := g1.add (belowD_alloc κ1.w (.cells x.cells t)) s (.box cs1) ⟨some κ1.w.heap.size, 0, 0, 0⟩ (fun b hb => by injection hb with hb; subst hb; exact g1.fresh (Nat.le_refl _) (by simp)) rfl
          (fun hle => ⟨κ1.w.heap.size, t, x.cells, rfl, heap_alloc_new _ _, by simpa using g4.1, fun j c u hc hu => ⟨(g4.2 j c u hc (by simpa using hu)).mono hle, hone u (by rw [Array.mem_toList_iff]; exact Array.mem_of_getElem? hu)⟩⟩)
        refine ⟨_, by show κ1.w.alloc _ = _; rw [g3], hs1, g2.trans hle, _, rfl, ?_⟩
        rw [← g1.gn, ← hz]
        exact .lp (by rw [Cx.put_gn]; exact Nat.le_refl _) (by rw [Cx.put_new])
theorem sim_alloc (hT : TOk P T) (hs : Sim w0 A m κ) {e s : Nat} (ho : o.op = .alloc e) (h : (allocF (T e) s).Runs F m v m') : o.wp P a κ.w (fun a' w' => After w0 A κ o v m' a a' w') Q := by
  unfold allocF at h
  cases hk : (T e).known
  · rw [hk] at h; cases h
  · rw [hk] at h
    have ht := hT e hk
    obtain ⟨i, hi, _, _, hz⟩ := ht.info
    have hrun : (execOp a.eval o).run P κ.w = .ok (.value (.pointer (some ⟨κ.w.heap.size, 0, none⟩))) (κ.w.alloc (.cells (T e).zero.cells e)) := by
      unfold execOp
      rw [ho]
      simp [Instr.alloc, zeroValue, typeInfo, hi, hz, run_newVar]
    exact wp_val hrun (boxF_runs hs (ofConst_rel κ _ ht.zok).unk h)
theorem sim_box (hs : Sim w0 A m κ) (he : EnvOk κ env a.tmps) {ti : TI} {e s : Nat} {x : Operand} (ho : o.op = .box e x) (h : (boxO ti s (rhoOf env x)).Runs F m v m') : o.wp P a κ.w (fun a' w' => After w0 A κ o v m' a a' w') Q := by
  cases hx : rhoOf env x with
  | none => rw [hx] at h; cases h
  | some c =>
    rw [hx] at h
    have hrun : (execOp a.eval o).run P κ.w = .ok (.value (.pointer (some ⟨κ.w.heap.size, 0, none⟩))) (κ.w.alloc (.cells (a.eval x).cells e)) := by
      unfold execOp
      rw [ho]
      simp [Instr.box, run_newVar]
    exact wp_val hrun (boxF_runs hs (ev_rel he hx) h)
end
end Go.Proofs.Ytlgadmholjaljaa

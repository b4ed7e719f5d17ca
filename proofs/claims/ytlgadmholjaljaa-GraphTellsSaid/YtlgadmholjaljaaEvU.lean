/-
  Equality of structs whose fields are integers, truth values and strings. Over any program.
-/
import Derived.Test.YtlgadmholjaljaaEvQ
import Derived.Laws.StructEq
namespace Go.Proofs.Ytlgadmholjaljaa
open Go.RowKit
/-- a field of one cell that can be compared -/
def CK.desc : CK → TypeDesc
  | .i k => .int k
  | .b => .bool
  | .s => .string
def EqFields (P : Program) : Nat → List CK → List Field → Prop
  | _, [], [] => True
  | o, c :: cs, f :: fs => (f.offset = o ∧ f.name ≠ "_" ∧ SizeIs P f.type 1 ∧ P.underlying f.type = some c.desc) ∧ EqFields P (o + 1) cs fs
  | _, _, _ => False
section
variable {P : Program} {κ : Cx}
theorem eqCell_inv {c : CK} {x y : AV} {b : Bool} (h : eqCell c x y = some b) : ∃ u v, x = .d (.v u) ∧ y = .d (.v v) ∧ ∀ (P : Program) (w : World) (t : TypeId) (d : Nat), P.underlying t = some c.desc → (Op.equalIn (d + 1) t u v).run P w = .ok b w := by
  unfold eqCell at h
  split at h
  · rename_i k0 k p k' q
    by_cases hk : k = k0 ∧ k' = k0
    · obtain ⟨rfl, rfl⟩ := hk
      rw [if_pos ⟨rfl, rfl⟩] at h
      injection h with h
      subst h
      exact ⟨_, _, rfl, rfl, fun P w t d hu => run_equalIn_int w d t _ _ p q hu⟩
    · rw [if_neg hk] at h; cases h
  · rename_i p q
    injection h with h
    subst h
    exact ⟨_, _, rfl, rfl, fun P w t d hu => run_equalIn_bool' w d t p q hu⟩
  · rename_i p q
    injection h with h
    subst h
    exact ⟨_, _, rfl, rfl, fun P w t d hu => by rw [run_equalIn_string w d t p q hu, beq_toListBytes]⟩
  · cases h
theorem eqCells_inv {c : CK} {ks : List CK} {cs ds : List AV} {b : Bool} (h : eqCells (c :: ks) cs ds = some b) : ∃ x y r r' b0 b1, cs = .d (.v x) :: r ∧ ds = .d (.v y) :: r' ∧ eqCells ks r r' = some b1 ∧ b = (b0 && b1) ∧ ∀ (P : Program) (w : World) (t : TypeId) (d : Nat), P.underlying t = some c.desc → (Op.equalIn (d + 1) t x y).run P w = .ok b0 w := by
  cases cs with
  | nil => cases h
  | cons x r =>
    cases ds with
    | nil => cases h
    | cons y r' =>
      simp only [eqCells] at h
      cases h0 : eqCell c x y with
      | none => rw [h0] at h; cases h
      | some b0 =>
        rw [h0] at h
        cases h1 : eqCells ks r r' with
        | none => rw [h1] at h; cases h
        | some b1 =>
          rw [h1] at h
          injection h with h
          obtain ⟨u, v, rfl, rfl, hr⟩ := eqCell_inv h0
          exact ⟨u, v, r, r', b0, b1, rfl, rfl, h1, h.symm, hr⟩
theorem eqFields_run (w : World) (d : Nat) : ∀ (ks : List CK) (fs : List Field) (o : Nat) (xs ys : Array Value) (cs ds : List AV) (b : Bool), EqFields P o ks fs → RelL κ cs (xs.toList.drop o) → RelL κ ds (ys.toList.drop o) → eqCells ks cs ds = some b → (Op.eqFields (d + 1) xs ys fs).run P w = .ok b w
  | [], [], o, xs, ys, cs, ds, b, hf, hx, hy, he => by
    cases cs with
    | nil =>
      cases ds with
      | nil =>
        injection he with he
        subst he
        rfl
      | cons => cases he
    | cons => cases he
  | [], _ :: _, o, xs, ys, cs, ds, b, hf, hx, hy, he => hf.elim
  | _ :: _, [], o, xs, ys, cs, ds, b, hf, hx, hy, he => hf.elim
  | k :: ks, f :: fs, o, xs, ys, cs, ds, b, hf, hx, hy, he => by
    obtain ⟨⟨ho, hn, hz, hu⟩, hf⟩ := hf
    obtain ⟨x0, y0, r, r', b0, b1, rfl, rfl, he2, rfl, hrun⟩ := eqCells_inv he
    obtain ⟨x, xs', ex, hcx, hx'⟩ := hx.cons_inv
    obtain ⟨y, ys', ey, hcy, hy'⟩ := hy.cons_inv
    have hxv := hcx.val
    have hyv := hcy.val
    subst hxv hyv
    have gx : xs[o]? = some x := by
      have := congrArg (fun l => l[0]?) ex
      simpa using this
    have gy : ys[o]? = some y := by
      have := congrArg (fun l => l[0]?) ey
      simpa using this
    have dx : xs.toList.drop (o + 1) = xs' := by rw [← List.drop_drop, ex]; rfl
    have dy : ys.toList.drop (o + 1) = ys' := by rw [← List.drop_drop, ey]; rfl
    rw [← dx] at hx'
    rw [← dy] at hy'
    have hr : k.desc.isRow = false := by cases k <;> rfl
    have part : ∀ (zs : Array Value) (z : Value), zs[o]? = some z → (part f.type zs f.offset).run P w = .ok z w := by
      intro zs z hz'
      rw [run_part hu hz, hr, ho, hz']
      rfl
    have ih := eqFields_run w d ks fs (o + 1) xs ys r r' b1 hf hx' hy' he2
    simp only [Op.eqFields, hn, ne_eq, not_false_eq_true, if_true, Sem.run_bind, part xs x gx, part ys y gy, Result.andThen_ok, hrun P w f.type d hu]
    cases b0
    · simp
    · simp [ih]
theorem eq_struct {t : TypeId} (ks : List CK) (hu : P.underlying t = some (.struct (P.fieldsOf t))) (hp : P.stoodInHeld t = false) (hm : P.eqGuardType P.depth t = false) (hf : EqFields P 0 ks (P.fieldsOf t).toList) :
    ∀ (w : World) (xs ys : Array Value) (cs ds : List AV) (b : Bool) (x y : Operand) (κ : Cx), RelL κ cs xs.toList → RelL κ ds ys.toList → eqCells ks cs ds = some b →
    (eqGuard .eql t x y (.agg xs) (.agg ys)).run P w = .ok () w ∧ (eqGuard .neq t x y (.agg xs) (.agg ys)).run P w = .ok () w ∧ (Op.equal t (.agg xs) (.agg ys)).run P w = .ok b w := by
  intro w xs ys cs ds b x y κ hx hy he
  refine ⟨run_eqGuard_agg w .eql t x y xs ys hm, run_eqGuard_agg w .neq t x y xs ys hm, ?_⟩
  show (Op.equalIn (9999 + 1) t (.agg xs) (.agg ys)).run P w = _
  rw [run_equalIn_agg w 9999 t xs ys hu hp]
  exact eqFields_run w 9998 ks _ 0 xs ys cs ds b hf hx hy he
theorem eq_struct_of {t : TypeId} {fs : Array Field} (ks : List CK) (hu : P.underlying t = some (.struct fs)) (hp : P.stoodInHeld t = false) (hm : P.eqGuardType P.depth t = false) (hf : EqFields P 0 ks fs.toList) :
    ∀ (w : World) (xs ys : Array Value) (cs ds : List AV) (b : Bool) (x y : Operand) (κ : Cx), RelL κ cs xs.toList → RelL κ ds ys.toList → eqCells ks cs ds = some b →
    (eqGuard .eql t x y (.agg xs) (.agg ys)).run P w = .ok () w ∧ (eqGuard .neq t x y (.agg xs) (.agg ys)).run P w = .ok () w ∧ (Op.equal t (.agg xs) (.agg ys)).run P w = .ok b w := by
  have e : P.fieldsOf t = fs := by
    unfold Program.fieldsOf
    rw [hu]
  exact eq_struct ks (by rw [e]; exact hu) hp hm (by rw [e]; exact hf)
end
theorem eqCells_two {c0 c1 : CK} {cs ds : List AV} {b : Bool} (h : eqCells [c0, c1] cs ds = some b) : ∃ x0 x1 y0 y1 b0 b1, cs = [x0, x1] ∧ ds = [y0, y1] ∧ eqCell c0 x0 y0 = some b0 ∧ eqCell c1 x1 y1 = some b1 ∧ b = (b0 && b1) := by
  cases cs with
  | nil => cases ds <;> cases h
  | cons x0 cs =>
    cases ds with
    | nil => cases h
    | cons y0 ds =>
      cases h0 : eqCell c0 x0 y0 with
      | none => simp [eqCells, h0] at h
      | some b0 =>
        cases cs with
        | nil => cases ds <;> simp [eqCells, h0] at h
        | cons x1 cs =>
          cases ds with
          | nil => simp [eqCells, h0] at h
          | cons y1 ds =>
            cases h1 : eqCell c1 x1 y1 with
            | none => simp [eqCells, h0, h1] at h
            | some b1 =>
              cases cs with
              | nil =>
                cases ds with
                | nil =>
                  simp [eqCells, h0, h1] at h
                  exact ⟨x0, x1, y0, y1, b0, b1, rfl, rfl, h0, h1, h.symm⟩
                | cons => simp [eqCells, h0, h1] at h
              | cons => cases ds <;> simp [eqCells, h0, h1] at h
theorem eqCell_int {k : IntKind} {x0 y0 : AV} {b0 : Bool} (h : eqCell (.i k) x0 y0 = some b0) : ∃ a c : Int, x0 = .d (.v (.int k a)) ∧ y0 = .d (.v (.int k c)) ∧ b0 = (a == c) := by
  unfold eqCell at h
  split at h
  · rename_i k0 k1 a k2 c hq
    injection hq with hq
    subst hq
    split at h
    · rename_i hk
      obtain ⟨rfl, rfl⟩ := hk
      injection h with h
      exact ⟨a, c, rfl, rfl, h.symm⟩
    · cases h
  · rename_i hq; cases hq
  · rename_i hq; cases hq
  · cases h
theorem eq_arr2_of {P : Program} {t : TypeId} {k : IntKind} (hm : P.eqGuardType P.depth t = false) (key : ∀ (a b c d : Int) (w : World), (Op.equalIn 10000 t (.agg #[.int k a, .int k b]) (.agg #[.int k c, .int k d])).run P w = .ok (decide (a = c ∧ b = d)) w) :
    ∀ (w : World) (xs ys : Array Value) (cs ds : List AV) (b : Bool) (x y : Operand) (κ : Cx), RelL κ cs xs.toList → RelL κ ds ys.toList → eqCells [.i k, .i k] cs ds = some b →
    (eqGuard .eql t x y (.agg xs) (.agg ys)).run P w = .ok () w ∧ (eqGuard .neq t x y (.agg xs) (.agg ys)).run P w = .ok () w ∧ (Op.equal t (.agg xs) (.agg ys)).run P w = .ok b w := by
  intro w xs ys cs ds b x y κ hx hy he
  refine ⟨run_eqGuard_agg w .eql t x y xs ys hm, run_eqGuard_agg w .neq t x y xs ys hm, ?_⟩
  obtain ⟨x0, x1, y0, y1, b0, b1, rfl, rfl, h0, h1, rfl⟩ := eqCells_two he
  obtain ⟨a0, c0, rfl, rfl, rfl⟩ := eqCell_int h0
  obtain ⟨a1, c1, rfl, rfl, rfl⟩ := eqCell_int h1
  obtain ⟨u0, us, eu, r0, hx⟩ := hx.cons_inv
  obtain ⟨u1, us', eu', r1, hx⟩ := hx.cons_inv
  have e0 := hx.nil_inv
  obtain ⟨v0, vs, ev, s0, hy⟩ := hy.cons_inv
  obtain ⟨v1, vs', ev', s1, hy⟩ := hy.cons_inv
  have e1 := hy.nil_inv
  have q0 := r0.val
  have q1 := r1.val
  have q2 := s0.val
  have q3 := s1.val
  subst q0 q1 q2 q3 e0 e1 eu' ev'
  have ex : xs = #[.int k a0, .int k a1] := by apply Array.ext'; simpa using eu
  have ey : ys = #[.int k c0, .int k c1] := by apply Array.ext'; simpa using ev
  subst ex ey
  show (Op.equalIn 10000 t _ _).run P w = _
  rw [key]
  by_cases g0 : a0 = c0 <;> by_cases g1 : a1 = c1 <;> simp [g0, g1]
end Go.Proofs.Ytlgadmholjaljaa

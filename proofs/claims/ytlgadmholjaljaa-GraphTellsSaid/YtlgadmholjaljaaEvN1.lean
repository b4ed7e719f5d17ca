/-
  Evaluation of Go code on plain data: steps that may change places. Over any program.
-/
import Derived.Test.YtlgadmholjaljaaEvM
namespace Go.Proofs.Ytlgadmholjaljaa
open Go.RowKit
/-- the blocks that a value names -/
def refs1 : AV → List (Nat × Nat)
  | .lp s g _ => [(s, g)]
  | .rp s g _ _ => [(s, g)]
  | .row s g _ => [(s, g)]
  | .sub s g _ _ => [(s, g)]
  | .mp s g => [(s, g)]
  | _ => []
/-- steps that read some blocks, make new ones at some sites, and change nothing else -/
def Step.Fits (R : Nat → Nat → Prop) (Z : Nat → Prop) : Step → Prop
  | .ret _ => True
  | .rdb s g k => R s g ∧ ∀ c : List AV, (∀ p ∈ c.flatMap refs1, R p.1 p.2) → (k c).Fits R Z
  | .rdr s g k => R s g ∧ ∀ c, (k c).Fits R Z
  | .rdm s g k => R s g ∧ ∀ c e, (k c e).Fits R Z
  | .rww _ _ _ => False
  | .rdz s g _ k => R s g ∧ k.Fits R Z
  | .wr _ _ _ _ => False
  | .new s _ k => Z s ∧ ∀ g, (k g).Fits R Z
  | .app _ _ _ _ _ => False
  | .frz s g k => R s g ∧ k.Fits R Z
  | .elem _ _ k => ∀ c, (k c).Fits R Z
  | .call _ _ k => ∀ r, (k r).Fits R Z
  | .chk _ k => k.Fits R Z
  | .br _ x y => x.Fits R Z ∧ y.Fits R Z
  | .fail => True
inductive Eff where
  | add (s : Nat) (i : Inst)
  | frz (s g : Nat)
def frzI : Option Inst → Option Inst
  | some (.rows sz es _) => some (.rows sz es true)
  | i => i
def Eff.ap : Eff → Mem → Mem
  | .add s i, m => m.add s i
  | .frz s g, m => { m with at_ := fun x y => if x = s ∧ y = g then frzI (m.at_ x y) else m.at_ x y }
def apL : List Eff → Mem → Mem
  | [], m => m
  | e :: es, m => apL es (e.ap m)
def Eff.In (G : Nat → Nat) (Z : Nat → Prop) : Eff → Prop
  | .add s _ => Z s
  | .frz s g => g ≤ G s ∨ Z s
theorem Eff.In.mono {G G' : Nat → Nat} {Z : Nat → Prop} (h : ∀ s, G s ≤ G' s) {e : Eff} (he : e.In G Z) : e.In G' Z := by
  cases e with
  | add => exact he
  | frz s g => exact he.imp (fun h1 => Nat.le_trans h1 (h s)) id
theorem mem_ext {m m' : Mem} (h : ∀ x y, m.at_ x y = m'.at_ x y) (hg : ∀ x, m.gen x = m'.gen x) : m = m' := by
  cases m; cases m'
  simp only [Mem.mk.injEq]
  exact ⟨funext fun x => funext fun y => h x y, funext hg⟩
theorem frz_set {m : Mem} {s g sz : Nat} {es : List (List D)} {ro : Bool} (h : m.at_ s g = some (.rows sz es ro)) : m.set s g (some (.rows sz es true)) = (Eff.frz s g).ap m := by
  refine mem_ext (fun x y => ?_) (fun x => rfl)
  rw [setAt]
  show _ = if x = s ∧ y = g then frzI (m.at_ x y) else m.at_ x y
  split
  · rename_i hxy
    rw [hxy.1, hxy.2, h]
    rfl
  · rfl
theorem ap_at (e : Eff) (m : Mem) (x y : Nat) (hy : y ≤ m.gen x) : (e.ap m).at_ x y = m.at_ x y ∨ (e.ap m).at_ x y = frzI (m.at_ x y) := by
  cases e with
  | add s i =>
    left
    show (m.add s i).at_ x y = _
    rw [addAt, if_neg]
    rintro ⟨rfl, rfl⟩
    omega
  | frz s g =>
    show (if x = s ∧ y = g then frzI (m.at_ x y) else m.at_ x y) = _ ∨ _ = frzI (m.at_ x y)
    split
    · right; show (if x = s ∧ y = g then frzI (m.at_ x y) else m.at_ x y) = _; rw [if_pos (by assumption)]
    · left; rfl
theorem ap_gen (e : Eff) (m : Mem) (x : Nat) : m.gen x ≤ (e.ap m).gen x := by
  cases e with
  | add s i =>
    show m.gen x ≤ (m.add s i).gen x
    rw [addGen]
    split
    · rename_i h; subst h; omega
    · exact Nat.le_refl _
  | frz s g => exact Nat.le_refl _
theorem frzI_idem (i : Option Inst) : frzI (frzI i) = frzI i := by
  cases i with
  | none => rfl
  | some i => cases i <;> rfl
theorem apL_gen : ∀ (es : List Eff) (m : Mem) (x : Nat), m.gen x ≤ (apL es m).gen x
  | [], _, _ => Nat.le_refl _
  | e :: es, m, x => Nat.le_trans (ap_gen e m x) (apL_gen es (e.ap m) x)
theorem apL_at : ∀ (es : List Eff) (m : Mem) (x y : Nat), y ≤ m.gen x → frzI ((apL es m).at_ x y) = frzI (m.at_ x y)
  | [], _, _, _, _ => rfl
  | e :: es, m, x, y, h => by
    rw [apL, apL_at es (e.ap m) x y (Nat.le_trans h (ap_gen e m x))]
    rcases ap_at e m x y h with h1 | h1
    · rw [h1]
    · rw [h1, frzI_idem]
theorem apL_gen_out {G : Nat → Nat} {Z : Nat → Prop} : ∀ (es : List Eff), (∀ e ∈ es, e.In G Z) → ∀ (m : Mem) (x : Nat), ¬ Z x → (apL es m).gen x = m.gen x
  | [], _, _, _, _ => rfl
  | e :: es, h, m, x, hx => by
    rw [apL, apL_gen_out es (fun e' he' => h e' (by simp [he'])) (e.ap m) x hx]
    have he := h e (by simp)
    cases e with
    | add s i =>
      show (m.add s i).gen x = _
      rw [addGen, if_neg]
      rintro rfl
      exact hx he
    | frz s g => rfl
theorem apL_append (a b : List Eff) (m : Mem) : apL (a ++ b) m = apL b (apL a m) := by
  induction a generalizing m with
  | nil => rfl
  | cons e a ih => exact ih (e.ap m)
/-- effects at different sites change places -/
theorem ap_comm {e f : Eff} {m : Mem} (h : ∀ s i t j, e = .add s i → f = .add t j → s ≠ t) (h1 : ∀ s g t j, e = .frz s g → f = .add t j → ¬ (s = t ∧ g = m.gen t + 1)) (h2 : ∀ s g t j, f = .frz s g → e = .add t j → ¬ (s = t ∧ g = m.gen t + 1)) : e.ap (f.ap m) = f.ap (e.ap m) := by
  have frzadd : ∀ (s g t : Nat) (j : Inst), ¬ (s = t ∧ g = m.gen t + 1) → (Eff.frz s g).ap ((Eff.add t j).ap m) = (Eff.add t j).ap ((Eff.frz s g).ap m) := by
    intro s g t j hne
    refine mem_ext (fun x y => ?_) (fun x => rfl)
    show (if x = s ∧ y = g then frzI ((m.add t j).at_ x y) else (m.add t j).at_ x y) = (((Eff.frz s g).ap m).add t j).at_ x y
    rw [addAt, addAt]
    show _ = (if x = t ∧ y = m.gen t + 1 then some j else if x = s ∧ y = g then frzI (m.at_ x y) else m.at_ x y)
    by_cases hx : x = s ∧ y = g
    · obtain ⟨rfl, rfl⟩ := hx
      rw [if_pos ⟨rfl, rfl⟩, if_neg hne, if_neg hne, if_pos ⟨rfl, rfl⟩]
    · rw [if_neg hx]
      split
      · rfl
      · rfl
  cases e with
  | add s i =>
    cases f with
    | add t j =>
      have hne := h s i t j rfl rfl
      have g1 : (m.add t j).gen s = m.gen s := by rw [addGen, if_neg hne]
      have g2 : (m.add s i).gen t = m.gen t := by rw [addGen, if_neg (Ne.symm hne)]
      refine mem_ext (fun x y => ?_) (fun x => ?_)
      · show ((m.add t j).add s i).at_ x y = ((m.add s i).add t j).at_ x y
        rw [addAt, addAt, addAt, addAt, g1, g2]
        by_cases hx : x = s
        · subst hx
          simp [hne]
        · simp [hx]
      · show ((m.add t j).add s i).gen x = ((m.add s i).add t j).gen x
        rw [addGen (m := m.add t j), addGen (m := m.add s i), g1, g2, addGen, addGen]
        by_cases hx : x = s
        · subst hx
          simp [hne]
        · simp [hx]
    | frz t g => exact (frzadd t g s i (h2 t g s i rfl rfl)).symm
  | frz s g =>
    cases f with
    | add t j => exact frzadd s g t j (h1 s g t j rfl rfl)
    | frz t q =>
      refine mem_ext (fun x y => ?_) (fun x => rfl)
      show (if x = s ∧ y = g then frzI (if x = t ∧ y = q then frzI (m.at_ x y) else m.at_ x y) else if x = t ∧ y = q then frzI (m.at_ x y) else m.at_ x y) = (if x = t ∧ y = q then frzI (if x = s ∧ y = g then frzI (m.at_ x y) else m.at_ x y) else if x = s ∧ y = g then frzI (m.at_ x y) else m.at_ x y)
      by_cases h1 : x = s ∧ y = g
      · by_cases h2 : x = t ∧ y = q
        · rw [if_pos h1, if_pos h2, if_pos h2, if_pos h1]
        · rw [if_pos h1, if_neg h2, if_neg h2, if_pos h1]
      · by_cases h2 : x = t ∧ y = q
        · rw [if_neg h1, if_pos h2, if_pos h2, if_neg h1]
        · rw [if_neg h1, if_neg h2, if_neg h2, if_neg h1]
theorem in_comm {G : Nat → Nat} {Z Z' : Nat → Prop} (hd : ∀ s, Z s → Z' s → False) {e f : Eff} {m : Mem} (hg : ∀ s, G s ≤ m.gen s) (he : e.In G Z) (hf : f.In G Z') : e.ap (f.ap m) = f.ap (e.ap m) := by
  refine ap_comm ?_ ?_ ?_
  · rintro s i t j rfl rfl rfl
    exact hd s he hf
  · rintro s g t j rfl rfl ⟨rfl, rfl⟩
    rcases he with he | he
    · have := hg s; omega
    · exact hd s he hf
  · rintro s g t j rfl rfl ⟨rfl, rfl⟩
    rcases hf with hf | hf
    · have := hg s; omega
    · exact hd s he hf
theorem ap_apL_comm {G : Nat → Nat} {Z Z' : Nat → Prop} (hd : ∀ s, Z s → Z' s → False) (e : Eff) (he : e.In G Z) : ∀ (es : List Eff) (m : Mem), (∀ f ∈ es, f.In G Z') → (∀ s, G s ≤ m.gen s) → apL es (e.ap m) = e.ap (apL es m)
  | [], _, _, _ => rfl
  | f :: es, m, h, hg => by
    rw [apL, apL, ← in_comm hd hg he (h f (by simp))]
    exact ap_apL_comm hd e he es (f.ap m) (fun f' hf' => h f' (by simp [hf'])) (fun s => Nat.le_trans (hg s) (ap_gen f m s))
theorem apL_comm {G : Nat → Nat} {Z Z' : Nat → Prop} (hd : ∀ s, Z s → Z' s → False) : ∀ (a b : List Eff) (m : Mem), (∀ f ∈ a, f.In G Z) → (∀ f ∈ b, f.In G Z') → (∀ s, G s ≤ m.gen s) → apL b (apL a m) = apL a (apL b m)
  | [], b, m, _, _, _ => rfl
  | e :: a, b, m, ha, hb, hg => by
    rw [apL, apL, apL_comm hd a b (e.ap m) (fun f hf => ha f (by simp [hf])) hb (fun s => Nat.le_trans (hg s) (ap_gen e m s)), ap_apL_comm hd e (ha e (by simp)) b m hb hg]
def MemWF (m : Mem) : Prop := ∀ s g i, m.at_ s g = some i → g ≤ m.gen s
theorem MemWF.add {m : Mem} (h : MemWF m) (s : Nat) (i : Inst) : MemWF (m.add s i) := by
  intro x y j hj
  rw [addAt] at hj
  rw [addGen]
  split at hj
  · rename_i hxy
    rw [if_pos hxy.1, hxy.2]
    exact Nat.le_refl _
  · have := h x y j hj
    split
    · rename_i hx; subst hx; omega
    · exact this
theorem MemWF.set {m : Mem} (h : MemWF m) {s g : Nat} {i : Inst} (hi : m.at_ s g = some i) (j : Option Inst) : MemWF (m.set s g j) := by
  intro x y k hk
  rw [setAt] at hk
  split at hk
  · rename_i hxy
    rw [hxy.1, hxy.2]
    exact h s g i hi
  · exact h x y k hk
theorem frzI_box {i : Option Inst} {cs : List AV} (h : frzI i = frzI (some (.box cs))) : i = some (.box cs) := by
  cases i with
  | none => cases h
  | some i => cases i with
    | rows => cases h
    | _ => exact h
theorem frzI_map {i : Option Inst} {ck : CK} {es : List (Value × D)} (h : frzI i = frzI (some (.mapi ck es))) : i = some (.mapi ck es) := by
  cases i with
  | none => cases h
  | some i =>
    cases i with
    | rows sz es ro => cases h
    | _ => exact h
theorem frzI_rows {i : Option Inst} {sz : Nat} {es : List (List D)} {ro : Bool} (h : frzI i = frzI (some (.rows sz es ro))) : ∃ ro', i = some (.rows sz es ro') := by
  cases i with
  | none => cases h
  | some i => cases i with
    | box => cases h
    | mapi => cases h
    | rows sz' es' ro' =>
      simp only [frzI, Option.some.injEq, Inst.rows.injEq, and_true] at h
      obtain ⟨rfl, rfl⟩ := h
      exact ⟨ro', rfl⟩
/-- what the boxes among some blocks name is among them -/
def RCl (R : Nat → Nat → Prop) (m : Mem) : Prop := (∀ s g, R s g) ∨ ((∀ s g, R s g → g ≤ m.gen s) ∧ ∀ s g cs, R s g → m.at_ s g = some (.box cs) → ∀ p ∈ cs.flatMap refs1, R p.1 p.2)
theorem RCl.box {R : Nat → Nat → Prop} {m : Mem} (h : RCl R m) {s g : Nat} {cs : List AV} (hr : R s g) (hi : m.at_ s g = some (.box cs)) : ∀ p ∈ cs.flatMap refs1, R p.1 p.2 := fun p hp => h.elim (fun h => h _ _) fun h => h.2 s g cs hr hi p hp
theorem RCl.add {R : Nat → Nat → Prop} {m : Mem} (h : RCl R m) (s : Nat) (i : Inst) : RCl R (m.add s i) := h.imp id fun ⟨h1, h2⟩ => ⟨fun x y hr => Nat.le_trans (h1 x y hr) (by rw [addGen]; split <;> rename_i hx <;> first | (subst hx; omega) | exact Nat.le_refl _), fun x y cs hr hi => h2 x y cs hr (by
  rw [addAt, if_neg] at hi
  · exact hi
  · rintro ⟨rfl, rfl⟩
    have := h1 _ _ hr
    omega)⟩
theorem RCl.set {R : Nat → Nat → Prop} {m : Mem} (h : RCl R m) (s g sz : Nat) (es : List (List D)) (ro : Bool) : RCl R (m.set s g (some (.rows sz es ro))) := h.imp id fun ⟨h1, h2⟩ => ⟨h1, fun x y cs hr hi => h2 x y cs hr (by
  rw [setAt] at hi
  split at hi
  · cases hi
  · exact hi)⟩
/-- such steps run alike in memory that is alike -/
theorem Step.Fits.runs {F : FuncId → List AV → AV → Prop} {R : Nat → Nat → Prop} {Z : Nat → Prop} {x : Step} {m m' : Mem} {v : AV} (hr : x.Runs F m v m') : x.Fits R Z → RCl R m → MemWF m →
    ∃ es, m' = apL es m ∧ ((∀ e ∈ es, e.In m.gen Z) ∧ ∀ s g, Eff.frz s g ∈ es → R s g ∧ (Z s ∨ ∃ i, m.at_ s g = some i)) ∧ MemWF m' ∧ ∀ q : Mem, (∀ s, Z s → q.gen s = m.gen s) → (∀ s g, R s g → (∃ i, m.at_ s g = some i) → frzI (q.at_ s g) = frzI (m.at_ s g)) → x.Runs F q v (apL es q) := by
  induction hr with
  | ret => exact fun _ _ hw => ⟨[], rfl, ⟨by simp, by simp⟩, hw, fun q _ _ => .ret⟩
  | rdb h r ih =>
    intro hf hc hw
    obtain ⟨es, h1, h2, h3, h4⟩ := ih (hf.2 _ (hc.box hf.1 h)) hc hw
    refine ⟨es, h1, h2, h3, fun q hz hq => ?_⟩
    have := hq _ _ hf.1 ⟨_, h⟩
    rw [h] at this
    exact .rdb (frzI_box this) (h4 q hz hq)
  | rdr h r ih =>
    intro hf hc hw
    obtain ⟨es, h1, h2, h3, h4⟩ := ih (hf.2 _) hc hw
    refine ⟨es, h1, h2, h3, fun q hz hq => ?_⟩
    have := hq _ _ hf.1 ⟨_, h⟩
    rw [h] at this
    obtain ⟨ro', h5⟩ := frzI_rows this
    exact .rdr h5 (h4 q hz hq)
  | rdm h r ih =>
    intro hf hc hw
    obtain ⟨es, h1, h2, h3, h4⟩ := ih (hf.2 _ _) hc hw
    refine ⟨es, h1, h2, h3, fun q hz hq => ?_⟩
    have := hq _ _ hf.1 ⟨_, h⟩
    rw [h] at this
    exact .rdm (frzI_map this) (h4 q hz hq)
  | rww => exact fun hf => hf.elim
  | rdz h r ih =>
    intro hf hc hw
    obtain ⟨es, h1, h2, h3, h4⟩ := ih hf.2 hc hw
    refine ⟨es, h1, h2, h3, fun q hz hq => ?_⟩
    have := hq _ _ hf.1 ⟨_, h⟩
    rw [h] at this
    obtain ⟨ro', h5⟩ := frzI_rows this
    exact .rdz h5 (h4 q hz hq)
  | wr => exact fun hf => hf.elim
  | @new s i k m m' v r ih =>
    intro hf hc hw
    obtain ⟨es, h1, h2, h3, h4⟩ := ih (hf.2 _) (hc.add s i) (hw.add s i)
    refine ⟨.add s i :: es, h1, ⟨fun e he => ?_, fun s' g' he => ?_⟩, h3, fun q hz hq => ?_⟩
    · rcases List.mem_cons.1 he with rfl | he
      · exact hf.1
      · have := h2.1 e he
        cases e with
        | add => exact this
        | frz s' g' =>
          rcases this with this | this
          · rw [addGen] at this
            split at this
            · rename_i hs; subst hs; exact Or.inr hf.1
            · exact Or.inl this
          · exact Or.inr this
    · obtain ⟨k1, k2⟩ := h2.2 s' g' (by simpa using he)
      refine ⟨k1, ?_⟩
      rcases k2 with k2 | ⟨i', k2⟩
      · exact Or.inl k2
      · rw [addAt] at k2
        split at k2
        · rename_i hx
          exact Or.inl (hx.1 ▸ hf.1)
        · exact Or.inr ⟨i', k2⟩
    · refine .new ?_
      rw [hz s hf.1]
      refine h4 (q.add s i) (fun s' hs' => ?_) (fun s' g' hr' hi' => ?_)
      · rw [addGen, addGen, hz s hf.1, hz s' hs']
      · rw [addAt, addAt, hz s hf.1]
        split
        · rfl
        · refine hq s' g' hr' ?_
          obtain ⟨i', hi'⟩ := hi'
          rw [addAt, if_neg (by assumption)] at hi'
          exact ⟨i', hi'⟩
  | app => exact fun hf => hf.elim
  | @frz s g sz es0 ro k m m' v h r ih =>
    intro hf hc hw
    obtain ⟨es, h1, h2, h3, h4⟩ := ih hf.2 (hc.set _ _ _ _ _) (hw.set h _)
    refine ⟨.frz s g :: es, by rw [h1, frz_set h]; rfl, ⟨fun e he => ?_, fun s' g' he => ?_⟩, h3, fun q hz hq => ?_⟩
    · rcases List.mem_cons.1 he with rfl | he
      · exact Or.inl (hw s g _ h)
      · exact h2.1 e he
    · rcases List.mem_cons.1 he with he | he
      · injection he with q1 q2
        subst q1 q2
        exact ⟨hf.1, Or.inr ⟨_, h⟩⟩
      · obtain ⟨k1, k2⟩ := h2.2 s' g' he
        refine ⟨k1, ?_⟩
        rcases k2 with k2 | ⟨i', k2⟩
        · exact Or.inl k2
        · rw [setAt] at k2
          split at k2
          · rename_i hx
            obtain ⟨rfl, rfl⟩ := hx
            exact Or.inr ⟨_, h⟩
          · exact Or.inr ⟨i', k2⟩
    · have := hq _ _ hf.1 ⟨_, h⟩
      rw [h] at this
      obtain ⟨ro', h5⟩ := frzI_rows this
      refine .frz h5 ?_
      have := h4 (q.set s g (some (.rows sz es0 true))) hz (fun s' g' hr' hi' => ?_)
      · rw [frz_set h5] at this ⊢
        exact this
      · rw [setAt, setAt]
        split
        · rfl
        · refine hq s' g' hr' ?_
          obtain ⟨i', hi'⟩ := hi'
          rw [setAt, if_neg (by assumption)] at hi'
          exact ⟨i', hi'⟩
  | elem h r ih =>
    intro hf hc hw
    obtain ⟨es, h1, h2, h3, h4⟩ := ih (hf _) hc hw
    exact ⟨es, h1, h2, h3, fun q hz hq => .elem h (h4 q hz hq)⟩
  | call h r ih =>
    intro hf hc hw
    obtain ⟨es, h1, h2, h3, h4⟩ := ih (hf _) hc hw
    exact ⟨es, h1, h2, h3, fun q hz hq => .call h (h4 q hz hq)⟩
  | chk h r ih =>
    intro hf hc hw
    obtain ⟨es, h1, h2, h3, h4⟩ := ih hf hc hw
    exact ⟨es, h1, h2, h3, fun q hz hq => .chk h (h4 q hz hq)⟩
  | @br b x y m m' v r ih =>
    intro hf hc hw
    obtain ⟨es, h1, h2, h3, h4⟩ := ih (by cases b; exact hf.2; exact hf.1) hc hw
    exact ⟨es, h1, h2, h3, fun q hz hq => .br (h4 q hz hq)⟩
/-- TWO SUCH STEPS CHANGE PLACES -/
theorem fits_swap {F : FuncId → List AV → AV → Prop} {G : Nat → Nat} {Z Z' : Nat → Prop} {x y : Step} (hx : x.Fits (fun _ _ => True) Z) (hy : y.Fits (fun s g => g ≤ G s) Z') (hd : ∀ s, Z s → Z' s → False) {m m1 m2 : Mem} {v u : AV} (hw : MemWF m) (hG : ∀ s, G s ≤ m.gen s) (hbox : ∀ s g cs, g ≤ G s → m.at_ s g = some (.box cs) → ∀ p ∈ cs.flatMap refs1, p.2 ≤ G p.1) (h1 : x.Runs F m v m1) (h2 : y.Runs F m1 u m2) :
    ∃ m1', y.Runs F m u m1' ∧ x.Runs F m1' v m2 := by
  have hold : ∀ s g, g ≤ G s → g ≤ m.gen s := fun s g h => Nat.le_trans h (hG s)
  obtain ⟨ex, e1, ⟨e2, _⟩, e3, e4⟩ := Step.Fits.runs h1 hx (Or.inl fun _ _ => trivial) hw
  subst e1
  obtain ⟨ey, f1, ⟨f2, f2'⟩, f3, f4⟩ := Step.Fits.runs h2 hy (Or.inr ⟨fun s g h => Nat.le_trans (hold s g h) (apL_gen ex m s), fun s g cs hr hi => hbox s g cs hr (frzI_box (by rw [← apL_at ex m s g (hold s g hr), hi]))⟩) e3
  have hgy : ∀ s, Z' s → m.gen s = (apL ex m).gen s := fun s hs => (apL_gen_out ex e2 m s fun hz => hd s hz hs).symm
  have r1 := f4 m hgy (fun s g hr hi => (apL_at ex m s g (hold s g hr)).symm)
  refine ⟨apL ey m, r1, ?_⟩
  have fy : ∀ f ∈ ey, f.In m.gen Z' := by
    intro f hf
    have := f2 f hf
    cases f with
    | add => exact this
    | frz s g => exact Or.inl (hold s g (f2' s g hf).1)
  have r2 := e4 (apL ey m) (fun s hs => apL_gen_out ey fy m s fun hz => hd s hs hz) (fun s g hr hi => by
    obtain ⟨i, hi⟩ := hi
    exact apL_at ey m s g (hw s g i hi))
  rw [apL_comm hd ex ey m e2 fy (fun s => Nat.le_refl _)] at f1
  rw [f1]
  exact r2
end Go.Proofs.Ytlgadmholjaljaa

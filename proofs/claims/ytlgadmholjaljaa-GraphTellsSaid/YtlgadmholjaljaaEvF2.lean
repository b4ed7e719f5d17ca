/-
  Evaluation of Go code on plain data: a function that only reads, called with objects. Over any program.
-/
import Derived.Test.YtlgadmholjaljaaEvF
import Derived.Test.YtlgadmholjaljaaEvR
namespace Go.Proofs.Ytlgadmholjaljaa
open Go.RowKit
/-- results that hold nothing of what came in -/
def PlainR : AV → Prop
  | .d (.v _) => True
  | .ow _ es => ∀ e ∈ es, ∀ d ∈ e, ∃ x : Value, d = .v x
  | _ => False
theorem PlainR.map {α : Type} {enc : α → List D} {z : Nat} (h : ∀ x, ∀ d ∈ enc x, ∃ v : Value, d = .v v) (l : List α) : PlainR (.ow z (l.map enc)) := fun e he => by
  obtain ⟨x, _, rfl⟩ := List.mem_map.1 he
  exact h x
theorem PlainR.ints {k : IntKind} {z : Nat} (l : List Int) : PlainR (.ow z (l.map (encI k))) := PlainR.map (fun x d hd => by
  simp only [encI, List.mem_cons, List.not_mem_nil, or_false] at hd
  exact ⟨_, hd⟩) l
/-- a cell of an object, read -/
def rdC (is : List AV) : AV → Option D
  | .d x => some x
  | .mp s g => bif Nat.beq g 1 && Nat.ble 1000001 s then (match is[s - 1000001]? with
    | some (.im ck es) => some (.mz ck es)
    | _ => none) else none
  | _ => none
def rdCs (is : List AV) : List AV → Option (List D)
  | [] => some []
  | c :: r => match rdC is c, rdCs is r with
    | some x, some l => some (x :: l)
    | _, _ => none
/-- an argument, read -/
def rdA (is : List AV) : AV → Option AV
  | .lp s g 0 => bif Nat.beq g 1 && Nat.ble 1000001 s then (match is[s - 1000001]? with
    | some (.ib cs) => (rdCs is cs).map .fp
    | _ => none) else none
  | .mp s g => (rdC is (.mp s g)).map .d
  | .d x => some (.d x)
  | .fp cs => some (.fp cs)
  | .agg cs => bif cs.all isDatA then some (.agg cs) else none
  | _ => none
def rdL (is : List AV) : List AV → Option (List AV)
  | [] => some []
  | c :: r => match rdA is c, rdL is r with
    | some x, some l => some (x :: l)
    | _, _ => none
section
variable {A : Nat → Prop} {w : World} {locs : Nat → Loc} {is : List AV}
/-- what may be read: what nobody changes, and the objects -/
def AndO (A : Nat → Prop) (locs : Nat → Loc) (n : Nat) (b : Nat) : Prop := A b ∨ ∃ i, i < n ∧ (locs (i + 1)).blk = some b
theorem rdC_rel (hobj : ObjsOk A w locs is) {c : AV} {x : D} (h : rdC is c = some x) {v : Value} (hr : Rel (cxO A w locs is.length) c v) : RelD (AndO A locs is.length) w x v := by
  cases c with
  | d y =>
    injection h with h
    subst h
    cases hr with
    | d hd => exact hd.mono (fun _ h => Or.inl h) (fun _ _ => rfl)
  | mp s g =>
    simp only [rdC] at h
    cases hb : (Nat.beq g 1 && Nat.ble 1000001 s)
    · rw [hb] at h; cases h
    · rw [hb] at h
      simp only [cond_true] at h
      rw [Bool.and_eq_true] at hb
      have h2 := Nat.le_of_ble_eq_true hb.2
      split at h
      · rename_i ck es hi
        injection h with h
        subst h
        have hlt := (List.getElem?_eq_some_iff.1 hi).1
        obtain ⟨inst, e1, e2⟩ := hobj.ok _ _ hi
        injection e1 with e1
        subst e1
        obtain ⟨b, ents, clock, k1, k2, k3, k4⟩ := e2
        cases hr with
        | mp hg hb' =>
          have hb' : (locs (s - 1000000)).blk = some _ := hb'
          rw [show s - 1000000 = s - 1000001 + 1 by omega, k1] at hb'
          injection hb' with hb'
          subst hb'
          exact .map_mk (Or.inr ⟨_, hlt, k1⟩) k2 k4 ⟨k3.1, fun j p e hp he => ⟨(k3.2 j p e hp he).1, (k3.2 j p e hp he).2.1.mono (fun _ h => Or.inl h) (fun _ _ => rfl), (k3.2 j p e hp he).2.2⟩⟩
      · cases h
  | _ => cases h
theorem rdCs_rel (hobj : ObjsOk A w locs is) : ∀ {cs : List AV} {ds : List D}, rdCs is cs = some ds → ds.length = cs.length ∧ ∀ (j : Nat) (c : AV) (x : D) (v : Value), cs[j]? = some c → ds[j]? = some x → Rel (cxO A w locs is.length) c v → RelD (AndO A locs is.length) w x v
  | [], ds, h => by
    injection h with h
    subst h
    exact ⟨rfl, fun j c x v hc => by simp at hc⟩
  | c :: cs, ds, h => by
    simp only [rdCs] at h
    split at h
    · rename_i x l hx hl
      injection h with h
      subst h
      obtain ⟨q1, q2⟩ := rdCs_rel hobj hl
      refine ⟨by simp [q1], fun j c' x' v hc hx' hr => ?_⟩
      cases j with
      | zero =>
        simp at hc hx'
        subst hc hx'
        exact rdC_rel hobj hx hr
      | succ j => exact q2 j c' x' v (by simpa using hc) (by simpa using hx') hr
    · cases h
theorem rdA_rel (hobj : ObjsOk A w locs is) {c y : AV} (h : rdA is c = some y) {v : Value} (hr : Rel (cxO A w locs is.length) c v) : Rel (cx0 (AndO A locs is.length) w) y v := by
  cases c with
  | d x =>
    injection h with h
    subst h
    cases hr with
    | d hd => exact .d (hd.mono (fun _ h => Or.inl h) (fun _ _ => rfl))
  | fp cs =>
    injection h with h
    subst h
    cases hr with
    | fp vs hb hc hrd => exact .fp vs (Or.inl hb) hc fun j x hx => (hrd j x hx).mono (fun _ h => Or.inl h) (fun _ _ => rfl)
  | agg cs =>
    simp only [rdA] at h
    cases hb : cs.all isDatA
    · rw [hb] at h; cases h
    · rw [hb] at h
      injection h with h
      subst h
      cases hr with
      | agg hl hcs =>
        refine .agg hl fun j c u hc hu => ?_
        have h1 := hcs j c u hc hu
        have h2 := List.all_eq_true.1 hb c (List.mem_of_getElem? hc)
        cases c with
        | d x =>
          cases h1 with
          | d hd => exact .d (hd.mono (fun _ h => Or.inl h) (fun _ _ => rfl))
        | _ => cases h2
  | mp s g =>
    simp only [rdA] at h
    cases hx : rdC is (.mp s g) with
    | none => rw [hx] at h; cases h
    | some x =>
      rw [hx] at h
      injection h with h
      subst h
      exact .d (rdC_rel hobj hx hr)
  | lp s g o =>
    cases o with
    | succ o => cases h
    | zero =>
      simp only [rdA] at h
      cases hb : (Nat.beq g 1 && Nat.ble 1000001 s)
      · rw [hb] at h; cases h
      · rw [hb] at h
        simp only [cond_true] at h
        rw [Bool.and_eq_true] at hb
        have h2 := Nat.le_of_ble_eq_true hb.2
        split at h
        · rename_i cs hi
          cases hds : rdCs is cs with
          | none => rw [hds] at h; cases h
          | some ds =>
            rw [hds] at h
            injection h with h
            subst h
            have hlt := (List.getElem?_eq_some_iff.1 hi).1
            obtain ⟨inst, e1, e2⟩ := hobj.ok _ _ hi
            injection e1 with e1
            subst e1
            obtain ⟨b, T, vs, k1, k2, k3, k4⟩ := e2
            obtain ⟨q1, q2⟩ := rdCs_rel hobj hds
            cases hr with
            | lp hg hb' =>
              have hb' : (locs (s - 1000000)).blk = some _ := hb'
              rw [show s - 1000000 = s - 1000001 + 1 by omega, k1] at hb'
              injection hb' with hb'
              subst hb'
              obtain ⟨g1, g2⟩ := box_data (S := AndO A locs is.length) (o := 0) (ds := ds) k2 (by simp [q1, k3]) fun j x u hx hu => by
                rw [List.drop_zero] at hu
                have hj : j < cs.length := by rw [← q1]; exact (List.getElem?_eq_some_iff.1 hx).1
                have hc := List.getElem?_eq_getElem hj
                exact q2 j _ x u hc hx (k4 j _ u hc (by simpa using hu)).1
              exact .fp _ (Or.inr ⟨_, hlt, k1⟩) g1 g2
        · cases h
  | _ => cases h
theorem rdL_rel (hobj : ObjsOk A w locs is) : ∀ {cs ys : List AV} {vs : List Value}, rdL is cs = some ys → RelL (cxO A w locs is.length) cs vs → RelL (cx0 (AndO A locs is.length) w) ys vs
  | [], ys, vs, h, hr => by
    injection h with h
    subst h
    rw [hr.nil_inv]
    exact RelL.nil _
  | c :: cs, ys, vs, h, hr => by
    simp only [rdL] at h
    split at h
    · rename_i x l hx hl
      injection h with h
      subst h
      obtain ⟨v, vs', rfl, h1, h2⟩ := hr.cons_inv
      exact RelL.cons (rdA_rel hobj hx h1) (rdL_rel hobj hl h2)
    · cases h
theorem mergeO_nl : ∀ (is : List AV), mergeO is (is.map fun _ => .nl) = is
  | [] => rfl
  | a :: is => by
    have := mergeO_nl is
    simp only [List.map_cons, mergeO, this, isNlA, cond_true]
end
/-- A FUNCTION THAT ONLY READS, CALLED WITH OBJECTS -/
theorem Fn.toO {dr : Prop} {P : Program} {f : FuncId} {is args args' : List AV} {r : AV} (h : Fn dr P f args r) (hp : PlainR r) (ha : rdL is args' = some args) : FnO dr P f is args' (.hp (r :: is.map fun _ => .nl)) := by
  refine ⟨r, _, rfl, by simp, h.1, fun w A locs vals hI hA hobj htab hr => ?_⟩
  have hA' : ∀ b, AndO A locs is.length b → b < w.heap.size := fun b hb => by
    rcases hb with hb | ⟨i, hi, hb⟩
    · exact hA b hb
    · exact (hobj.blk i b hi hb).1
  refine (h.2 w (AndO A locs is.length) vals hI hA' (rdL_rel hobj ha hr)).mono ?_
  rintro e w' ⟨v, S', bs, rfl, hB, hS, hR, hap, hbs⟩
  let S2 : Nat → Prop := fun b => A b ∨ (w.heap.size ≤ b ∧ S' b)
  have hlt : w.heap.size ≤ w'.heap.size := hB.size
  have keep : ∀ b, b < w.heap.size → w'.heap[b]? = w.heap[b]? := fun b hb => hB.block b hb
  have hplainD : ∀ {x : D} {u : Value}, (∃ y, x = .v y) → RelD S' w' x u → RelD S2 w' x u := by
    rintro x u ⟨y, rfl⟩ hx
    cases hx with
    | v _ h1 => exact .v _ h1
  have hres : ResO (cxO S2 w' locs (is.map fun _ => AV.nl).length) r v bs := by
    cases r with
    | d x =>
      cases x with
      | v y =>
        obtain ⟨b, hb, h1, h2⟩ := (show ∃ b, bs = [b] ∧ RelD S' w' (.v y) v ∧ b = none from hR)
        exact (show ∃ b, bs = [b] ∧ RelD S2 w' (.v y) v ∧ b = none from ⟨b, hb, hplainD ⟨_, rfl⟩ h1, h2⟩)
      | _ => exact hp.elim
    | ow sz es =>
      obtain ⟨b, hb, h1, h2⟩ := (show ∃ b, bs = [b] ∧ OwnAt S' w' sz es v b from hR)
      refine (show ∃ b, bs = [b] ∧ OwnAt S2 w' sz es v b from ⟨b, hb, h1, ?_⟩)
      rcases h2 with h2 | ⟨g, T, cur, cap, k1, k2, k3, k4, k5, k6, k7⟩
      · exact Or.inl h2
      · refine Or.inr ⟨g, T, cur, cap, k1, k2, k3, k4, k5, k6, fun i j e x hi hj => ?_⟩
        obtain ⟨u, e1, e2⟩ := k7 i j e x hi hj
        exact ⟨u, e1, hplainD (hp e (List.mem_of_getElem? hi) x (List.mem_of_getElem? hj)) e2⟩
    | _ => exact hp.elim
  have hk : ∀ c y, Rel (cxO A w locs is.length) c y → Rel (cxO S2 w' locs is.length) c y := fun c y hr => hr.mono (κ := cxO A w locs is.length) (κ' := cxO S2 w' locs is.length) ⟨fun _ => Nat.le_refl _, fun _ _ _ => rfl, fun _ h => Or.inl h, fun b hb => keep b (hA b hb)⟩
  refine ⟨v, S2, locs, bs, rfl, ⟨hB.os, hB.tape, hB.output, hB.size, fun k hk _ => hB.block k hk, hB.drawn⟩, fun b hb => ?_, fun _ _ => rfl, ?_, fun i b h1 h2 => ?_, hres, hap, fun b hb => ?_⟩
  · rcases hb with hb | ⟨h1, h2⟩
    · exact ⟨Nat.lt_of_lt_of_le (hA b hb) hlt, Or.inl hb⟩
    · exact ⟨(hS b h2).1, Or.inr h1⟩
  · rw [mergeO_nl]
    refine ⟨fun i a hi => ?_, fun i b hi hb => ?_, hobj.sep⟩
    · obtain ⟨inst, e1, e2⟩ := hobj.ok i a hi
      refine ⟨inst, e1, ?_⟩
      have hlt' := (List.getElem?_eq_some_iff.1 hi).1
      cases inst with
      | box cs =>
        obtain ⟨b, T, vs, k1, k2, k3, k4⟩ := e2
        refine ⟨b, T, vs, k1, (keep b (hobj.blk i b hlt' k1).1).trans k2, k3, fun j c u hc hu => ⟨hk c u (k4 j c u hc hu).1, (k4 j c u hc hu).2⟩⟩
      | mapi ck es =>
        obtain ⟨b, ents, clock, k1, k2, k3, k4⟩ := e2
        exact ⟨b, ents, clock, k1, (keep b (hobj.blk i b hlt' k1).1).trans k2, ⟨k3.1, fun j p e hp he => ⟨(k3.2 j p e hp he).1, (k3.2 j p e hp he).2.1.mono (fun _ h => Or.inl h) (fun b hb => keep b (hA b hb)), (k3.2 j p e hp he).2.2⟩⟩, k4⟩
      | rows sz es ro => cases a <;> cases e1
    · obtain ⟨h1, h2⟩ := hobj.blk i b hi hb
      refine ⟨Nat.lt_of_lt_of_le h1 hlt, ?_⟩
      rintro (h3 | ⟨h3, _⟩)
      · exact h2 h3
      · omega
  · simp at h2
    omega
  · obtain ⟨h1, h2, h3⟩ := hbs b hb
    refine ⟨h1, h2, ?_, fun i hi e => ?_⟩
    · rintro (h4 | ⟨_, h4⟩)
      · exact absurd (hA b h4) (by omega)
      · exact h3 h4
    · have := (hobj.blk i b (by simpa using hi) e).1
      omega
def noObj : AV → Bool
  | .lp _ _ _ => false
  | .mp _ _ => false
  | _ => true
/-- A FUNCTION CALLED WITHOUT OBJECTS -/
theorem Fn.toO0 {dr : Prop} {P : Program} {f : FuncId} {args args' : List AV} {r : AV} (h : Fn dr P f args r) (hp : noObj r = true) (ha : rdL [] args' = some args) : FnO dr P f [] args' (.hp [r]) := by
  refine ⟨r, _, rfl, by simp, h.1, fun w A locs vals hI hA hobj htab hr => ?_⟩
  have hn : ∀ b, AndO A locs 0 b → A b := fun b hb => by
    rcases hb with hb | ⟨i, hi, _⟩
    · exact hb
    · omega
  refine (h.2 w (AndO A locs 0) vals hI (fun b hb => hA b (hn b hb)) (rdL_rel hobj ha hr)).mono ?_
  rintro e w' ⟨v, S', bs, rfl, hB, hS, hR, hap, hbs⟩
  refine ⟨v, S', locs, bs, rfl, ⟨hB.os, hB.tape, hB.output, hB.size, fun k hk _ => hB.block k hk, hB.drawn⟩, fun b hb => ⟨(hS b hb).1, (hS b hb).2.imp (hn b) id⟩, fun _ _ => rfl, ⟨fun i a hi => by simp [mergeO] at hi, fun i b hi => by simp [mergeO] at hi, fun i j b hi => by simp [mergeO] at hi⟩, fun i b _ h2 => by simp at h2, ?_, hap, fun b hb => ⟨(hbs b hb).1, (hbs b hb).2.1, (hbs b hb).2.2, fun i h2 => by simp at h2⟩⟩
  cases r <;> first | exact hR | cases hp
end Go.Proofs.Ytlgadmholjaljaa

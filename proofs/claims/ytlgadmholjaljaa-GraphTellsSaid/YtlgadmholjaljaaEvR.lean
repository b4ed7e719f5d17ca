/-
  Plain programs that stop or run on: loops, ways that meet, and how an evaluation follows them. Over any program.
-/
import Derived.Test.YtlgadmholjaljaaEvQ
namespace Go.Proofs.Ytlgadmholjaljaa
open Go.RowKit
/-- one piece after another: the first one runs on to the second, or ends all -/
def seqF {A B : Type} (p : Option (A ⊕ B)) (k : A → Option B) : Option B := match p with
  | none => none
  | some (.inl a) => k a
  | some (.inr b) => some b
def runF {S B : Type} (body : S → Option (S ⊕ B)) : Nat → S → Option B
  | 0, _ => none
  | n + 1, s => match body s with
    | none => none
    | some (.inl s') => runF body n s'
    | some (.inr b) => some b
open Classical in
/-- a loop: nothing, where it does not end -/
noncomputable def loopF {S B : Type} (body : S → Option (S ⊕ B)) (s : S) : Option B := if h : ∃ b n, runF body n s = some b then some h.choose else none
theorem runF_succ {S B : Type} {body : S → Option (S ⊕ B)} : ∀ {n : Nat} {s : S} {b : B}, runF body n s = some b → runF body (n + 1) s = some b
  | 0, s, b, h => by cases h
  | n + 1, s, b, h => by
    simp only [runF] at h
    rw [runF]
    cases hb : body s with
    | none => rw [hb] at h; cases h
    | some f =>
      rw [hb] at h
      cases f with
      | inl s' => exact runF_succ (n := n) h
      | inr b' => exact h
theorem runF_le {S B : Type} {body : S → Option (S ⊕ B)} {n m : Nat} (hm : n ≤ m) {s : S} {b : B} (h : runF body n s = some b) : runF body m s = some b := by
  induction hm with
  | refl => exact h
  | step _ ih => exact runF_succ ih
theorem runF_one {S B : Type} {body : S → Option (S ⊕ B)} {n m : Nat} {s : S} {b c : B} (h : runF body n s = some b) (k : runF body m s = some c) : b = c := by
  have h1 := runF_le (Nat.le_max_left n m) h
  have h2 := runF_le (Nat.le_max_right n m) k
  rw [h1] at h2
  injection h2
theorem loopF_iff {S B : Type} {body : S → Option (S ⊕ B)} {s : S} {b : B} : loopF body s = some b ↔ ∃ n, runF body n s = some b := by
  unfold loopF
  constructor
  · intro h
    split at h
    · rename_i hx
      injection h with h
      subst h
      exact hx.choose_spec
    · cases h
  · rintro ⟨n, h⟩
    have hx : ∃ b n, runF body n s = some b := ⟨b, n, h⟩
    rw [dif_pos hx]
    obtain ⟨m, hm⟩ := hx.choose_spec
    rw [runF_one hm h]
theorem loopF_eq {S B : Type} (body : S → Option (S ⊕ B)) (s : S) : loopF body s = match body s with
    | none => none
    | some (.inl s') => loopF body s'
    | some (.inr b) => some b := by
  apply Option.ext
  intro b
  rw [loopF_iff]
  constructor
  · rintro ⟨n, h⟩
    cases n with
    | zero => cases h
    | succ n =>
      rw [runF] at h
      cases hb : body s with
      | none => rw [hb] at h; cases h
      | some f =>
        rw [hb] at h
        cases f with
        | inl s' => exact loopF_iff.2 ⟨n, h⟩
        | inr b' => exact h
  · intro h
    cases hb : body s with
    | none => rw [hb] at h; cases h
    | some f =>
      rw [hb] at h
      cases f with
      | inl s' =>
        obtain ⟨n, hn⟩ := loopF_iff.1 h
        exact ⟨n + 1, by rw [runF, hb]; exact hn⟩
      | inr b' => exact ⟨1, by rw [runF, hb]; exact h⟩
theorem loopF_next {S B : Type} {body : S → Option (S ⊕ B)} {s s' : S} (h : body s = some (.inl s')) : loopF body s = loopF body s' := by rw [loopF_eq, h]
theorem loopF_stop {S B : Type} {body : S → Option (S ⊕ B)} {s : S} {b : B} (h : body s = some (.inr b)) : loopF body s = some b := by rw [loopF_eq, h]
/-- a loop ends in a way that is known, by a number that becomes less -/
theorem loopF_by {S B : Type} {body : S → Option (S ⊕ B)} (J : S → Prop) (μ : S → Nat) (R : S → Option B → Prop) (h : ∀ s, J s → (∃ s', body s = some (.inl s') ∧ J s' ∧ μ s' < μ s ∧ ∀ r, R s' r → R s r) ∨ ∃ b, body s = some (.inr b) ∧ R s (some b)) :
    ∀ s, J s → R s (loopF body s) := by
  have : ∀ n s, μ s < n → J s → R s (loopF body s) := by
    intro n
    induction n with
    | zero => intro s hn; omega
    | succ n ih =>
      intro s hn hJ
      rcases h s hJ with ⟨s', h1, h2, h3, h4⟩ | ⟨b, h1, h2⟩
      · rw [loopF_next h1]
        exact h4 _ (ih s' (by omega) h2)
      · rw [loopF_stop h1]
        exact h2
  exact fun s hJ => this (μ s + 1) s (by omega) hJ
def Good {S B : Type} (J : S → Prop) (G : B → Prop) : S ⊕ B → Prop
  | .inl s => J s
  | .inr b => G b
theorem LoopP.of {S B : Type} {body : S → Option (S ⊕ B)} {s0 : S} {b : B} {c : ASt → (Ex → ASt → Prop) → Prop} {st : ASt} {Q : Ex → ASt → Prop} (E : S → List (Nat × AV)) (M : S → List (Nat × Inst)) (G : B → Prop) (h : loopF body s0 = some b) (hG : G b) (hen : Enters st (E s0) (M s0))
    (round : ∀ (J : S → Prop) (s : S) (f : S ⊕ B), body s = some f → Good J G f → c (mkSt (E s) (M s)) fun e st' => match e with
      | .normal => ∃ x', J x' ∧ Enters st' (E x') (M x')
      | e => Q e st') : LoopP c st Q := by
  obtain ⟨n, hn⟩ := loopF_iff.1 h
  refine ⟨⟨S, E, M, fun n s => runF body n s = some b, ⟨n, s0, hn, hen⟩, fun n s hs => ?_⟩⟩
  cases n with
  | zero => cases hs
  | succ n =>
    rw [runF] at hs
    cases hb : body s with
    | none => rw [hb] at hs; cases hs
    | some f =>
      rw [hb] at hs
      refine round _ s f hb ?_
      cases f with
      | inl s' => exact ⟨n, Nat.lt_succ_self n, hs⟩
      | inr b' =>
        injection hs with hs
        subst hs
        exact hG
theorem SeqP.of {S B : Type} {p : Option (S ⊕ B)} {k : S → Option B} {b : B} {x : (Ex → ASt → Prop) → Prop} {y : ASt → (Ex → ASt → Prop) → Prop} {Q : Ex → ASt → Prop} (E : S → List (Nat × AV)) (M : S → List (Nat × Inst)) (G : B → Prop) (h : seqF p k = some b) (hG : G b)
    (ha : ∀ (J : S → Prop) (f : S ⊕ B), p = some f → Good J G f → x fun e st' => match e with
      | .normal => ∃ z, J z ∧ Enters st' (E z) (M z)
      | e => Q e st')
    (hb : ∀ (s : S) (b : B), k s = some b → G b → y (mkSt (E s) (M s)) Q) : SeqP x y Q := by
  cases hp : p with
  | none => rw [hp] at h; cases h
  | some f =>
    rw [hp] at h
    refine ⟨⟨S, E, M, fun z => ∃ b, k z = some b ∧ G b, ha _ f hp ?_, fun z ⟨b, h1, h2⟩ => hb z b h1 h2⟩⟩
    cases f with
    | inl s => exact ⟨b, h, hG⟩
    | inr b' =>
      injection h with h
      subst h
      exact hG
theorem bindE {A B : Type} {p : Option A} {k : A → Option B} {b : B} (h : p.bind k = some b) : ∃ x, p = some x ∧ k x = some b := by
  cases p with
  | none => cases h
  | some x => exact ⟨x, rfl, h⟩
theorem bindK {A B : Type} {p : Option A} {k : A → Option B} {b : B} {G : Prop} (h : p.bind k = some b) (c : ∀ x, p = some x → k x = some b → G) : G :=
  let ⟨x, h1, h2⟩ := bindE h
  c x h1 h2
theorem ifp {B : Type} {b : Bool} {p q : Option B} {f : B} {X Y : Prop} (h : (bif b then p else q) = some f) (h1 : b = true → p = some f → X) (h2 : b = false → q = some f → Y) : IFp b X Y := by
  cases b
  · exact ⟨fun e => (by cases e), fun e => h2 e h⟩
  · exact ⟨fun e => h1 e h, fun e => (by cases e)⟩
/-- a condition that must hold -/
def chkO (b : Bool) : Option Unit := bif b then some () else none
theorem chkE_ {b : Bool} {B : Type} {k : Unit → Option B} {f : B} (h : (chkO b).bind k = some f) : b = true ∧ k () = some f := by
  cases b
  · cases h
  · exact ⟨rfl, h⟩
theorem chkK {b : Bool} {B : Type} {k : Unit → Option B} {f : B} {G : Prop} (h : (chkO b).bind k = some f) (c : b = true → k () = some f → G) : G :=
  let ⟨h1, h2⟩ := chkE_ h
  c h1 h2
/-- an element at an index -/
def getI {A : Type} (l : List A) (i : Int) : Option A := bif decide (0 ≤ i) then l[i.toNat]? else none
theorem getI_lt {A : Type} {l : List A} {i : Int} {x : A} (h : getI l i = some x) : 0 ≤ i ∧ i < (l.length : Int) := by
  unfold getI at h
  by_cases hi : 0 ≤ i
  · simp only [hi, decide_true, cond_true] at h
    have := (List.getElem?_eq_some_iff.1 h).1
    omega
  · simp [hi] at h
theorem elemB {A : Type} {enc : A → List D} {l : List A} {i : Int} {x : A} (h : getI l i = some x) : 0 ≤ i ∧ i < ((List.map enc l).length : Int) := by
  rw [List.length_map]
  exact getI_lt h
theorem elemG {A : Type} {enc : A → List D} {l : List A} {i : Int} {x : A} (h : getI l i = some x) : (List.map enc l)[i.toNat]? = some (enc x) := by
  unfold getI at h
  by_cases hi : 0 ≤ i
  · simp only [hi, decide_true, cond_true] at h
    rw [List.getElem?_map, h]
    rfl
  · simp [hi] at h
theorem lenMap {A : Type} (enc : A → List D) (l : List A) : (List.map enc l).length = l.length := List.length_map ..
theorem appLen {A : Type} (enc : A → List D) (l r : List A) : l.length + (List.map enc r).length = (l ++ r).length := by simp
theorem appMap {A : Type} (enc : A → List D) (l r : List A) : List.map enc l ++ List.map enc r = List.map enc (l ++ r) := by simp
theorem cutMap {A : Type} (enc : A → List D) (l : List A) (a b : Nat) : List.drop a (List.take b (List.map enc l)) = List.map enc (List.drop a (List.take b l)) := by rw [List.map_drop, List.map_take]
theorem partMap {A : Type} (enc : A → List D) (l : List A) (a b : Nat) : List.take b (List.drop a (List.map enc l)) = List.map enc (List.take b (List.drop a l)) := by rw [List.map_take, List.map_drop]
theorem setMap {A : Type} (enc : A → List D) (l : List A) (i : Nat) (x : A) : List.set (List.map enc l) i (enc x) = List.map enc (List.set l i x) := by rw [List.map_set]
theorem sizeMap {A : Type} {enc : A → List D} {z : Nat} (hz : ∀ x, (enc x).length = z) (l : List A) : ∀ c ∈ List.map enc l, c.length = z := by
  intro c hc
  obtain ⟨x, _, rfl⟩ := List.mem_map.1 hc
  exact hz x
/-- a part of a list -/
def cutO (lo hi len : Int) : Bool := decide (0 ≤ lo) && decide (lo ≤ hi) && decide (hi ≤ len)
theorem cutO_all {lo hi len : Int} (h : cutO lo hi len = true) : 0 ≤ lo ∧ lo ≤ hi ∧ hi ≤ len := by
  simpa [cutO, and_assoc] using h
theorem cutO_map {A : Type} {enc : A → List D} {l : List A} {lo hi : Int} {z : Nat} (hz : ∀ x, (enc x).length = z) (h : cutO lo hi l.length = true) : 0 ≤ lo ∧ lo ≤ hi ∧ hi ≤ ((List.map enc l).length : Int) ∧ ∀ c ∈ List.map enc l, c.length = z := by
  obtain ⟨h1, h2, h3⟩ := cutO_all h
  exact ⟨h1, h2, by rw [List.length_map]; exact h3, sizeMap hz l⟩
theorem appChk {A : Type} {enc : A → List D} {l : List A} {n z : Nat} (hz : ∀ x, (enc x).length = z) (h : decide (n + l.length ≤ 1000000) = true) : (∀ c ∈ List.map enc l, c.length = z) ∧ n + (List.map enc l).length ≤ 1000000 :=
  ⟨sizeMap hz l, by rw [List.length_map]; exact of_decide_eq_true h⟩
theorem appChk0 {A : Type} {enc : A → List D} {l : List A} {z : Nat} (hz : ∀ x, (enc x).length = z) (h : decide (l.length ≤ 1000000) = true) : (∀ c ∈ List.map enc l, c.length = z) ∧ (List.map enc l).length ≤ 1000000 :=
  ⟨sizeMap hz l, by rw [List.length_map]; exact of_decide_eq_true h⟩
theorem cutO_map0 {A : Type} {enc : A → List D} {l : List A} {lo : Int} {z : Nat} (hz : ∀ x, (enc x).length = z) (h : cutO lo l.length l.length = true) : 0 ≤ lo ∧ lo ≤ ((List.map enc l).length : Int) ∧ ((List.map enc l).length : Int) ≤ ((List.map enc l).length : Int) ∧ ∀ c ∈ List.map enc l, c.length = z := by
  obtain ⟨h1, h2, h3⟩ := cutO_all h
  exact ⟨h1, by rw [List.length_map]; exact h2, Int.le_refl _, sizeMap hz l⟩
/- the cells of elements of one cell -/
def encI (k : IntKind) (x : Int) : List D := [.v (.int k x)]
theorem encI_plain {k : IntKind} (x : Int) : ∀ d ∈ encI k x, ∃ v : Value, d = .v v := fun d hd => by
  simp only [encI, List.mem_singleton] at hd
  exact ⟨_, hd⟩
def encB (x : Bool) : List D := [.v (.bool x)]
def encS (x : ByteArray) : List D := [.v (.string x)]
def encL {A : Type} (enc : A → List D) (x : List A) : List D := [.fz (List.map enc x)]
/- maps, typed -/
def vB (x : Bool) : D := .v (.bool x)
def vI (k : IntKind) (x : Int) : D := .v (.int k x)
def vS (x : ByteArray) : D := .v (.string x)
def vL {A : Type} (enc : A → List D) (x : List A) : D := .fz (List.map enc x)
def mapE {K V : Type} (ke : K → Value) (ve : V → D) (l : List (K × V)) : List (Value × D) := List.map (fun p => (ke p.1, ve p.2)) l
def mgetT {K V : Type} [BEq K] (k : K) : List (K × V) → V → V
  | [], z => z
  | p :: r, z => bif k == p.1 then p.2 else mgetT k r z
def mhasT {K V : Type} [BEq K] (k : K) : List (K × V) → Bool
  | [] => false
  | p :: r => bif k == p.1 then true else mhasT k r
def mputT {K V : Type} [BEq K] (k : K) (v : V) : List (K × V) → List (K × V)
  | [] => [(k, v)]
  | p :: r => bif k == p.1 then (k, v) :: r else p :: mputT k v r
theorem mget_map {K V : Type} [BEq K] {ke : K → Value} {ve : V → D} (hk : ∀ a b, keyEq (ke a) (ke b) = (a == b)) (k : K) (z : V) : ∀ (l : List (K × V)), (mget (ke k) (mapE ke ve l)).getD (ve z) = ve (mgetT k l z) ∧ (mget (ke k) (mapE ke ve l)).isSome = mhasT k l
  | [] => ⟨rfl, rfl⟩
  | p :: r => by
    obtain ⟨h1, h2⟩ := mget_map hk k z r
    simp only [mapE, List.map_cons, mget, mgetT, mhasT, hk]
    cases k == p.1
    · exact ⟨h1, h2⟩
    · exact ⟨rfl, rfl⟩
def mdelT {K V : Type} [BEq K] (k : K) : List (K × V) → List (K × V)
  | [] => []
  | p :: r => bif k == p.1 then r else p :: mdelT k r
theorem mdel_map {K V : Type} [BEq K] {ke : K → Value} {ve : V → D} (hk : ∀ a b, keyEq (ke a) (ke b) = (a == b)) (k : K) : ∀ (l : List (K × V)), mdel (ke k) (mapE ke ve l) = mapE ke ve (mdelT k l)
  | [] => rfl
  | p :: r => by
    have h := mdel_map (ve := ve) hk k r
    simp only [mapE] at h
    simp only [mapE, List.map_cons, mdel, mdelT, hk]
    cases k == p.1
    · simp only [cond_false, List.map_cons]; rw [h]
    · simp only [cond_true]
theorem mput_map {K V : Type} [BEq K] {ke : K → Value} {ve : V → D} (hk : ∀ a b, keyEq (ke a) (ke b) = (a == b)) (k : K) (v : V) : ∀ (l : List (K × V)), mput (ke k) (ve v) (mapE ke ve l) = mapE ke ve (mputT k v l)
  | [] => rfl
  | p :: r => by
    have h := mput_map (ve := ve) hk k v r
    simp only [mapE] at h
    simp only [mapE, List.map_cons, mput, mputT, hk]
    cases k == p.1
    · simp only [cond_false, List.map_cons, h]
    · rfl
/- calls of functions that came in -/
def capd : AV → Bool
  | .d _ => true
  | .fp _ => true
  | _ => false
theorem argT_caps {cs : List AV} (hc : cs.all capd = true) : ∀ (k : List AV → List (Nat × Nat) → Step), argT (cs.map some) k = k cs [] := by
  induction cs with
  | nil => intro k; rfl
  | cons c cs ih =>
    intro k
    rw [List.all_cons, Bool.and_eq_true] at hc
    have ih := ih hc.2
    have h1 := hc.1
    cases c <;> first | (cases h1; done) | (simp only [List.map_cons, argT, arg1, arg0, ih, List.nil_append])
theorem argT_append (ys : List (Option AV)) : ∀ (xs : List (Option AV)) (k : List AV → List (Nat × Nat) → Step), argT (xs ++ ys) k = argT xs fun a l => argT ys fun b l' => k (a ++ b) (l ++ l') := by
  intro xs
  induction xs with
  | nil => intro k; simp [argT]
  | cons x xs ih =>
    intro k
    cases x with
    | none => rfl
    | some v =>
      have one : ∀ (g : (AV → List (Nat × Nat) → Step) → Step), (argT (some v :: (xs ++ ys)) k = g fun x l => argT (xs ++ ys) fun zs m => k (x :: zs) (l ++ m)) → (∀ k', argT (some v :: xs) k' = g fun x l => argT xs fun zs m => k' (x :: zs) (l ++ m)) → argT (some v :: xs ++ ys) k = argT (some v :: xs) fun a l => argT ys fun b l' => k (a ++ b) (l ++ l') := by
        intro g h1 h2
        rw [List.cons_append, h1, h2]
        congr 1
        funext x l
        rw [ih]
        simp only [List.cons_append, List.append_assoc]
      cases v with
      | agg cs => exact one (fun q => argL cs fun x l => q (.agg x) l) rfl (fun _ => rfl)
      | _ => exact one (fun q => arg1 _ q) rfl (fun _ => rfl)
theorem callG {T : Nat → TI} {base : Nat} {env : Nat → Option AV} {F : FuncId → List AV → AV → Prop} {m : Mem} {K : AV → Mem → Prop} {o : Oper} {fv : Operand} {xs : Array Operand} {ts : Array TypeId} {f : FuncId} {cs : List AV} (ho : o.op = .call { callee := .value fv, args := xs, argTypes := ts }) (hw : Nat.beq (ownOf T fv) 0 = true) (hfv : rhoOf env fv = some (.fn f cs)) (hc : cs.all capd = true)
    (h : (argT (xs.toList.map (rhoOf env)) fun ys l => .call f (ys ++ cs) fun r => bif scalar r then recv (base + o.dst.getD 0) r .ret else frzL l (recv (base + o.dst.getD 0) r .ret)).wp F m K) : (opF T base env o).wp F m K := by
  have e : opF T base env o = fcallF (base + o.dst.getD 0) (rhoOf env fv) (xs.toList.map (rhoOf env)) := by
    unfold opF
    rw [ho]
    show (bif Nat.beq (ownOf T fv) 0 then _ else _ : Step) = _
    rw [hw]
    rfl
  have hc1 : cs.all cap1 = true := List.all_eq_true.2 fun x hx => by
    have := List.all_eq_true.1 hc x hx
    cases x <;> first | rfl | cases this
  rw [e, hfv]
  unfold fcallF
  simp only [hc1, cond_true]
  unfold callF
  rw [argT_append]
  simp only [argT_caps hc, List.append_nil]
  exact h
theorem Fn.cast {dr : Prop} {P : Program} {f : FuncId} {a b : List AV} {r : AV} (h : Fn dr P f a r) (e : a = b) : Fn dr P f b r := e ▸ h
/-- a slice without elements, nil or not -/
theorem Fn.slice0 {dr : Prop} {P : Program} {f : FuncId} {r : AV} (h0 : Fn dr P f [.d (.v (.slice none 0 0))] r) (h1 : ∀ a c, Fn dr P f [.d (.v (.slice (some a) 0 c))] r) : Fn dr P f [.d (.fz [])] r := by
  refine ⟨h0.1, fun w A vals hI hA hrel => ?_⟩
  obtain ⟨v, vs', hv, hx, hnil⟩ := hrel.cons_inv
  have hone : ∀ (A' : Option Addr) (c : Nat), (A' = none → c = 0) → v = .slice A' 0 c → ∃ a : AV, Fn dr P f [a] r ∧ RelL (cx0 A w) [a] vals.toList := by
    rintro A' c hA' rfl
    cases A' with
    | none =>
      have := hA' rfl
      subst this
      exact ⟨_, h0, by rw [hv, hnil.nil_inv]; exact .cons (.d (.v _ rfl)) (.nil _)⟩
    | some a => exact ⟨_, h1 a c, by rw [hv, hnil.nil_inv]; exact .cons (.d (.v _ rfl)) (.nil _)⟩
  have : ∃ a : AV, Fn dr P f [a] r ∧ RelL (cx0 A w) [a] vals.toList := by
    cases hx with
    | d hx =>
      cases hx with
      | fz0 A' c hc => exact hone A' c hc rfl
      | fz _ b o sz c vs => exact hone _ c (fun e => by cases e) rfl
  obtain ⟨a, h2, h3⟩ := this
  exact h2.2 w A vals hI hA h3
theorem cloneE {A : Type} {s r : List A} (h : ((chkO (decide (s.length ≤ 1000000))).bind fun _ => some s) = some r) : s = r := by
  obtain ⟨_, h⟩ := chkE_ h
  injection h
end Go.Proofs.Ytlgadmholjaljaa

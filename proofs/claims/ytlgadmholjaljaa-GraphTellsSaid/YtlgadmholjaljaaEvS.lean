/-
  The evaluation, step by step: one lemma for each step. Over any program.
-/
import Derived.Test.YtlgadmholjaljaaEvR
namespace Go.Proofs.Ytlgadmholjaljaa
open Go.RowKit
/-- an operation's steps, up to one that asks for something -/
def evT : Step → Mem → Step × Mem
  | .rdb s g k, m => match m.at_ s g with
    | some (.box cs) => evT (k cs) m
    | _ => (.fail, m)
  | .rdr s g k, m => match m.at_ s g with
    | some (.rows _ es _) => evT (k es) m
    | _ => (.fail, m)
  | .rdm s g k, m => match m.at_ s g with
    | some (.mapi ck es) => evT (k ck es) m
    | _ => (.fail, m)
  | .rww s g k, m => match m.at_ s g with
    | some (.rows sz es false) => evT (k sz es) m
    | _ => (.fail, m)
  | .rdz s g z k, m => match m.at_ s g with
    | some (.rows sz _ _) => bif Nat.beq sz z then evT k m else (.fail, m)
    | _ => (.fail, m)
  | .wr s g i k, m => evT k (m.set s g (some i))
  | .new s i k, m => evT (k (m.gen s + 1)) (m.add s i)
  | .app s g sz xs k, m => match m.at_ s g with
    | some (.rows sz' es false) => bif Nat.beq sz sz' then evT (k (m.gen s + 1)) ((m.set s g none).add s (.rows sz (es ++ xs) false)) else (.fail, m)
    | _ => (.fail, m)
  | .frz s g k, m => match m.at_ s g with
    | some (.rows sz es _) => evT k (m.set s g (some (.rows sz es true)))
    | _ => (.fail, m)
  | .ret v, m => (.ret v, m)
  | .elem es i k, m => (.elem es i k, m)
  | .call f args k, m => (.call f args k, m)
  | .chk p k, m => (.chk p k, m)
  | .br b x y, m => (.br b x y, m)
  | .fail, m => (.fail, m)
section
variable {F : FuncId → List AV → AV → Prop}
theorem evT_wp (s : Step) : ∀ (m : Mem) (K : AV → Mem → Prop), (evT s m).1.wp F (evT s m).2 K → s.wp F m K := by
  induction s with
  | ret v => exact fun m K h => h
  | rdb s g k ih =>
    intro m K h
    simp only [evT] at h
    simp only [Step.wp]
    split at h
    · rename_i hm
      simp only [hm]
      exact ih _ _ _ h
    · exact h.elim
  | rdr s g k ih =>
    intro m K h
    simp only [evT] at h
    simp only [Step.wp]
    split at h
    · rename_i hm
      simp only [hm]
      exact ih _ _ _ h
    · exact h.elim
  | rdm s g k ih =>
    intro m K h
    simp only [evT] at h
    simp only [Step.wp]
    split at h
    · rename_i hm
      simp only [hm]
      exact ih _ _ _ _ h
    · exact h.elim
  | rww s g k ih =>
    intro m K h
    simp only [evT] at h
    simp only [Step.wp]
    split at h
    · rename_i hm
      simp only [hm]
      exact ih _ _ _ _ h
    · exact h.elim
  | rdz s g z k ih =>
    intro m K h
    simp only [evT] at h
    simp only [Step.wp]
    split at h
    · rename_i sz es ro hm
      cases hb : Nat.beq sz z
      · rw [hb] at h; exact h.elim
      · rw [hb] at h
        simp only [hm, hb, cond_true]
        exact ih _ _ h
    · exact h.elim
  | wr s g i k ih => exact fun m K h => ih _ _ h
  | new s i k ih => exact fun m K h => ih _ _ _ h
  | app s g sz xs k ih =>
    intro m K h
    simp only [evT] at h
    simp only [Step.wp]
    split at h
    · rename_i sz' es hm
      cases hb : Nat.beq sz sz'
      · rw [hb] at h; exact h.elim
      · rw [hb] at h
        simp only [hm, hb, cond_true]
        exact ih _ _ _ h
    · exact h.elim
  | frz s g k ih =>
    intro m K h
    simp only [evT] at h
    simp only [Step.wp]
    split at h
    · rename_i hm
      simp only [hm]
      exact ih _ _ h
    · exact h.elim
  | elem es i k ih => exact fun m K h => h
  | call f args k ih => exact fun m K h => h
  | chk p k ih => exact fun m K h => h
  | br b x y ihx ihy => exact fun m K h => h
  | fail => exact fun m K h => h
variable {s : Step} {m m' m0 : Mem} {K : AV → Mem → Prop}
theorem evT_to {s' : Step} (e : evT s m = (s', m')) (h : s'.wp F m' K) : s.wp F m K := evT_wp s m K (by rw [e]; exact h)
theorem W.det (v : AV) (m' : Mem) (e : evT s m = (.ret v, m')) (h : K v m') : s.wp F m K := evT_to e h
theorem W.to {v v2 : AV} {m' m2 : Mem} (e : evT s m = (.ret v, m')) (e1 : v = v2) (e2 : m' = m2) (h : K v2 m2) : s.wp F m K := by
  subst e1 e2
  exact evT_to e h
theorem W.chk {p : Prop} {k : Step} (e : evT s m = (.chk p k, m')) (hp : p) (h : k.wp F m' K) : s.wp F m K := evT_to e ⟨hp, h⟩
theorem W.elem {es : List (List D)} {i : Nat} {k : List D → Step} {c : List D} (e : evT s m = (.elem es i k, m')) (hc : es[i]? = some c) (h : (k c).wp F m' K) : s.wp F m K := evT_to e ⟨c, hc, h⟩
theorem W.call {f : FuncId} {args : List AV} {k : AV → Step} {r : AV} (e : evT s m = (.call f args k, m')) (hf : F f args r) (h : (k r).wp F m' K) : s.wp F m K := evT_to e ⟨r, hf, h⟩
theorem W.br {B : Type} {b : Bool} {p q : Option B} {f : B} {x y : Step} (e : evT s m = (.br b x y, m')) (hb : (bif b then p else q) = some f) (h1 : b = true → p = some f → x.wp F m' K) (h2 : b = false → q = some f → y.wp F m' K) : s.wp F m K := evT_to e (ifp hb h1 h2)
theorem W.v (v v2 : AV) (m' : Mem) (e : evT s m = (.ret v, m')) (e1 : v = v2) (h : K v2 m') : s.wp F m K := by
  subst e1
  exact evT_to e h
theorem W.rows (n n2 : Nat) (es es2 : List (List D)) {s1 g1 z : Nat} (e : evT s m = (.ret (.row s1 g1 n), Mem.add m0 s1 (.rows z es false))) (hn : n = n2) (he : es = es2) (h : K (.row s1 g1 n2) (Mem.add m0 s1 (.rows z es2 false))) : s.wp F m K := by
  subst hn he
  exact evT_to e h
theorem W.look {Kt V : Type} [BEq Kt] (ke : Kt → Value) (ve : V → D) (k : Kt) (l : List (Kt × V)) (z : V) (hk : ∀ a b, keyEq (ke a) (ke b) = (a == b)) (e : evT s m = (.ret (mres false (mget (ke k) (mapE ke ve l)) (ve z)), m')) (h : K (mcell (ve (mgetT k l z))) m') : s.wp F m K := by
  have h1 : mres false (mget (ke k) (mapE ke ve l)) (ve z) = mcell (ve (mgetT k l z)) := by
    show mcell _ = _
    rw [(mget_map hk k z l).1]
  rw [h1] at e
  exact evT_to e h
theorem W.look2 {Kt V : Type} [BEq Kt] (ke : Kt → Value) (ve : V → D) (k : Kt) (l : List (Kt × V)) (z : V) (hk : ∀ a b, keyEq (ke a) (ke b) = (a == b)) (e : evT s m = (.ret (mres true (mget (ke k) (mapE ke ve l)) (ve z)), m')) (h : K (.tup [mcell (ve (mgetT k l z)), B (mhasT k l)]) m') : s.wp F m K := by
  have h1 : mres true (mget (ke k) (mapE ke ve l)) (ve z) = .tup [mcell (ve (mgetT k l z)), B (mhasT k l)] := by
    show AV.tup [mcell _, B _] = _
    rw [(mget_map hk k z l).1, (mget_map hk k z l).2]
  rw [h1] at e
  exact evT_to e h
theorem W.mput {Kt V : Type} [BEq Kt] (ke : Kt → Value) (ve : V → D) (k : Kt) (v : V) (l : List (Kt × V)) {s1 g1 : Nat} {ck : CK} (hk : ∀ a b, keyEq (ke a) (ke b) = (a == b)) (e : evT s m = (.ret (.tup []), Mem.set m0 s1 g1 (some (.mapi ck (mput (ke k) (ve v) (mapE ke ve l)))))) (h : K (.tup []) (Mem.set m0 s1 g1 (some (.mapi ck (mapE ke ve (mputT k v l)))))) : s.wp F m K := by
  rw [mput_map hk] at e
  exact evT_to e h
theorem W.mdel {Kt V : Type} [BEq Kt] (ke : Kt → Value) (ve : V → D) (k : Kt) (l : List (Kt × V)) {s1 g1 : Nat} {ck : CK} (hk : ∀ a b, keyEq (ke a) (ke b) = (a == b)) (e : evT s m = (.ret (.tup []), Mem.set m0 s1 g1 (some (.mapi ck (mdel (ke k) (mapE ke ve l)))))) (h : K (.tup []) (Mem.set m0 s1 g1 (some (.mapi ck (mapE ke ve (mdelT k l)))))) : s.wp F m K := by
  rw [mdel_map hk] at e
  exact evT_to e h
theorem W.len {A : Type} {enc : A → List D} {l : List A} (e : evT s m = (.ret (.d (.v (.int .i64 ((List.map enc l).length : Int)))), m')) (h : K (.d (.v (.int .i64 (l.length : Int)))) m') : s.wp F m K := by
  rw [List.length_map] at e
  exact evT_to e h
theorem W.lenM {Kt V : Type} {ke : Kt → Value} {ve : V → D} {l : List (Kt × V)} (e : evT s m = (.ret (.d (.v (.int .i64 ((mapE ke ve l).length : Int)))), m')) (h : K (.d (.v (.int .i64 (l.length : Int)))) m') : s.wp F m K := by
  have e1 : (mapE ke ve l).length = l.length := List.length_map ..
  rw [e1] at e
  exact evT_to e h
theorem W.cut {A : Type} {enc : A → List D} {l : List A} {a b : Nat} (e : evT s m = (.ret (.d (.fz (List.drop a (List.take b (List.map enc l))))), m')) (h : K (.d (.fz (List.map enc (List.drop a (List.take b l))))) m') : s.wp F m K := by
  rw [cutMap] at e
  exact evT_to e h
theorem W.cutE {A : Type} {enc : A → List D} {l : List A} {a : Nat} (e : evT s m = (.ret (.d (.fz (List.drop a (List.take (((List.map enc l).length : Int).toNat) (List.map enc l))))), m')) (h : K (.d (.fz (List.map enc (List.drop a (List.take ((l.length : Int).toNat) l))))) m') : s.wp F m K := by
  rw [List.length_map, cutMap] at e
  exact evT_to e h
theorem W.srows (n n2 : Nat) (es es2 : List (List D)) {s1 g1 z : Nat} (e : evT s m = (.ret (.sub s1 g1 0 n), Mem.add m0 s1 (.rows z es false))) (hn : n = n2) (he : es = es2) (h : K (.sub s1 g1 0 n2) (Mem.add m0 s1 (.rows z es2 false))) : s.wp F m K := by
  subst hn he
  exact evT_to e h
theorem W.app {A : Type} {enc : A → List D} {l l2 : List A} {n s1 g1 z : Nat} (e : evT s m = (.ret (.row s1 g1 (n + (List.map enc l2).length)), Mem.add m0 s1 (.rows z (List.map enc l ++ List.map enc l2) false))) (hn : n = l.length) (h : K (.row s1 g1 (l ++ l2).length) (Mem.add m0 s1 (.rows z (List.map enc (l ++ l2)) false))) : s.wp F m K := by
  rw [appMap, hn, appLen] at e
  exact evT_to e h
theorem W.app0 {A : Type} {enc : A → List D} {l : List A} {s1 g1 z : Nat} (e : evT s m = (.ret (.row s1 g1 (List.map enc l).length), Mem.add m0 s1 (.rows z (List.map enc l) false))) (h : K (.row s1 g1 l.length) (Mem.add m0 s1 (.rows z (List.map enc l) false))) : s.wp F m K := by
  rw [List.length_map] at e
  exact evT_to e h
theorem copyChk {A : Type} {enc : A → List D} {z : Nat} {l : List A} (h : ∀ a, (enc a).length = z) : ∀ c ∈ List.map enc l, c.length = z := by
  intro c hc
  obtain ⟨a, _, rfl⟩ := List.mem_map.1 hc
  exact h a
theorem W.copy {A : Type} {enc : A → List D} {l ys : List A} {s1 g1 z : Nat} (e : evT s m = (.ret (.d (.v (.int .i64 (Nat.min (List.map enc ys).length (List.map enc l).length : Nat)))), Mem.set m0 s1 g1 (some (.rows z (List.take (List.map enc l).length (List.map enc ys) ++ List.drop (List.map enc ys).length (List.map enc l)) false))))
    (h : K (.d (.v (.int .i64 ((Nat.min ys.length l.length : Nat) : Int)))) (Mem.set m0 s1 g1 (some (.rows z (List.map enc (List.take l.length ys ++ List.drop ys.length l)) false)))) : s.wp F m K := by
  rw [List.length_map, List.length_map, ← List.map_take, ← List.map_drop, ← List.map_append] at e
  exact evT_to e h
theorem W.set {A : Type} {enc : A → List D} {l : List A} {i s1 g1 z : Nat} {c : List D} (y : A) (e : evT s m = (.ret (.tup []), Mem.set m0 s1 g1 (some (.rows z (List.set (List.map enc l) i c) false)))) (hc : c = enc y) (h : K (.tup []) (Mem.set m0 s1 g1 (some (.rows z (List.map enc (List.set l i y)) false)))) : s.wp F m K := by
  rw [hc, setMap] at e
  exact evT_to e h
end
/- what comes behind -/
def seqK (y : ASt → (Ex → ASt → Prop) → Prop) (Q : Ex → ASt → Prop) : Ex → ASt → Prop
  | .normal, st => y st Q
  | .exit i, st => Q (.exit i) st
  | .ret, st => Q .ret st
def blockK (id : Nat) (Q : Ex → ASt → Prop) : Ex → ASt → Prop
  | .normal, st => Q .normal st
  | .exit i, st => bif Nat.beq i id then Q .normal st else Q (.exit i) st
  | .ret, st => Q .ret st
def headK {S : Type} (E : S → List (Nat × AV)) (M : S → List (Nat × Inst)) (J : S → Prop) (Q : Ex → ASt → Prop) : Ex → ASt → Prop
  | .normal, st => ∃ x, J x ∧ Enters st (E x) (M x)
  | .exit i, st => Q (.exit i) st
  | .ret, st => Q .ret st
section
variable {T : Nat → TI} {base nt : Nat} {F : FuncId → List AV → AV → Prop} {js : List Nat} {st : ASt} {Q : Ex → ASt → Prop}
theorem seqK.n {y : ASt → (Ex → ASt → Prop) → Prop} (h : y st Q) : seqK y Q .normal st := h
theorem seqK.e {y : ASt → (Ex → ASt → Prop) → Prop} {i : Nat} (h : Q (.exit i) st) : seqK y Q (.exit i) st := h
theorem seqK.r {y : ASt → (Ex → ASt → Prop) → Prop} (h : Q .ret st) : seqK y Q .ret st := h
theorem blockK.n {id : Nat} (h : Q .normal st) : blockK id Q .normal st := h
theorem blockK.x {id : Nat} (h : Q .normal st) : blockK id Q (.exit id) st := by
  show bif Nat.beq id id then _ else _
  rw [Nat.beq_refl]
  exact h
theorem blockK.e {id i : Nat} (hi : Nat.beq i id = false) (h : Q (.exit i) st) : blockK id Q (.exit i) st := by
  show bif Nat.beq i id then _ else _
  rw [hi]
  exact h
theorem blockK.r {id : Nat} (h : Q .ret st) : blockK id Q .ret st := h
theorem headK.n {S : Type} {E : S → List (Nat × AV)} {M : S → List (Nat × Inst)} {J : S → Prop} {x : S} (hJ : J x) (h : Enters st (E x) (M x)) : headK E M J Q .normal st := ⟨x, hJ, h⟩
theorem headK.e {S : Type} {E : S → List (Nat × AV)} {M : S → List (Nat × Inst)} {J : S → Prop} {i : Nat} (h : Q (.exit i) st) : headK E M J Q (.exit i) st := h
theorem headK.r {S : Type} {E : S → List (Nat × AV)} {M : S → List (Nat × Inst)} {J : S → Prop} (h : Q .ret st) : headK E M J Q .ret st := h
theorem Enters.of (fl : List (Nat × Nat)) (σ : List (Nat × Nat × Nat)) {E : List (Nat × AV)} {M : List (Nat × Inst)} (m : Mem) (h0 : frzM st.m fl = some m) (h1 : sepM σ M = true) (h2 : chkE σ ⟨st.env, m⟩ E) (h3 : chkM σ ⟨st.env, m⟩ M) : Enters st E M := by
  refine ⟨fl, σ, ?_⟩
  rw [h0]
  exact ⟨h1, h2, h3⟩
theorem chkE.c {σ : List (Nat × Nat × Nat)} {t : Nat} {v : AV} {r : List (Nat × AV)} (hl : lowV v = true) (h : mapO (viewV st.m v) (unkO (st.env t)) = some (renV σ v)) (hr : chkE σ st r) : chkE σ st ((t, v) :: r) := by
  simp only [chkE, hl]
  exact ⟨h, hr⟩
theorem chkM.c {σ : List (Nat × Nat × Nat)} {s : Nat} {i : Inst} {r : List (Nat × Inst)} (hl : lowI i = true) (h : mapO (viewI st.m i) (st.m.at_ (sig σ s).1 (sig σ s).2) = some (renI σ i)) (hr : chkM σ st r) : chkM σ st ((s, i) :: r) := by
  simp only [chkM, hl]
  exact ⟨h, hr⟩
theorem chkE.g {σ : List (Nat × Nat × Nat)} {t : Nat} {f : FuncId} {cs : List AV} {r : List (Nat × AV)} (hc : cs.all capd = true) (h : mapO (viewV st.m (.fn f cs)) (unkO (st.env t)) = some (.fn f cs)) (hr : chkE σ st r) : chkE σ st ((t, .fn f cs) :: r) := by
  have h1 : cs.all low1 = true := List.all_eq_true.2 fun x hx => by
    have := List.all_eq_true.1 hc x hx
    cases x <;> first | rfl | cases this
  have h2 : cs.map (ren1 σ) = cs := by
    have : ∀ x ∈ cs, ren1 σ x = x := fun x hx => by
      have := List.all_eq_true.1 hc x hx
      cases x <;> first | rfl | cases this
    exact (List.map_congr_left this).trans (List.map_id' cs)
  refine chkE.c h1 ?_ hr
  show _ = some (AV.fn f (cs.map (ren1 σ)))
  rw [h2]
  exact h
theorem A.skip (h : Q .normal st) : AW T base nt F js .skip st Q := h
theorem A.exit {i : Nat} (h : Q (.exit i) st) : AW T base nt F js (.exit i) st Q := h
theorem A.ret (h : Q .ret st) : AW T base nt F js .ret st Q := h
theorem A.seq {a b : Code} (hj : joinAt js b = false) (h : AW T base nt F js a st (seqK (AW T base nt F js b) Q)) : AW T base nt F js (.seq a b) st Q := by
  have e : seqK (AW T base nt F js b) Q = fun e st' => match e with
      | .normal => AW T base nt F js b st' Q
      | e => Q e st' := by
    funext e st'
    cases e <;> rfl
  rw [e] at h
  simp only [AW, hj]
  exact h
theorem A.block {id : Nat} {c : Code} (h : AW T base nt F js c st (blockK id Q)) : AW T base nt F js (.block id c) st Q := by
  have e : blockK id Q = fun e st' => match e with
      | .exit i => bif Nat.beq i id then Q .normal st' else Q (.exit i) st'
      | e => Q e st' := by
    funext e st'
    cases e <;> rfl
  rw [e] at h
  exact h
theorem A.join {S B : Type} {a b : Code} {p : Option (S ⊕ B)} {k : S → Option B} {o : B} (E : S → List (Nat × AV)) (M : S → List (Nat × Inst)) (G : B → Prop) (h : seqF p k = some o) (hG : G o) (hj : joinAt js b = true)
    (ha : ∀ (J : S → Prop) (f : S ⊕ B), p = some f → Good J G f → AW T base nt F js a st (headK E M J Q))
    (hb : ∀ (s : S) (o : B), k s = some o → G o → AW T base nt F js b (mkSt (E s) (M s)) Q) : AW T base nt F js (.seq a b) st Q := by
  simp only [AW, hj]
  refine SeqP.of E M G h hG (fun J f h1 h2 => ?_) hb
  have e : headK E M J Q = fun e st' => match e with
      | .normal => ∃ z, J z ∧ Enters st' (E z) (M z)
      | e => Q e st' := by
    funext e st'
    cases e <;> rfl
  have := ha J f h1 h2
  rw [e] at this
  exact this
theorem A.loop {S B : Type} {c : Code} {body : S → Option (S ⊕ B)} {s0 : S} {o : B} (E : S → List (Nat × AV)) (M : S → List (Nat × Inst)) (G : B → Prop) (h : loopF body s0 = some o) (hG : G o) (hen : Enters st (E s0) (M s0))
    (round : ∀ (J : S → Prop) (s : S) (f : S ⊕ B), body s = some f → Good J G f → AW T base nt F js c (mkSt (E s) (M s)) (headK E M J Q)) : AW T base nt F js (.loop c) st Q := by
  refine LoopP.of E M G h hG hen (fun J s f h1 h2 => ?_)
  have e : headK E M J Q = fun e st' => match e with
      | .normal => ∃ x', J x' ∧ Enters st' (E x') (M x')
      | e => Q e st' := by
    funext e st'
    cases e <;> rfl
  have := round J s f h1 h2
  rw [e] at this
  exact this
theorem A.condT {c : Operand} {x y : Code} (e : rawOf st.env c = some (.kb true)) (h : AW T base nt F js x st Q) : AW T base nt F js (.cond c x y) st Q := by
  simp only [AW, e]
  exact h
theorem A.condF {c : Operand} {x y : Code} (e : rawOf st.env c = some (.kb false)) (h : AW T base nt F js y st Q) : AW T base nt F js (.cond c x y) st Q := by
  simp only [AW, e]
  exact h
theorem A.condB {B : Type} {c : Operand} {x y : Code} {b : Bool} {p q : Option B} {f : B} (e : rawOf st.env c = some (.d (.v (.bool b)))) (hb : (bif b then p else q) = some f) (h1 : b = true → p = some f → AW T base nt F js x st Q) (h2 : b = false → q = some f → AW T base nt F js y st Q) : AW T base nt F js (.cond c x y) st Q := by
  simp only [AW, e]
  exact ifp hb h1 h2
theorem A.condBT {c : Operand} {x y : Code} (e : rawOf st.env c = some (.d (.v (.bool true)))) (h : AW T base nt F js x st Q) : AW T base nt F js (.cond c x y) st Q := by
  simp only [AW, e]
  exact ⟨fun _ => h, fun e => (by cases e)⟩
theorem A.condBF {c : Operand} {x y : Code} (e : rawOf st.env c = some (.d (.v (.bool false)))) (h : AW T base nt F js y st Q) : AW T base nt F js (.cond c x y) st Q := by
  simp only [AW, e]
  exact ⟨fun e => (by cases e), fun _ => h⟩
theorem A.region {i : Nat} {l : List Oper} (h : runL T base nt F l l st (Q .normal)) : AW T base nt F js (.region i l.toArray false) st Q := h
theorem A.regionD {i : Nat} {l : List Oper} (hd : drawOk T l.toArray = true) (h : runL T base nt F l l st (Q .normal)) : AW T base nt F js (.region i l.toArray true) st Q := Or.inl ⟨hd, h⟩
theorem A.regionC {i : Nat} {l : List Oper} (c : List Nat) (hd : drawOkC T l.toArray c = true) (h : runC T base nt F l.toArray c st (Q .normal)) : AW T base nt F js (.region i l.toArray true) st Q := Or.inr ⟨c, hd, h⟩
variable {ops r : List Oper} {K : ASt → Prop} {dst : Option Tmp} {op : Op} {ty : TypeId} {pos : String} {after : Array Edge}
theorem R.end_ {l : List Oper} (h : K st) : runC T base nt F l.toArray [] st K := h
theorem R.at_ {l : List Oper} {i : Nat} {r : List Nat} {o : Oper} (e : l[i]? = some o) (hs : siteB base l st.env o = true) (h : runL T base nt F l [o] st fun st' => runC T base nt F l.toArray r st' K) : runC T base nt F l.toArray (i :: r) st K := by
  have e' : l.toArray[i]? = some o := by simpa using e
  unfold runC
  rw [e']
  exact ⟨hs, h⟩
theorem R.nil (h : K st) : runL T base nt F ops [] st K := h
theorem R.one (hd : dstOk nt ⟨dst, op, ty, pos, after, none⟩ = true) (h : (opF T base st.env ⟨dst, op, ty, pos, after, none⟩).wp F st.m fun v m => runL T base nt F ops r ⟨putE st.env dst v, m⟩ K) : runL T base nt F ops (⟨dst, op, ty, pos, after, none⟩ :: r) st K := by
  simp only [runL, hd]
  exact h
theorem R.skip {j : Nat} {want : Bool} {t : Tmp} (hd : dstOk nt ⟨dst, op, ty, pos, after, some (j, want)⟩ = true) (et : gdst ops j = some t) (e : st.env t = some (.kb !want)) (h : runL T base nt F ops r ⟨putE st.env dst (.tup []), st.m⟩ K) : runL T base nt F ops (⟨dst, op, ty, pos, after, some (j, want)⟩ :: r) st K := by
  simp only [runL, hd, et, e]
  cases want <;> exact h
theorem R.none_ {j : Nat} {want : Bool} {t : Tmp} (hd : dstOk nt ⟨dst, op, ty, pos, after, some (j, want)⟩ = true) (et : gdst ops j = some t) (e : st.env t = some (.tup [])) (h : runL T base nt F ops r ⟨putE st.env dst (.tup []), st.m⟩ K) : runL T base nt F ops (⟨dst, op, ty, pos, after, some (j, want)⟩ :: r) st K := by
  simp only [runL, hd, et, e]
  exact h
theorem R.run {j : Nat} {want : Bool} {t : Tmp} (hd : dstOk nt ⟨dst, op, ty, pos, after, some (j, want)⟩ = true) (et : gdst ops j = some t) (e : st.env t = some (.kb want)) (h : (opF T base st.env ⟨dst, op, ty, pos, after, some (j, want)⟩).wp F st.m fun v m => runL T base nt F ops r ⟨putE st.env dst v, m⟩ K) : runL T base nt F ops (⟨dst, op, ty, pos, after, some (j, want)⟩ :: r) st K := by
  simp only [runL, hd, et, e]
  cases want <;> exact h
theorem R.gT {B : Type} {p q : Option B} {f : B} {j : Nat} {t : Tmp} {b : Bool} (hd : dstOk nt ⟨dst, op, ty, pos, after, some (j, true)⟩ = true) (et : gdst ops j = some t) (e : st.env t = some (.d (.v (.bool b)))) (hb : (bif b then p else q) = some f)
    (h1 : b = true → p = some f → (opF T base (updT st.env t (some (.kb true))) ⟨dst, op, ty, pos, after, some (j, true)⟩).wp F st.m fun v m => runL T base nt F ops r ⟨putE (updT st.env t (some (.kb true))) dst v, m⟩ K)
    (h2 : b = false → q = some f → runL T base nt F ops r ⟨putE (updT st.env t (some (.kb false))) dst (.tup []), st.m⟩ K) : runL T base nt F ops (⟨dst, op, ty, pos, after, some (j, true)⟩ :: r) st K := by
  simp only [runL, hd, et, e]
  exact ifp hb h1 h2
theorem R.gF {B : Type} {p q : Option B} {f : B} {j : Nat} {t : Tmp} {b : Bool} (hd : dstOk nt ⟨dst, op, ty, pos, after, some (j, false)⟩ = true) (et : gdst ops j = some t) (e : st.env t = some (.d (.v (.bool b)))) (hb : (bif b then p else q) = some f)
    (h1 : b = true → p = some f → runL T base nt F ops r ⟨putE (updT st.env t (some (.kb true))) dst (.tup []), st.m⟩ K)
    (h2 : b = false → q = some f → (opF T base (updT st.env t (some (.kb false))) ⟨dst, op, ty, pos, after, some (j, false)⟩).wp F st.m fun v m => runL T base nt F ops r ⟨putE (updT st.env t (some (.kb false))) dst v, m⟩ K) : runL T base nt F ops (⟨dst, op, ty, pos, after, some (j, false)⟩ :: r) st K := by
  simp only [runL, hd, et, e]
  exact ifp hb h1 h2
/-- a guard that is known -/
theorem R.litN {j : Nat} {want : Bool} {t : Tmp} (hd : dstOk nt ⟨dst, op, ty, pos, after, some (j, want)⟩ = true) (et : gdst ops j = some t) (e : st.env t = some (.d (.v (.bool (!want))))) (h : runL T base nt F ops r ⟨putE (updT st.env t (some (.kb (!want)))) dst (.tup []), st.m⟩ K) : runL T base nt F ops (⟨dst, op, ty, pos, after, some (j, want)⟩ :: r) st K := by
  cases want
  · simp only [runL, hd, et, e]
    exact ⟨fun _ => h, fun e => (by cases e)⟩
  · simp only [runL, hd, et, e]
    exact ⟨fun e => (by cases e), fun _ => h⟩
theorem R.litY {j : Nat} {want : Bool} {t : Tmp} (hd : dstOk nt ⟨dst, op, ty, pos, after, some (j, want)⟩ = true) (et : gdst ops j = some t) (e : st.env t = some (.d (.v (.bool want)))) (h : (opF T base (updT st.env t (some (.kb want))) ⟨dst, op, ty, pos, after, some (j, want)⟩).wp F st.m fun v m => runL T base nt F ops r ⟨putE (updT st.env t (some (.kb want))) dst v, m⟩ K) : runL T base nt F ops (⟨dst, op, ty, pos, after, some (j, want)⟩ :: r) st K := by
  cases want
  · simp only [runL, hd, et, e]
    exact ⟨fun e => (by cases e), fun _ => h⟩
  · simp only [runL, hd, et, e]
    exact ⟨fun _ => h, fun e => (by cases e)⟩
/-- a call that hands on a function that came in -/
theorem callZ {env : Nat → Option AV} {m : Mem} {K : AV → Mem → Prop} {o : Oper} {fv : Operand} {xs : Array Operand} {ts : Array TypeId} {f g : FuncId} {gc : List AV} (vs : List (Option AV)) (ho : o.op = .call { callee := .value fv, args := xs, argTypes := ts }) (hw : Nat.beq (ownOf T fv) 0 = true) (hfv : rhoOf env fv = some (.fn f [])) (hl : xs.toList.map (rhoOf env) = vs ++ [some (.fn g gc)]) (hc : gc.all capd = true)
    (h : (argT vs fun ys l => .call f (ys ++ [.fn g gc]) fun r => bif scalar r then recv (base + o.dst.getD 0) r .ret else frzL l (recv (base + o.dst.getD 0) r .ret)).wp F m K) : (opF T base env o).wp F m K := by
  refine callG ho hw hfv rfl ?_
  have argL_caps : ∀ (cs : List AV), cs.all capd = true → ∀ (k : List AV → List (Nat × Nat) → Step), argL cs k = k cs [] := by
    intro cs
    induction cs with
    | nil => exact fun _ k => rfl
    | cons c cs ih =>
      intro hc k
      rw [List.all_cons, Bool.and_eq_true] at hc
      have ih := ih hc.2
      have h1 := hc.1
      cases c <;> first | (cases h1; done) | (simp only [argL, arg0, ih, List.nil_append])
  have e : ∀ k : List AV → List (Nat × Nat) → Step, argT [some (.fn g gc)] k = k [.fn g gc] [] := by
    intro k
    show arg1 (.fn g gc) (fun x l => argT [] fun xs m => k (x :: xs) (l ++ m)) = _
    simp only [arg1, argL_caps gc hc, argT, List.append_nil]
  rw [hl, argT_append]
  simp only [e, List.append_nil]
  exact h
theorem callG' {env : Nat → Option AV} {m : Mem} {K : AV → Mem → Prop} {o : Oper} {fv : Operand} {xs : Array Operand} {ts : Array TypeId} {f : FuncId} {cs : List AV} (ho : o.op = .call { callee := .value fv, args := xs, argTypes := ts }) (hw : Nat.beq (ownOf T fv) 0 = true) (hfv : rhoOf env fv = some (.fn f cs)) (hc : cs.all capd = true)
    (h : (argT (xs.toList.map (rhoOf env)) fun ys l => .call f (ys ++ cs) fun r => bif scalar r then recv (base + o.dst.getD 0) r .ret else frzL l (recv (base + o.dst.getD 0) r .ret)).wp F m K) : (opF T base env o).wp F m K := callG ho hw hfv hc h
end
end Go.Proofs.Ytlgadmholjaljaa

/-
  Short names: values, and steps that come one after the other. Over any program.
-/
import Derived.Test.YtlgadmholjaljaaEvS
namespace Go.Proofs.Ytlgadmholjaljaa
open Go.RowKit
abbrev VI (n : Int) : AV := .d (.v (.int .i64 n))
abbrev VB (b : Bool) : AV := .d (.v (.bool b))
abbrev VS (s : ByteArray) : AV := .d (.v (.string s))
abbrev VF (l : List (List D)) : AV := .d (.fz l)
abbrev DI (n : Int) : D := .v (.int .i64 n)
abbrev DB (b : Bool) : D := .v (.bool b)
abbrev DS (s : ByteArray) : D := .v (.string s)
section
variable {T : Nat → TI} {base nt : Nat} {F : FuncId → List AV → AV → Prop} {js : List Nat} {Q : Ex → ASt → Prop} {env : Nat → Option AV} {m : Mem}
variable {ops r : List Oper} {K : ASt → Prop} {dst : Option Tmp} {op : Op} {ty : TypeId} {pos : String} {after : Array Edge}
theorem Y1 (hd : dstOk nt ⟨dst, op, ty, pos, after, none⟩ = true) (h : (opF T base env ⟨dst, op, ty, pos, after, none⟩).wp F m fun v m => runL T base nt F ops r ⟨putE env dst v, m⟩ K) : runL T base nt F ops (⟨dst, op, ty, pos, after, none⟩ :: r) ⟨env, m⟩ K := R.one hd h
theorem Y2 {j : Nat} {want : Bool} {t : Tmp} (hd : dstOk nt ⟨dst, op, ty, pos, after, some (j, want)⟩ = true) (et : gdst ops j = some t) (e : env t = some (.kb want)) (h : (opF T base env ⟨dst, op, ty, pos, after, some (j, want)⟩).wp F m fun v m => runL T base nt F ops r ⟨putE env dst v, m⟩ K) : runL T base nt F ops (⟨dst, op, ty, pos, after, some (j, want)⟩ :: r) ⟨env, m⟩ K := R.run hd et e h
theorem Y3 {j : Nat} {want : Bool} {t : Tmp} (hd : dstOk nt ⟨dst, op, ty, pos, after, some (j, want)⟩ = true) (et : gdst ops j = some t) (e : env t = some (.kb !want)) (h : runL T base nt F ops r ⟨putE env dst (.tup []), m⟩ K) : runL T base nt F ops (⟨dst, op, ty, pos, after, some (j, want)⟩ :: r) ⟨env, m⟩ K := R.skip hd et e h
theorem YT {B : Type} {p q : Option B} {f : B} {j : Nat} {t : Tmp} {b : Bool} (hd : dstOk nt ⟨dst, op, ty, pos, after, some (j, true)⟩ = true) (et : gdst ops j = some t) (e : env t = some (.d (.v (.bool b)))) (hb : (bif b then p else q) = some f)
    (h1 : b = true → p = some f → (opF T base (updT env t (some (.kb true))) ⟨dst, op, ty, pos, after, some (j, true)⟩).wp F m fun v m => runL T base nt F ops r ⟨putE (updT env t (some (.kb true))) dst v, m⟩ K)
    (h2 : b = false → q = some f → runL T base nt F ops r ⟨putE (updT env t (some (.kb false))) dst (.tup []), m⟩ K) : runL T base nt F ops (⟨dst, op, ty, pos, after, some (j, true)⟩ :: r) ⟨env, m⟩ K := R.gT hd et e hb h1 h2
theorem YF {B : Type} {p q : Option B} {f : B} {j : Nat} {t : Tmp} {b : Bool} (hd : dstOk nt ⟨dst, op, ty, pos, after, some (j, false)⟩ = true) (et : gdst ops j = some t) (e : env t = some (.d (.v (.bool b)))) (hb : (bif b then p else q) = some f)
    (h1 : b = true → p = some f → runL T base nt F ops r ⟨putE (updT env t (some (.kb true))) dst (.tup []), m⟩ K)
    (h2 : b = false → q = some f → (opF T base (updT env t (some (.kb false))) ⟨dst, op, ty, pos, after, some (j, false)⟩).wp F m fun v m => runL T base nt F ops r ⟨putE (updT env t (some (.kb false))) dst v, m⟩ K) : runL T base nt F ops (⟨dst, op, ty, pos, after, some (j, false)⟩ :: r) ⟨env, m⟩ K := R.gF hd et e hb h1 h2
theorem Zm (v : AV) (m' : Mem) (hd : dstOk nt ⟨dst, op, ty, pos, after, none⟩ = true) (e : evT (opF T base env ⟨dst, op, ty, pos, after, none⟩) m = (.ret v, m')) (h : runL T base nt F ops r ⟨putE env dst v, m'⟩ K) : runL T base nt F ops (⟨dst, op, ty, pos, after, none⟩ :: r) ⟨env, m⟩ K := R.one hd (W.det v m' e h)
theorem Zo (v : AV) {m' : Mem} (hd : dstOk nt ⟨dst, op, ty, pos, after, none⟩ = true) (e : evT (opF T base env ⟨dst, op, ty, pos, after, none⟩) m = (.ret v, m')) (h : runL T base nt F ops r ⟨putE env dst v, m'⟩ K) : runL T base nt F ops (⟨dst, op, ty, pos, after, none⟩ :: r) ⟨env, m⟩ K := R.one hd (W.det v m' e h)
theorem Zv {j : Nat} {want : Bool} {t : Tmp} (v : AV) (m' : Mem) (hd : dstOk nt ⟨dst, op, ty, pos, after, some (j, want)⟩ = true) (et : gdst ops j = some t) (e : env t = some (.kb want)) (e2 : evT (opF T base env ⟨dst, op, ty, pos, after, some (j, want)⟩) m = (.ret v, m')) (h : runL T base nt F ops r ⟨putE env dst v, m'⟩ K) : runL T base nt F ops (⟨dst, op, ty, pos, after, some (j, want)⟩ :: r) ⟨env, m⟩ K := R.run hd et e (W.det v m' e2 h)
theorem Zu {j : Nat} {want : Bool} {t : Tmp} (v : AV) {m' : Mem} (hd : dstOk nt ⟨dst, op, ty, pos, after, some (j, want)⟩ = true) (et : gdst ops j = some t) (e : env t = some (.kb want)) (e2 : evT (opF T base env ⟨dst, op, ty, pos, after, some (j, want)⟩) m = (.ret v, m')) (h : runL T base nt F ops r ⟨putE env dst v, m'⟩ K) : runL T base nt F ops (⟨dst, op, ty, pos, after, some (j, want)⟩ :: r) ⟨env, m⟩ K := R.run hd et e (W.det v m' e2 h)
end
section
variable {σ : List (Nat × Nat × Nat)} {st : ASt} {Q : Ex → ASt → Prop}
theorem Ze {σ : List (Nat × Nat × Nat)} {t : Nat} {v : AV} {r : List (Nat × AV)} (hl : lowV v = true) (h : mapO (viewV st.m v) (unkO (st.env t)) = some (renV σ v)) (hr : chkE σ st r) : chkE σ st ((t, v) :: r) := chkE.c hl h hr
theorem Zc {σ : List (Nat × Nat × Nat)} {s : Nat} {i : Inst} {r : List (Nat × Inst)} (hl : lowI i = true) (h : mapO (viewI st.m i) (st.m.at_ (sig σ s).1 (sig σ s).2) = some (renI σ i)) (hr : chkM σ st r) : chkM σ st ((s, i) :: r) := chkM.c hl h hr
theorem Zf (fl : List (Nat × Nat)) (σ : List (Nat × Nat × Nat)) {E : List (Nat × AV)} {M : List (Nat × Inst)} {m : Mem} (h0 : frzM st.m fl = some m) (h1 : sepM σ M = true) (h2 : chkE σ ⟨st.env, m⟩ E) (h3 : chkM σ ⟨st.env, m⟩ M) : Enters st E M := Enters.of fl σ m h0 h1 h2 h3
theorem Zh {S : Type} {E : S → List (Nat × AV)} {M : S → List (Nat × Inst)} {J : S → Prop} {x : S} (hJ : J x) (fl : List (Nat × Nat)) (σ : List (Nat × Nat × Nat)) {m : Mem} (h0 : frzM st.m fl = some m) (h1 : sepM σ (M x) = true) (h2 : chkE σ ⟨st.env, m⟩ (E x)) (h3 : chkM σ ⟨st.env, m⟩ (M x)) : headK E M J Q .normal st := ⟨x, hJ, Enters.of fl σ m h0 h1 h2 h3⟩
end
/- a machine that takes the steps that ask for nothing -/
inductive Fr where
  | s (c : Code)
  | b (id : Nat)
inductive Cf where
  | code (c : Code) (fs : List Fr) (env : Nat → Option AV) (m : Mem)
  | ops (l0 l : List Oper) (fs : List Fr) (env : Nat → Option AV) (m : Mem)
  | op (s : Step) (m : Mem) (env : Nat → Option AV) (dst : Option Tmp) (l0 l : List Oper) (fs : List Fr)
  | out (e : Ex) (fs : List Fr) (env : Nat → Option AV) (m : Mem)
  | bad
section
variable (T : Nat → TI) (base nt : Nat) (F : FuncId → List AV → AV → Prop) (js : List Nat)
def KQ : List Fr → (Ex → ASt → Prop) → Ex → ASt → Prop
  | [], Q => Q
  | .s c :: fs, Q => seqK (AW T base nt F js c) (KQ fs Q)
  | .b id :: fs, Q => blockK id (KQ fs Q)
def den (Q : Ex → ASt → Prop) : Cf → Prop
  | .code c fs env m => AW T base nt F js c ⟨env, m⟩ (KQ T base nt F js fs Q)
  | .ops l0 l fs env m => runL T base nt F l0 l ⟨env, m⟩ (KQ T base nt F js fs Q .normal)
  | .op s m env dst l0 l fs => s.wp F m fun v m => runL T base nt F l0 l ⟨putE env dst v, m⟩ (KQ T base nt F js fs Q .normal)
  | .out e fs env m => KQ T base nt F js fs Q e ⟨env, m⟩
  | .bad => False
def opC (env : Nat → Option AV) (dst : Option Tmp) (l0 l : List Oper) (fs : List Fr) : Step × Mem → Cf
  | (.ret v, m) => .ops l0 l fs (putE env dst v) m
  | _ => .bad
def stepOps (l0 r : List Oper) (fs : List Fr) (env : Nat → Option AV) (m : Mem) (o : Oper) : Cf := bif dstOk nt o then (match o with
  | ⟨dst, op, ty, pos, after, none⟩ => opC env dst l0 r fs (evT (opF T base env ⟨dst, op, ty, pos, after, none⟩) m)
  | ⟨dst, op, ty, pos, after, some (j, want)⟩ => match gdst l0 j with
    | none => .bad
    | some t => match env t with
      | some (.kb true) => bif want then opC env dst l0 r fs (evT (opF T base env ⟨dst, op, ty, pos, after, some (j, want)⟩) m) else .ops l0 r fs (putE env dst (.tup [])) m
      | some (.kb false) => bif want then .ops l0 r fs (putE env dst (.tup [])) m else opC env dst l0 r fs (evT (opF T base env ⟨dst, op, ty, pos, after, some (j, want)⟩) m)
      | some (.tup []) => .ops l0 r fs (putE env dst (.tup [])) m
      | _ => .bad) else .bad
def stepC : Cf → Cf
  | .code .skip fs env m => .out .normal fs env m
  | .code (.exit id) fs env m => .out (.exit id) fs env m
  | .code .ret fs env m => .out .ret fs env m
  | .code (.seq a b) fs env m => bif joinAt js b then .bad else .code a (.s b :: fs) env m
  | .code (.block id c) fs env m => .code c (.b id :: fs) env m
  | .code (.region _ ⟨l⟩ false) fs env m => .ops l l fs env m
  | .code (.cond c x y) fs env m => match rawOf env c with
    | some (.kb true) => .code x fs env m
    | some (.kb false) => .code y fs env m
    | some (.d (.v (.bool true))) => .code x fs env m
    | some (.d (.v (.bool false))) => .code y fs env m
    | _ => .bad
  | .code _ _ _ _ => .bad
  | .ops _ [] fs env m => .out .normal fs env m
  | .ops l0 (o :: r) fs env m => stepOps T base nt l0 r fs env m o
  | .op s m env dst l0 l fs => opC env dst l0 l fs (evT s m)
  | .out .normal (.s c :: fs) env m => .code c fs env m
  | .out (.exit i) (.s _ :: fs) env m => .out (.exit i) fs env m
  | .out .ret (.s _ :: fs) env m => .out .ret fs env m
  | .out .normal (.b _ :: fs) env m => .out .normal fs env m
  | .out (.exit i) (.b id :: fs) env m => bif Nat.beq i id then .out .normal fs env m else .out (.exit i) fs env m
  | .out .ret (.b _ :: fs) env m => .out .ret fs env m
  | .out _ [] _ _ => .bad
  | .bad => .bad
def runM : Nat → Cf → Cf
  | 0, c => c
  | n + 1, c => match stepC T base nt js c with
    | .code c fs env m => runM n (.code c fs env m)
    | .ops l0 l fs env m => runM n (.ops l0 l fs env m)
    | .op s m env dst l0 l fs => runM n (.op s m env dst l0 l fs)
    | .out e fs env m => runM n (.out e fs env m)
    | .bad => .bad
theorem runM_succ (n : Nat) (c : Cf) : runM T base nt js (n + 1) c = runM T base nt js n (stepC T base nt js c) := by
  rw [runM]
  cases stepC T base nt js c <;> first | rfl | (cases n <;> rfl)
end
section
variable {T : Nat → TI} {base nt : Nat} {F : FuncId → List AV → AV → Prop} {js : List Nat} {Q : Ex → ASt → Prop}
theorem opC_ok {env : Nat → Option AV} {dst : Option Tmp} {l0 l : List Oper} {fs : List Fr} {s : Step} {m : Mem} (h : den T base nt F js Q (opC env dst l0 l fs (evT s m))) : s.wp F m fun v m => runL T base nt F l0 l ⟨putE env dst v, m⟩ (KQ T base nt F js fs Q .normal) := by
  apply evT_wp
  generalize evT s m = x at h
  obtain ⟨x, m'⟩ := x
  cases x <;> first | exact h | exact h.elim
theorem stepOps_ok {l0 r : List Oper} {fs : List Fr} {env : Nat → Option AV} {m : Mem} {o : Oper} (h : den T base nt F js Q (stepOps T base nt l0 r fs env m o)) : runL T base nt F l0 (o :: r) ⟨env, m⟩ (KQ T base nt F js fs Q .normal) := by
  cases hd : dstOk nt o with
  | false => unfold stepOps at h; rw [hd] at h; exact h.elim
  | true =>
    unfold stepOps at h
    rw [hd] at h
    obtain ⟨dst, op, ty, pos, after, guard⟩ := o
    cases guard with
    | none => exact R.one hd (opC_ok h)
    | some g =>
      obtain ⟨j, want⟩ := g
      dsimp only [cond_true] at h
      cases et : gdst l0 j with
      | none => rw [et] at h; exact h.elim
      | some t =>
        rw [et] at h
        dsimp only at h
        split at h
        · rename_i e
          cases want
          · exact R.skip hd et e h
          · exact R.run hd et e (opC_ok h)
        · rename_i e
          cases want
          · exact R.run hd et e (opC_ok h)
          · exact R.skip hd et e h
        · rename_i e
          exact R.none_ hd et e h
        · exact h.elim
theorem stepC_ok {c : Cf} (h : den T base nt F js Q (stepC T base nt js c)) : den T base nt F js Q c := by
  unfold stepC at h
  split at h
  · exact h
  · exact h
  · exact h
  · rename_i a b fs env m
    cases hj : joinAt js b with
    | true => rw [hj] at h; exact h.elim
    | false => rw [hj] at h; exact A.seq hj h
  · exact A.block h
  · exact h
  · split at h
    · rename_i e; exact A.condT e h
    · rename_i e; exact A.condF e h
    · rename_i e; exact A.condBT e h
    · rename_i e; exact A.condBF e h
    · exact h.elim
  · exact h.elim
  · exact h
  · exact stepOps_ok h
  · exact opC_ok h
  · exact h
  · exact h
  · exact h
  · exact h
  · rename_i i id fs env m
    cases hi : Nat.beq i id with
    | false => rw [hi] at h; exact blockK.e hi h
    | true =>
      rw [hi] at h
      have := Nat.eq_of_beq_eq_true hi
      subst this
      exact blockK.x h
  · exact h
  · exact h.elim
  · exact h.elim
theorem runM_ok : ∀ (n : Nat) (c : Cf), den T base nt F js Q (runM T base nt js n c) → den T base nt F js Q c
  | 0, _, h => h
  | n + 1, _, h => stepC_ok (runM_ok n _ (by rw [runM_succ] at h; exact h))
theorem runM_to {n : Nat} {c c' : Cf} (e : runM T base nt js n c = c') (h : den T base nt F js Q c') : den T base nt F js Q c := runM_ok n c (by rw [e]; exact h)
theorem Za {c : Code} {st : ASt} (h : AW T base nt F js c st (KQ T base nt F js [] Q)) : AW T base nt F js c st Q := h
theorem Zac (n : Nat) {c : Code} {env : Nat → Option AV} {m : Mem} {c2 : Code} {fs2 : List Fr} {env2 : Nat → Option AV} {m2 : Mem} (e : runM T base nt js n (.code c [] env m) = .code c2 fs2 env2 m2) (h : AW T base nt F js c2 ⟨env2, m2⟩ (KQ T base nt F js fs2 Q)) : AW T base nt F js c ⟨env, m⟩ Q := runM_to (Q := Q) e h
theorem Zap (n : Nat) {c : Code} {env : Nat → Option AV} {m : Mem} {l2 l3 : List Oper} {fs2 : List Fr} {env2 : Nat → Option AV} {m2 : Mem} (e : runM T base nt js n (.code c [] env m) = .ops l2 l3 fs2 env2 m2) (h : runL T base nt F l2 l3 ⟨env2, m2⟩ (KQ T base nt F js fs2 Q .normal)) : AW T base nt F js c ⟨env, m⟩ Q := runM_to (Q := Q) e h
theorem Zab (n : Nat) {c : Code} {env : Nat → Option AV} {m : Mem} {e2 : Ex} {env2 : Nat → Option AV} {m2 : Mem} (e : runM T base nt js n (.code c [] env m) = .out e2 [] env2 m2) (h : Q e2 ⟨env2, m2⟩) : AW T base nt F js c ⟨env, m⟩ Q := runM_to (Q := Q) e h
theorem Zcc (n : Nat) {c : Code} {fs : List Fr} {env : Nat → Option AV} {m : Mem} {c2 : Code} {fs2 : List Fr} {env2 : Nat → Option AV} {m2 : Mem} (e : runM T base nt js n (.code c fs env m) = .code c2 fs2 env2 m2) (h : AW T base nt F js c2 ⟨env2, m2⟩ (KQ T base nt F js fs2 Q)) : AW T base nt F js c ⟨env, m⟩ (KQ T base nt F js fs Q) := runM_to (Q := Q) e h
theorem Zcp (n : Nat) {c : Code} {fs : List Fr} {env : Nat → Option AV} {m : Mem} {l2 l3 : List Oper} {fs2 : List Fr} {env2 : Nat → Option AV} {m2 : Mem} (e : runM T base nt js n (.code c fs env m) = .ops l2 l3 fs2 env2 m2) (h : runL T base nt F l2 l3 ⟨env2, m2⟩ (KQ T base nt F js fs2 Q .normal)) : AW T base nt F js c ⟨env, m⟩ (KQ T base nt F js fs Q) := runM_to (Q := Q) e h
theorem Zcb (n : Nat) {c : Code} {fs : List Fr} {env : Nat → Option AV} {m : Mem} {e2 : Ex} {env2 : Nat → Option AV} {m2 : Mem} (e : runM T base nt js n (.code c fs env m) = .out e2 [] env2 m2) (h : Q e2 ⟨env2, m2⟩) : AW T base nt F js c ⟨env, m⟩ (KQ T base nt F js fs Q) := runM_to (Q := Q) e h
theorem Zpc (n : Nat) {l0 l : List Oper} {fs : List Fr} {env : Nat → Option AV} {m : Mem} {c2 : Code} {fs2 : List Fr} {env2 : Nat → Option AV} {m2 : Mem} (e : runM T base nt js n (.ops l0 l fs env m) = .code c2 fs2 env2 m2) (h : AW T base nt F js c2 ⟨env2, m2⟩ (KQ T base nt F js fs2 Q)) : runL T base nt F l0 l ⟨env, m⟩ (KQ T base nt F js fs Q .normal) := runM_to (Q := Q) e h
theorem Zpp (n : Nat) {l0 l : List Oper} {fs : List Fr} {env : Nat → Option AV} {m : Mem} {l2 l3 : List Oper} {fs2 : List Fr} {env2 : Nat → Option AV} {m2 : Mem} (e : runM T base nt js n (.ops l0 l fs env m) = .ops l2 l3 fs2 env2 m2) (h : runL T base nt F l2 l3 ⟨env2, m2⟩ (KQ T base nt F js fs2 Q .normal)) : runL T base nt F l0 l ⟨env, m⟩ (KQ T base nt F js fs Q .normal) := runM_to (Q := Q) e h
theorem Zpb (n : Nat) {l0 l : List Oper} {fs : List Fr} {env : Nat → Option AV} {m : Mem} {e2 : Ex} {env2 : Nat → Option AV} {m2 : Mem} (e : runM T base nt js n (.ops l0 l fs env m) = .out e2 [] env2 m2) (h : Q e2 ⟨env2, m2⟩) : runL T base nt F l0 l ⟨env, m⟩ (KQ T base nt F js fs Q .normal) := runM_to (Q := Q) e h
theorem Zwc (n : Nat) {s : Step} {m : Mem} {env : Nat → Option AV} {dst : Option Tmp} {l0 l : List Oper} {fs : List Fr} {c2 : Code} {fs2 : List Fr} {env2 : Nat → Option AV} {m2 : Mem} (e : runM T base nt js n (.op s m env dst l0 l fs) = .code c2 fs2 env2 m2) (h : AW T base nt F js c2 ⟨env2, m2⟩ (KQ T base nt F js fs2 Q)) : s.wp F m fun v m => runL T base nt F l0 l ⟨putE env dst v, m⟩ (KQ T base nt F js fs Q .normal) := runM_to (Q := Q) e h
theorem Zwp (n : Nat) {s : Step} {m : Mem} {env : Nat → Option AV} {dst : Option Tmp} {l0 l : List Oper} {fs : List Fr} {l2 l3 : List Oper} {fs2 : List Fr} {env2 : Nat → Option AV} {m2 : Mem} (e : runM T base nt js n (.op s m env dst l0 l fs) = .ops l2 l3 fs2 env2 m2) (h : runL T base nt F l2 l3 ⟨env2, m2⟩ (KQ T base nt F js fs2 Q .normal)) : s.wp F m fun v m => runL T base nt F l0 l ⟨putE env dst v, m⟩ (KQ T base nt F js fs Q .normal) := runM_to (Q := Q) e h
theorem Zwb (n : Nat) {s : Step} {m : Mem} {env : Nat → Option AV} {dst : Option Tmp} {l0 l : List Oper} {fs : List Fr} {e2 : Ex} {env2 : Nat → Option AV} {m2 : Mem} (e : runM T base nt js n (.op s m env dst l0 l fs) = .out e2 [] env2 m2) (h : Q e2 ⟨env2, m2⟩) : s.wp F m fun v m => runL T base nt F l0 l ⟨putE env dst v, m⟩ (KQ T base nt F js fs Q .normal) := runM_to (Q := Q) e h
theorem Zoc (n : Nat) {e : Ex} {fs : List Fr} {env : Nat → Option AV} {m : Mem} {c2 : Code} {fs2 : List Fr} {env2 : Nat → Option AV} {m2 : Mem} (e0 : runM T base nt js n (.out e fs env m) = .code c2 fs2 env2 m2) (h : AW T base nt F js c2 ⟨env2, m2⟩ (KQ T base nt F js fs2 Q)) : KQ T base nt F js fs Q e ⟨env, m⟩ := runM_to (Q := Q) e0 h
theorem Zop (n : Nat) {e : Ex} {fs : List Fr} {env : Nat → Option AV} {m : Mem} {l2 l3 : List Oper} {fs2 : List Fr} {env2 : Nat → Option AV} {m2 : Mem} (e0 : runM T base nt js n (.out e fs env m) = .ops l2 l3 fs2 env2 m2) (h : runL T base nt F l2 l3 ⟨env2, m2⟩ (KQ T base nt F js fs2 Q .normal)) : KQ T base nt F js fs Q e ⟨env, m⟩ := runM_to (Q := Q) e0 h
theorem Zob (n : Nat) {e : Ex} {fs : List Fr} {env : Nat → Option AV} {m : Mem} {e2 : Ex} {env2 : Nat → Option AV} {m2 : Mem} (e0 : runM T base nt js n (.out e fs env m) = .out e2 [] env2 m2) (h : Q e2 ⟨env2, m2⟩) : KQ T base nt F js fs Q e ⟨env, m⟩ := runM_to (Q := Q) e0 h
end
end Go.Proofs.Ytlgadmholjaljaa

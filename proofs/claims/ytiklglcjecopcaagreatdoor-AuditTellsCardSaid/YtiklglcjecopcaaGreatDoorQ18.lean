/-
  Short names: values, and steps that come one after the other. Over any program.
  Evaluation of Go code on plain data: functions that are given a row of the caller's own, and return what is left of it. Over any program.
  Evaluation of Go code on plain data: functions that are given a row of the caller's own, change it in place, and return nothing. Over any program.
  slices.Grow at nil. Over any program.
  DERIVED: THE SHELF's CONTRACTS AT THIS DUMP, IN PLAIN WORDS (tools/lay-plain.mjs out of 'YtiklglcjecopcaaGreatDoorShelfGr.lean', which tools/lay-shelf.mjs wrote): THE SAME DECLARATIONS UNDER THE SAME NAMES: 'import', 'namespace', 'open', 'def', 'theorem' AND NOTHING ELSE: no command of the shelf's: FOR A HAND-IN. Each laying: the table of numbers ('.._ren') and one theorem, a field a fact of the dump's own or the kernel's comparison; each contract: ONE APPLICATION.
-/
import Derived.Test.YtiklglcjecopcaaGreatDoorQ17
import Derived.Test.YtiklglcjecopcaaGreatDoorQ16
import Derived.Shelf.Spec.SlicesGrow
import Derived.Shelf.SlGeneric
import Derived.Shelf.Lays8
import Derived.Ground.Names8Prog
import Derived.Test.YtiklglcjecopcaaGreatDoorProg
namespace Go.Proofs.YtiklglcjecopcaaGreatDoor
open Go.RowKit
abbrev VI (n:Int):AV:= .d (.v (.int .i64 n))
abbrev VB (b:Bool):AV:= .d (.v (.bool b))
abbrev VS (s:ByteArray):AV:= .d (.v (.string s))
abbrev VF (l:List (List D)):AV:= .d (.fz l)
section
variable {T : Nat → TI} {base nt : Nat} {F : FuncId → List AV → AV → Prop} {js : List Nat} {Q : Ex → ASt → Prop} {env : Nat → Option AV} {m : Mem}
variable {ops r : List Oper} {K : ASt → Prop} {dst : Option Tmp} {op : Op} {ty : TypeId} {pos : String} {after : Array Edge}
theorem Y1 (hd:dstOk nt ⟨dst,op,ty,pos,after,none⟩=true) (h:(opF T base env ⟨dst,op,ty,pos,after,none⟩).wp F m fun v m=> runL T base nt F ops r ⟨putE env dst v,m⟩ K):runL T base nt F ops (⟨dst,op,ty,pos,after,none⟩::r) ⟨env,m⟩ K:=R.one hd h
theorem Y2 {j:Nat} {want:Bool} {t:Tmp} (hd:dstOk nt ⟨dst,op,ty,pos,after,some (j,want)⟩=true) (et:gdst ops j=some t) (e:env t=some (.kb want)) (h:(opF T base env ⟨dst,op,ty,pos,after,some (j,want)⟩).wp F m fun v m=> runL T base nt F ops r ⟨putE env dst v,m⟩ K):runL T base nt F ops (⟨dst,op,ty,pos,after,some (j,want)⟩::r) ⟨env,m⟩ K:=R.run hd et e h
theorem YT {B:Type} {p q:Option B} {f:B} {j:Nat} {t:Tmp} {b:Bool} (hd:dstOk nt ⟨dst,op,ty,pos,after,some (j,true)⟩=true) (et:gdst ops j=some t) (e:env t=some (.d (.v (.bool b)))) (hb:(bif b then p else q)=some f)
  (h1:b=true→p=some f→(opF T base (updT env t (some (.kb true))) ⟨dst,op,ty,pos,after,some (j,true)⟩).wp F m fun v m=> runL T base nt F ops r ⟨putE (updT env t (some (.kb true))) dst v,m⟩ K)
  (h2:b=false→q=some f→runL T base nt F ops r ⟨putE (updT env t (some (.kb false))) dst (.tup []),m⟩ K):runL T base nt F ops (⟨dst,op,ty,pos,after,some (j,true)⟩::r) ⟨env,m⟩ K:=R.gT hd et e hb h1 h2
theorem YF {B:Type} {p q:Option B} {f:B} {j:Nat} {t:Tmp} {b:Bool} (hd:dstOk nt ⟨dst,op,ty,pos,after,some (j,false)⟩=true) (et:gdst ops j=some t) (e:env t=some (.d (.v (.bool b)))) (hb:(bif b then p else q)=some f)
  (h1:b=true→p=some f→runL T base nt F ops r ⟨putE (updT env t (some (.kb true))) dst (.tup []),m⟩ K)
  (h2:b=false→q=some f→(opF T base (updT env t (some (.kb false))) ⟨dst,op,ty,pos,after,some (j,false)⟩).wp F m fun v m=> runL T base nt F ops r ⟨putE (updT env t (some (.kb false))) dst v,m⟩ K):runL T base nt F ops (⟨dst,op,ty,pos,after,some (j,false)⟩::r) ⟨env,m⟩ K:=R.gF hd et e hb h1 h2
theorem Zm (v:AV) (m':Mem) (hd:dstOk nt ⟨dst,op,ty,pos,after,none⟩=true) (e:evT (opF T base env ⟨dst,op,ty,pos,after,none⟩) m=(.ret v,m')) (h:runL T base nt F ops r ⟨putE env dst v,m'⟩ K):runL T base nt F ops (⟨dst,op,ty,pos,after,none⟩::r) ⟨env,m⟩ K:=R.one hd (W.det v m' e h)
theorem Zo (v:AV) {m':Mem} (hd:dstOk nt ⟨dst,op,ty,pos,after,none⟩=true) (e:evT (opF T base env ⟨dst,op,ty,pos,after,none⟩) m=(.ret v,m')) (h:runL T base nt F ops r ⟨putE env dst v,m'⟩ K):runL T base nt F ops (⟨dst,op,ty,pos,after,none⟩::r) ⟨env,m⟩ K:=R.one hd (W.det v m' e h)
theorem Zu {j:Nat} {want:Bool} {t:Tmp} (v:AV) {m':Mem} (hd:dstOk nt ⟨dst,op,ty,pos,after,some (j,want)⟩=true) (et:gdst ops j=some t) (e:env t=some (.kb want)) (e2:evT (opF T base env ⟨dst,op,ty,pos,after,some (j,want)⟩) m=(.ret v,m')) (h:runL T base nt F ops r ⟨putE env dst v,m'⟩ K):runL T base nt F ops (⟨dst,op,ty,pos,after,some (j,want)⟩::r) ⟨env,m⟩ K:=R.run hd et e (W.det v m' e2 h)
end
section
variable {σ : List (Nat × Nat × Nat)} {st : ASt} {Q : Ex → ASt → Prop}
theorem Ze {σ:List (Nat×Nat×Nat)} {t:Nat} {v:AV} {r:List (Nat×AV)} (hl:lowV v=true) (h:mapO (viewV st.m v) (unkO (st.env t))=some (renV σ v)) (hr:chkE σ st r):chkE σ st ((t,v)::r):=chkE.c hl h hr
theorem Zc {σ:List (Nat×Nat×Nat)} {s:Nat} {i:Inst} {r:List (Nat×Inst)} (hl:lowI i=true) (h:mapO (viewI st.m i) (st.m.at_ (sig σ s).1 (sig σ s).2)=some (renI σ i)) (hr:chkM σ st r):chkM σ st ((s,i)::r):=chkM.c hl h hr
theorem Zf (fl:List (Nat×Nat)) (σ:List (Nat×Nat×Nat)) {E:List (Nat×AV)} {M:List (Nat×Inst)} {m:Mem} (h0:frzM st.m fl=some m) (h1:sepM σ M=true) (h2:chkE σ ⟨st.env,m⟩ E) (h3:chkM σ ⟨st.env,m⟩ M):Enters st E M:=Enters.of fl σ m h0 h1 h2 h3
theorem Zh {S:Type} {E:S→List (Nat×AV)} {M:S→List (Nat×Inst)} {J:S→Prop} {x:S} (hJ:J x) (fl:List (Nat×Nat)) (σ:List (Nat×Nat×Nat)) {m:Mem} (h0:frzM st.m fl=some m) (h1:sepM σ (M x)=true) (h2:chkE σ ⟨st.env,m⟩ (E x)) (h3:chkM σ ⟨st.env,m⟩ (M x)):headK E M J Q .normal st:=⟨x,hJ,Enters.of fl σ m h0 h1 h2 h3⟩
end
inductive Fr where
 | s (c:Code)
 | b (id:Nat)
inductive Cf where
 | code (c:Code) (fs:List Fr) (env:Nat→Option AV) (m:Mem)
 | ops (l0 l:List Oper) (fs:List Fr) (env:Nat→Option AV) (m:Mem)
 | op (s:Step) (m:Mem) (env:Nat→Option AV) (dst:Option Tmp) (l0 l:List Oper) (fs:List Fr)
 | out (e:Ex) (fs:List Fr) (env:Nat→Option AV) (m:Mem)
 | bad
section
variable (T : Nat → TI) (base nt : Nat) (F : FuncId → List AV → AV → Prop) (js : List Nat)
def KQ:List Fr→(Ex→ASt→Prop)→Ex→ASt→Prop
 | [],Q=> Q
 | .s c::fs,Q=> seqK (AW T base nt F js c) (KQ fs Q)
 | .b id::fs,Q=> blockK id (KQ fs Q)
def den (Q:Ex→ASt→Prop):Cf→Prop
 | .code c fs env m=> AW T base nt F js c ⟨env,m⟩ (KQ T base nt F js fs Q)
 | .ops l0 l fs env m=> runL T base nt F l0 l ⟨env,m⟩ (KQ T base nt F js fs Q .normal)
 | .op s m env dst l0 l fs=> s.wp F m fun v m=> runL T base nt F l0 l ⟨putE env dst v,m⟩ (KQ T base nt F js fs Q .normal)
 | .out e fs env m=> KQ T base nt F js fs Q e ⟨env,m⟩
 | .bad=> False
def opC (env:Nat→Option AV) (dst:Option Tmp) (l0 l:List Oper) (fs:List Fr):Step×Mem→Cf
 | (.ret v,m)=> .ops l0 l fs (putE env dst v) m
 | _=> .bad
def stepOps (l0 r:List Oper) (fs:List Fr) (env:Nat→Option AV) (m:Mem) (o:Oper):Cf:=bif dstOk nt o then (match o with
 | ⟨dst,op,ty,pos,after,none⟩=> opC env dst l0 r fs (evT (opF T base env ⟨dst,op,ty,pos,after,none⟩) m)
 | ⟨dst,op,ty,pos,after,some (j,want)⟩=> match gdst l0 j with
  | none=> .bad
  | some t=> match env t with
   | some (.kb true)=> bif want then opC env dst l0 r fs (evT (opF T base env ⟨dst,op,ty,pos,after,some (j,want)⟩) m) else .ops l0 r fs (putE env dst (.tup [])) m
   | some (.kb false)=> bif want then .ops l0 r fs (putE env dst (.tup [])) m else opC env dst l0 r fs (evT (opF T base env ⟨dst,op,ty,pos,after,some (j,want)⟩) m)
   | some (.tup [])=> .ops l0 r fs (putE env dst (.tup [])) m
   | _=> .bad) else .bad
def stepC:Cf→Cf
 | .code .skip fs env m=> .out .normal fs env m
 | .code (.exit id) fs env m=> .out (.exit id) fs env m
 | .code .ret fs env m=> .out .ret fs env m
 | .code (.seq a b) fs env m=> bif joinAt js b then .bad else .code a (.s b::fs) env m
 | .code (.block id c) fs env m=> .code c (.b id::fs) env m
 | .code (.region _ ⟨l⟩ false) fs env m=> .ops l l fs env m
 | .code (.cond c x y) fs env m=> match rawOf env c with
  | some (.kb true)=> .code x fs env m
  | some (.kb false)=> .code y fs env m
  | some (.d (.v (.bool true)))=> .code x fs env m
  | some (.d (.v (.bool false)))=> .code y fs env m
  | _=> .bad
 | .code _ _ _ _=> .bad
 | .ops _ [] fs env m=> .out .normal fs env m
 | .ops l0 (o::r) fs env m=> stepOps T base nt l0 r fs env m o
 | .op s m env dst l0 l fs=> opC env dst l0 l fs (evT s m)
 | .out .normal (.s c::fs) env m=> .code c fs env m
 | .out (.exit i) (.s _::fs) env m=> .out (.exit i) fs env m
 | .out .ret (.s _::fs) env m=> .out .ret fs env m
 | .out .normal (.b _::fs) env m=> .out .normal fs env m
 | .out (.exit i) (.b id::fs) env m=> bif Nat.beq i id then .out .normal fs env m else .out (.exit i) fs env m
 | .out .ret (.b _::fs) env m=> .out .ret fs env m
 | .out _ [] _ _=> .bad
 | .bad=> .bad
def runM:Nat→Cf→Cf
 | 0,c=> c
 | n + 1,c=> match stepC T base nt js c with
  | .code c fs env m=> runM n (.code c fs env m)
  | .ops l0 l fs env m=> runM n (.ops l0 l fs env m)
  | .op s m env dst l0 l fs=> runM n (.op s m env dst l0 l fs)
  | .out e fs env m=> runM n (.out e fs env m)
  | .bad=> .bad
theorem runM_succ (n:Nat) (c:Cf):runM T base nt js (n + 1) c=runM T base nt js n (stepC T base nt js c):=by
 rw [runM]
 cases stepC T base nt js c <;> first | rfl | (cases n <;> rfl)
end
section
variable {T : Nat → TI} {base nt : Nat} {F : FuncId → List AV → AV → Prop} {js : List Nat} {Q : Ex → ASt → Prop}
theorem opC_ok {env:Nat→Option AV} {dst:Option Tmp} {l0 l:List Oper} {fs:List Fr} {s:Step} {m:Mem} (h:den T base nt F js Q (opC env dst l0 l fs (evT s m))):s.wp F m fun v m=> runL T base nt F l0 l ⟨putE env dst v,m⟩ (KQ T base nt F js fs Q .normal):=by
 apply evT_wp
 generalize evT s m=x at h
 obtain ⟨x,m'⟩:=x
 cases x <;> first | exact h | exact h.elim
theorem stepOps_ok {l0 r:List Oper} {fs:List Fr} {env:Nat→Option AV} {m:Mem} {o:Oper} (h:den T base nt F js Q (stepOps T base nt l0 r fs env m o)):runL T base nt F l0 (o::r) ⟨env,m⟩ (KQ T base nt F js fs Q .normal):=by
 cases hd:dstOk nt o with
 | false=> unfold stepOps at h;rw [hd] at h;exact h.elim
 | true=>
  unfold stepOps at h
  rw [hd] at h
  obtain ⟨dst,op,ty,pos,after,guard⟩:=o
  cases guard with
  | none=> exact R.one hd (opC_ok h)
  | some g=>
   obtain ⟨j,want⟩:=g
   dsimp only [cond_true] at h
   cases et:gdst l0 j with
   | none=> rw [et] at h;exact h.elim
   | some t=>
    rw [et] at h
    dsimp only at h
    split at h
    ·rename_i e
     cases want
     ·exact R.skip hd et e h
     ·exact R.run hd et e (opC_ok h)
    ·rename_i e
     cases want
     ·exact R.run hd et e (opC_ok h)
     ·exact R.skip hd et e h
    ·rename_i e
     exact R.none_ hd et e h
    ·exact h.elim
theorem stepC_ok {c:Cf} (h:den T base nt F js Q (stepC T base nt js c)):den T base nt F js Q c:=by
 unfold stepC at h
 split at h
 ·exact h
 ·exact h
 ·exact h
 ·rename_i a b fs env m
  cases hj:joinAt js b with
  | true=> rw [hj] at h;exact h.elim
  | false=> rw [hj] at h;exact A.seq hj h
 ·exact A.block h
 ·exact h
 ·split at h
  ·rename_i e;exact A.condT e h
  ·rename_i e;exact A.condF e h
  ·rename_i e;exact A.condBT e h
  ·rename_i e;exact A.condBF e h
  ·exact h.elim
 ·exact h.elim
 ·exact h
 ·exact stepOps_ok h
 ·exact opC_ok h
 ·exact h
 ·exact h
 ·exact h
 ·exact h
 ·rename_i i id fs env m
  cases hi:Nat.beq i id with
  | false=> rw [hi] at h;exact blockK.e hi h
  | true=>
   rw [hi] at h
   have:=Nat.eq_of_beq_eq_true hi
   subst this
   exact blockK.x h
 ·exact h
 ·exact h.elim
 ·exact h.elim
theorem runM_ok:∀(n:Nat) (c:Cf),den T base nt F js Q (runM T base nt js n c)→den T base nt F js Q c
 | 0,_,h=> h
 | n + 1,_,h=> stepC_ok (runM_ok n _ (by rw [runM_succ] at h;exact h))
theorem runM_to {n:Nat} {c c':Cf} (e:runM T base nt js n c=c') (h:den T base nt F js Q c'):den T base nt F js Q c:=runM_ok n c (by rw [e];exact h)
theorem Zac (n:Nat) {c:Code} {env:Nat→Option AV} {m:Mem} {c2:Code} {fs2:List Fr} {env2:Nat→Option AV} {m2:Mem} (e:runM T base nt js n (.code c [] env m)= .code c2 fs2 env2 m2) (h:AW T base nt F js c2 ⟨env2,m2⟩ (KQ T base nt F js fs2 Q)):AW T base nt F js c ⟨env,m⟩ Q:=runM_to (Q:=Q) e h
theorem Zap (n:Nat) {c:Code} {env:Nat→Option AV} {m:Mem} {l2 l3:List Oper} {fs2:List Fr} {env2:Nat→Option AV} {m2:Mem} (e:runM T base nt js n (.code c [] env m)= .ops l2 l3 fs2 env2 m2) (h:runL T base nt F l2 l3 ⟨env2,m2⟩ (KQ T base nt F js fs2 Q .normal)):AW T base nt F js c ⟨env,m⟩ Q:=runM_to (Q:=Q) e h
theorem Zab (n:Nat) {c:Code} {env:Nat→Option AV} {m:Mem} {e2:Ex} {env2:Nat→Option AV} {m2:Mem} (e:runM T base nt js n (.code c [] env m)= .out e2 [] env2 m2) (h:Q e2 ⟨env2,m2⟩):AW T base nt F js c ⟨env,m⟩ Q:=runM_to (Q:=Q) e h
theorem Zcc (n:Nat) {c:Code} {fs:List Fr} {env:Nat→Option AV} {m:Mem} {c2:Code} {fs2:List Fr} {env2:Nat→Option AV} {m2:Mem} (e:runM T base nt js n (.code c fs env m)= .code c2 fs2 env2 m2) (h:AW T base nt F js c2 ⟨env2,m2⟩ (KQ T base nt F js fs2 Q)):AW T base nt F js c ⟨env,m⟩ (KQ T base nt F js fs Q):=runM_to (Q:=Q) e h
theorem Zcp (n:Nat) {c:Code} {fs:List Fr} {env:Nat→Option AV} {m:Mem} {l2 l3:List Oper} {fs2:List Fr} {env2:Nat→Option AV} {m2:Mem} (e:runM T base nt js n (.code c fs env m)= .ops l2 l3 fs2 env2 m2) (h:runL T base nt F l2 l3 ⟨env2,m2⟩ (KQ T base nt F js fs2 Q .normal)):AW T base nt F js c ⟨env,m⟩ (KQ T base nt F js fs Q):=runM_to (Q:=Q) e h
theorem Zcb (n:Nat) {c:Code} {fs:List Fr} {env:Nat→Option AV} {m:Mem} {e2:Ex} {env2:Nat→Option AV} {m2:Mem} (e:runM T base nt js n (.code c fs env m)= .out e2 [] env2 m2) (h:Q e2 ⟨env2,m2⟩):AW T base nt F js c ⟨env,m⟩ (KQ T base nt F js fs Q):=runM_to (Q:=Q) e h
theorem Zpc (n:Nat) {l0 l:List Oper} {fs:List Fr} {env:Nat→Option AV} {m:Mem} {c2:Code} {fs2:List Fr} {env2:Nat→Option AV} {m2:Mem} (e:runM T base nt js n (.ops l0 l fs env m)= .code c2 fs2 env2 m2) (h:AW T base nt F js c2 ⟨env2,m2⟩ (KQ T base nt F js fs2 Q)):runL T base nt F l0 l ⟨env,m⟩ (KQ T base nt F js fs Q .normal):=runM_to (Q:=Q) e h
theorem Zpp (n:Nat) {l0 l:List Oper} {fs:List Fr} {env:Nat→Option AV} {m:Mem} {l2 l3:List Oper} {fs2:List Fr} {env2:Nat→Option AV} {m2:Mem} (e:runM T base nt js n (.ops l0 l fs env m)= .ops l2 l3 fs2 env2 m2) (h:runL T base nt F l2 l3 ⟨env2,m2⟩ (KQ T base nt F js fs2 Q .normal)):runL T base nt F l0 l ⟨env,m⟩ (KQ T base nt F js fs Q .normal):=runM_to (Q:=Q) e h
theorem Zpb (n:Nat) {l0 l:List Oper} {fs:List Fr} {env:Nat→Option AV} {m:Mem} {e2:Ex} {env2:Nat→Option AV} {m2:Mem} (e:runM T base nt js n (.ops l0 l fs env m)= .out e2 [] env2 m2) (h:Q e2 ⟨env2,m2⟩):runL T base nt F l0 l ⟨env,m⟩ (KQ T base nt F js fs Q .normal):=runM_to (Q:=Q) e h
theorem Zwc (n:Nat) {s:Step} {m:Mem} {env:Nat→Option AV} {dst:Option Tmp} {l0 l:List Oper} {fs:List Fr} {c2:Code} {fs2:List Fr} {env2:Nat→Option AV} {m2:Mem} (e:runM T base nt js n (.op s m env dst l0 l fs)= .code c2 fs2 env2 m2) (h:AW T base nt F js c2 ⟨env2,m2⟩ (KQ T base nt F js fs2 Q)):s.wp F m fun v m=> runL T base nt F l0 l ⟨putE env dst v,m⟩ (KQ T base nt F js fs Q .normal):=runM_to (Q:=Q) e h
theorem Zwp (n:Nat) {s:Step} {m:Mem} {env:Nat→Option AV} {dst:Option Tmp} {l0 l:List Oper} {fs:List Fr} {l2 l3:List Oper} {fs2:List Fr} {env2:Nat→Option AV} {m2:Mem} (e:runM T base nt js n (.op s m env dst l0 l fs)= .ops l2 l3 fs2 env2 m2) (h:runL T base nt F l2 l3 ⟨env2,m2⟩ (KQ T base nt F js fs2 Q .normal)):s.wp F m fun v m=> runL T base nt F l0 l ⟨putE env dst v,m⟩ (KQ T base nt F js fs Q .normal):=runM_to (Q:=Q) e h
theorem Zwb (n:Nat) {s:Step} {m:Mem} {env:Nat→Option AV} {dst:Option Tmp} {l0 l:List Oper} {fs:List Fr} {e2:Ex} {env2:Nat→Option AV} {m2:Mem} (e:runM T base nt js n (.op s m env dst l0 l fs)= .out e2 [] env2 m2) (h:Q e2 ⟨env2,m2⟩):s.wp F m fun v m=> runL T base nt F l0 l ⟨putE env dst v,m⟩ (KQ T base nt F js fs Q .normal):=runM_to (Q:=Q) e h
theorem Zoc (n:Nat) {e:Ex} {fs:List Fr} {env:Nat→Option AV} {m:Mem} {c2:Code} {fs2:List Fr} {env2:Nat→Option AV} {m2:Mem} (e0:runM T base nt js n (.out e fs env m)= .code c2 fs2 env2 m2) (h:AW T base nt F js c2 ⟨env2,m2⟩ (KQ T base nt F js fs2 Q)):KQ T base nt F js fs Q e ⟨env,m⟩:=runM_to (Q:=Q) e0 h
theorem Zob (n:Nat) {e:Ex} {fs:List Fr} {env:Nat→Option AV} {m:Mem} {e2:Ex} {env2:Nat→Option AV} {m2:Mem} (e0:runM T base nt js n (.out e fs env m)= .out e2 [] env2 m2) (h:Q e2 ⟨env2,m2⟩):KQ T base nt F js fs Q e ⟨env,m⟩:=runM_to (Q:=Q) e0 h
end
end Go.Proofs.YtiklglcjecopcaaGreatDoor
namespace Go.Proofs.YtiklglcjecopcaaGreatDoor
open Go.RowKit
def Plain (es:List (List D)):Prop:=∀e∈es,∀d∈e,∃x:Value,d= .v x
theorem Plain.map {α:Type} {enc:α→List D} (h:∀x,∀d∈enc x,∃v:Value,d= .v v) (l:List α):Plain (l.map enc):=fun e he=> by
 obtain ⟨x,_,rfl⟩:=List.mem_map.1 he
 exact h x
section
variable {P : Program} {T : Nat → TI}
theorem relD_plain {S S':Nat→Prop} {w:World} {x:Value} {v:Value} (h:RelD S w (.v x) v):RelD S' w (.v x) v:=by
 cases h with
 | v _ h=> exact .v _ h
end
end Go.Proofs.YtiklglcjecopcaaGreatDoor
namespace Go.Proofs.YtiklglcjecopcaaGreatDoor
open Go.RowKit
def stW1 (sz:Nat) (es:List (List D)) (n:Nat) (args:List AV):ASt:=⟨nthA (.row 1000001 1 n::args),fun s g=> bif Nat.beq s 1000001 && Nat.beq g 1 then some (.rows sz es false) else none,fun s=> bif Nat.beq s 1000001 then 1 else 0⟩
def RetW1 (rs:List ResultVar) (sz:Nat) (es:List (List D)) (st:ASt):Prop:=Plain es∧rs= []∧st.m.at_ 1000001 1=some (.rows sz es false)
def EndW1 (rs:List ResultVar) (sz:Nat) (es:List (List D)):Ex→ASt→Prop
 | .normal,st=> RetW1 rs sz es st
 | .ret,st=> RetW1 rs sz es st
 | .exit _,_=> False
theorem condE_ {B:Type} {b:Bool} {p q:Option B} {f:B} (h:(bif b then p else q)=some f):(b=true∧p=some f)∨(b=false∧q=some f):=by
 cases b
 ·exact Or.inr ⟨rfl,h⟩
 ·exact Or.inl ⟨rfl,h⟩
theorem encB_plain (x:Bool):∀d∈encB x,∃v:Value,d= .v v:=fun d hd=> ⟨.bool x,by simpa [encB] using hd⟩
section
variable {P : Program} {T : Nat → TI}
theorem FnW1.of_AW {dr:Prop} {js:List Nat} {F:FuncId→List AV→AV→Prop} {base:Nat} (hm:P.follows .mixedOrders=true) (hT:TOk P T) (heq:∀t,(T t).eqs=true→(T t).known=true) (hF:∀f args r,F f args r→FnX dr P f args r) {f:FuncId} {fn:Func} {c:Code} {nt:Nat} {rs:List ResultVar} {sz:Nat} {es es':List (List D)} {args:List AV}
  (hcall:∀(args:Array Value) (w:World),(callFunc f args).run P w= .ok (.enter f args) w) (hf:P.funcs[f]? =some fn) (hb:fn.body=some c) (hnt:fn.ntmps=nt) (hrs:fn.results.toList=rs) (hargs:args.length + 1≤nt) {n:Nat} (hn:n=es.length)
  (h:AW T base nt F js c (stW1 sz es n args) (EndW1 rs sz es')):FnW dr P f sz es args (.ow sz es'):=by
 subst hn
 refine ⟨hcall,fun w A S sl b vals hI hT0 hA hSA hown hb0 hr=> ?_⟩
 have hlen:vals.size=args.length:=by simpa using hr.1
 have hloc:∃cap,((b=none∧∃A',sl= .slice A' 0 0)∨∃g,b=some g∧sl= .slice (some ⟨g,0,none⟩) es.length cap)∧∀(κ:Cx),κ.S=A→κ.w=w→κ.gn 1000001=1→κ.φ 1000001 1=⟨b,cap,sz,es.length⟩→InstOk κ (κ.φ 1000001 1) (.rows sz es false)∧Rel κ (.row 1000001 1 es.length) sl:=by
  obtain ⟨o1,o2⟩:=hown
  rcases o2 with ⟨rfl,rfl,A',rfl⟩ | ⟨g,T',cur,cap,rfl,rfl,hh,hl,hm,hc,hrw⟩
  ·refine ⟨0,Or.inl ⟨rfl,A',rfl⟩,fun κ k1 k2 k3 k4=> ?_⟩
   rw [k4]
   refine ⟨⟨rfl,o1,Or.inl ⟨rfl,rfl⟩⟩,.row0 A' (by rw [k3];exact Nat.le_refl _) (by rw [k4]) (by rw [k4];rfl)⟩
  ·refine ⟨cap,Or.inr ⟨g,rfl,rfl⟩,fun κ k1 k2 k3 k4=> ?_⟩
   rw [k4]
   refine ⟨⟨rfl,o1,Or.inr ⟨g,T',cur,rfl,rfl,by rw [k2];exact hh,hl,hm,hc,fun i j e x he hx=> ?_⟩⟩,?_⟩
   ·obtain ⟨u,hu,hd⟩:=hrw i j e x he hx
    refine ⟨u,hu,?_⟩
    rw [k1,k2]
    exact hd.mono hSA fun _ _=> rfl
   ·have:=Rel.row (κ:=κ) (s:=1000001) (g:=1) (b:=g) (by rw [k3];exact Nat.le_refl _) (by rw [k4])
    rw [k4] at this
    exact this
 obtain ⟨cap,hsl,hloc⟩:=hloc
 let κ0:Cx:=⟨fun s g=> if s=1000001∧g=1 then ⟨b,cap,sz,es.length⟩ else ⟨none,0,0,0⟩,fun s=> bif Nat.beq s 1000001 then 1 else 0,A,w⟩
 obtain ⟨hok,hrel⟩:=hloc κ0 rfl rfl rfl (by show (if (1000001:Nat)=1000001∧(1:Nat)=1 then (⟨b,cap,sz,es.length⟩:Loc) else ⟨none,0,0,0⟩)=_;rw [if_pos ⟨rfl,rfl⟩])
 have hφ:κ0.φ 1000001 1=⟨b,cap,sz,es.length⟩:=by show (if (1000001:Nat)=1000001∧(1:Nat)=1 then (⟨b,cap,sz,es.length⟩:Loc) else ⟨none,0,0,0⟩)=_;rw [if_pos ⟨rfl,rfl⟩]
 have only:∀s g i,(stW1 sz es es.length args).m.at_ s g=some i→s=1000001∧g=1∧i= .rows sz es false:=by
  intro s g i hi
  have hi:(bif Nat.beq s 1000001 && Nat.beq g 1 then some (Inst.rows sz es false) else none)=some i:=hi
  cases hq:(Nat.beq s 1000001 && Nat.beq g 1)
  ·rw [hq] at hi;cases hi
  ·rw [hq] at hi
   rw [Bool.and_eq_true] at hq
   injection hi with hi
   exact ⟨Nat.eq_of_beq_eq_true hq.1,Nat.eq_of_beq_eq_true hq.2,hi.symm⟩
 have hle:(cx0 A w).Le κ0:=⟨fun _=> Nat.zero_le _,fun s g hg=> by
  have hg:g≤0:=hg
  show (if s=1000001∧g=1 then (⟨b,cap,sz,es.length⟩:Loc) else ⟨none,0,0,0⟩)=_
  rw [if_neg (by omega)]
  rfl,fun _ h=> h,fun _ _=> rfl⟩
 have hsim:Sim ⟨w,fun c=> b=some c,dr,hI,hT0,1,fun _=> ⟨b,cap,sz,es.length⟩⟩ A (stW1 sz es es.length args).m κ0:=by
  refine ⟨BelowX.refl _ _,rfl,?_,?_,?_,?_,?_,?_,fun c hc=> ⟨hA c hc,Or.inl hc⟩,fun c hc=> hc,fun i hi=> by
   have:i=0:=Nat.lt_one_iff.1 hi
   subst this
   exact ⟨hφ,Nat.le_refl _⟩⟩
  ·intro s g i hi
   obtain ⟨rfl,rfl,rfl⟩:=only s g i hi
   exact hok
  ·intro s g i hi
   obtain ⟨rfl,rfl,rfl⟩:=only s g i hi
   exact Nat.le_refl _
  ·intro s g i c hi hc
   obtain ⟨rfl,rfl,rfl⟩:=only s g i hi
   rw [hφ] at hc
   exact ⟨Or.inr hc,(hb0 c hc).1⟩
  ·intro s g i c hi hc _
   obtain ⟨rfl,rfl,rfl⟩:=only s g i hi
   rw [hφ] at hc
   exact (hb0 c hc).2
  ·intro s g i c hi hc hrw
   obtain ⟨rfl,rfl,rfl⟩:=only s g i hi
   cases hrw
  ·intro s g i s' g' i' c hi hi' _ _ _
   obtain ⟨rfl,rfl,rfl⟩:=only s g i hi
   obtain ⟨rfl,rfl,rfl⟩:=only s' g' i' hi'
   exact ⟨rfl,rfl⟩
 refine calls_of_wp hf hb (wp_mono (AW_sound (w0:=⟨w,fun c=> b=some c,dr,hI,hT0,1,fun _=> ⟨b,cap,sz,es.length⟩⟩) (A:=A) hm hT heq hF c _ _ w ⟨stW1 sz es es.length args,κ0,rfl,hsim,?_,?_,rfl,h⟩) ?_)
 ·intro t v ht
  have hn:∀(l:List AV) (t:Nat),nthA l t=l[t]? :=by
   intro l
   induction l with
   | nil=> intro t;cases t <;> rfl
   | cons x l ih=> intro t;cases t with
    | zero=> rfl
    | succ t=> simp [nthA,ih]
  have ht:(AV.row 1000001 1 es.length::args)[t]? =some v:=by rw [←hn];exact ht
  have hall:RelL κ0 (AV.row 1000001 1 es.length::args) (sl::vals.toList):= .cons hrel (hr.mono hle)
  obtain ⟨x,hx,hrx⟩:=hall.get ht
  have hlt:t < (#[sl] ++ vals).size:=by
   have:=(List.getElem?_eq_some_iff.1 ht).1
   simp at this ⊢
   omega
  refine ⟨x,?_,hrx⟩
  rw [Array.getElem?_append_left hlt]
  have:(#[sl] ++ vals)[t]? =(sl::vals.toList)[t]? :=by
   rw [←Array.getElem?_toList]
   simp
  rw [this]
  exact hx
 ·simp [hnt]
  omega
 ·have fin:∀a' w',Holds ⟨w,fun c=> b=some c,dr,hI,hT0,1,fun _=> ⟨b,cap,sz,es.length⟩⟩ A nt (RetW1 rs sz es') a' w'→a'.defers= []∧∃v,(results fn a'.tmps).run P w'= .ok v w'∧∃v',Ending.returned v=Ending.returned v'∧BelowX dr (fun c=> b=some c) w w'∧OwnRes A S w w' sl b v' (.ow sz es'):=by
   rintro a' w' ⟨st,κ,rfl,hs,he,hn,hd,hp,hnil,hi⟩
   refine ⟨hd,.tuple #[],?_,.tuple #[],rfl,hs.below,rfl,?_⟩
   ·have e:results fn a'.tmps=(do let vs←fn.results.mapM (resR a'.tmps);pure (if h:vs.size=1 then vs[0] else .tuple vs)):=rfl
    have hf0:fn.results= #[]:=Array.ext' (by rw [hrs,hnil])
    rw [e,hf0]
    simp
   ·obtain ⟨q1,q2⟩:=hs.pin 0 Nat.zero_lt_one
    obtain ⟨e1,e2,e3⟩:=hs.ok 1000001 1 _ hi
    have q1:κ.φ 1000001 1=⟨b,cap,sz,es.length⟩:=q1
    rw [q1] at e1 e3
    have e1:es'.length=es.length:=e1
    refine ⟨fun _=> False,fun c h=> h.elim,⟨e2,?_⟩,fun c _ h=> h⟩
    rcases hsl with ⟨hbn,A',hA'⟩ | ⟨g,hbg,hsl⟩
    ·rcases e3 with ⟨_,h4⟩ | ⟨b',T',cur,hb',_⟩
     ·exact Or.inl ⟨hbn,h4,A',hA'⟩
     ·have hb':b=some b':=hb'
      rw [hbn] at hb'
      cases hb'
    ·rcases e3 with ⟨h4,_⟩ | ⟨b',T',cur,hb',hz,hh,hl,hm,hc,hr⟩
     ·have h4:b=none:=h4
      rw [hbg] at h4
      cases h4
     ·have hb':b=some b':=hb'
      rw [hbg] at hb'
      injection hb' with hb'
      subst hb'
      refine Or.inr ⟨g,T',cur,cap,hbg,by rw [e1];exact hsl,hh,by rw [e1];exact hl,hm,hc,fun i j e x hei hx=> ?_⟩
      obtain ⟨y,rfl⟩:=hp e (List.mem_of_getElem? hei) x (List.mem_of_getElem? hx)
      obtain ⟨u,hu,hd⟩:=hr i j e _ hei hx
      exact ⟨u,hu,relD_plain hd⟩
  intro e a' w' hq
  cases e with
  | normal=> exact fin a' w' hq
  | ret=> exact fin a' w' hq
  | exit i=> obtain ⟨_,_,_,_,_,_,_,h⟩:=hq;exact h.elim
  | goto l=> exact hq.elim
  | panic ch=> exact hq.elim
  | outgrown=> exact hq.elim
end
end Go.Proofs.YtiklglcjecopcaaGreatDoor
namespace Go.Proofs.YtiklglcjecopcaaGreatDoor
open Go.RowKit Go.Shelf
def growL {A:Type} (n:Int):Option (List A):=bif decide (0≤n) && decide (n≤1000000) then some [] else none
theorem grow_fnx {dr:Prop} {P:Program} {ρ:Ren} (L:Lays8.n4 P ρ) {i0:TypeInfo} {z:Value} {sz:Nat} (hi0:P.info? (ρ.t 25)=some i0) (hz0:i0.zero=some z) (hs0:0 < i0.size) (hb:i0.bytes≤100000) (hsz:i0.size=sz) (hz:z.cells.size=sz)
  (he:∀(args:Array Value) (w:World),(callFunc (ρ.f 4) args).run P w= .ok (.enter (ρ.f 4) args) w) {A:Type} (en:A→List D) {n:Int} {r:List A} (h:growL n=some r):
  FnX dr P (ρ.f 4) [.tup [.ow 0 []],.d (.v (.int .i64 n))] (.ow sz (List.map en r)):=by
 unfold growL at h
 cases hq:decide (0≤n) && decide (n≤1000000)
 ·rw [hq] at h;cases h
 ·rw [hq] at h
  injection h with h
  subst h
  rw [Bool.and_eq_true,decide_eq_true_eq,decide_eq_true_eq] at hq
  obtain ⟨k,rfl⟩:∃k:Nat,n=(k:Int):=⟨n.toNat,by omega⟩
  show FnGrow dr P (ρ.f 4) (k:Int) (.ow sz [])
  refine ⟨sz,[],rfl,he,fun B w=> ?_⟩
  by_cases h0:k=0
  ·subst h0
   refine Calls.mono (Any8.slices_Grow_room L B 0 0 0 w (by omega) (by omega) (by omega) (by omega)) ?_
   rintro e w' ⟨rfl,rfl⟩
   exact ⟨_,none,rfl,BelowD.refl _ _,⟨by simp,Or.inl ⟨rfl,rfl,B,rfl⟩⟩,fun c hc=> by cases hc⟩
  ·have hkb:k * i0.bytes≤1000000 * 100000:=Nat.mul_le_mul (by omega) hb
   refine Calls.mono (Any8.slices_Grow_grow L i0 z hi0 hz0 hs0 B 0 0 k [] w (by omega) (by omega) (by rw [Nat.zero_add];omega) (by omega) (by simp) (fun _=> rfl) (fun a ha j v hv=> by simp at hv)) ?_
   rintro e w' ⟨rfl,rfl⟩
   have hG:=grownCap_ge w (0 + k) 0 (ρ.t 25)
   have hGm:=grownCap_le_maxLen w (0 + k) 0 (ρ.t 25) (by unfold maxLen;omega)
   refine ⟨_,some w.heap.size,rfl,(BelowD.refl _ w).drew.trans (belowD_alloc w.drew _),⟨by simp,Or.inr ⟨w.heap.size,ρ.t 25,_,_,rfl,rfl,heap_alloc_new w.drew _,by simp,hGm,?_,fun i j e x hx=> by simp at hx⟩⟩,fun c hc=> by
    injection hc with hc
    subst hc
    refine ⟨Nat.le_refl _,?_⟩
    show w.heap.size < (w.drew.alloc _).heap.size
    have:(w.drew.alloc (.cells (([]:List Value).toArray ++ Builtin.zeroCells z.cells (0 + k - 0) ++ Builtin.zeroCells z.cells (grownCap w (0 + k) 0 (ρ.t 25) - (0 + k))) (ρ.t 25))).heap.size=w.heap.size + 1:=by
     show (w.heap.push _).size=_
     simp
    omega⟩
   rw [Array.size_append,Array.size_append,size_zeroCells,size_zeroCells,hz]
   simp only [List.size_toArray,List.length_nil,Nat.zero_add,Nat.sub_zero]
   rw [←Nat.add_mul]
   congr 1
   rw [Nat.zero_add] at hG
   omega
end Go.Proofs.YtiklglcjecopcaaGreatDoor
namespace Go.Proofs
open Go.Shelf
def Tryz.grow111_ren:Go.Shelf.Ren:=⟨fun | 4=> 111 | n=> n,fun | 22=> 49 | 25=> 48 | 3=> 3 | 4=> 4 | 9=> 9 | 20=> 20 | 0=> 0 | n=> n,fun | n=> n⟩
theorem Tryz.grow111:Go.Proofs.Lays8.n4 Tryz.prog Tryz.grow111_ren:={
 mixed:=by kernel_rfl
 f4:=⟨Tryz.f111.name,by decide,Tryz.func111.trans (congrArg some (by kernel_rfl))⟩
 t0:=Tryz.underlying0
 a0:=Tryz.isAgg0
 z0:=Tryz.sizeOf0
 v0:=Tryz.zeroValue0
 t3:=Tryz.underlying3
 a3:=Tryz.isAgg3
 z3:=Tryz.sizeOf3
 v3:=Tryz.zeroValue3
 t4:=Tryz.underlying4
 a4:=Tryz.isAgg4
 z4:=Tryz.sizeOf4
 v4:=Tryz.zeroValue4
 t9:=Tryz.underlying9
 a9:=Tryz.isAgg9
 z9:=Tryz.sizeOf9
 v9:=Tryz.zeroValue9
 t20:=Tryz.underlying20
 a20:=Tryz.isAgg20
 z20:=Tryz.sizeOf20
 v20:=Tryz.zeroValue20
 t22:=Tryz.underlying49
 a22:=Tryz.isAgg49
 z22:=Tryz.sizeOf49
 v22:=Tryz.zeroValue49}
end Go.Proofs

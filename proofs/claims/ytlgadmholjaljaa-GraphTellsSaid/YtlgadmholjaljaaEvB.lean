/-
  Evaluation of Go code on plain data: regions, branches, loops, whole functions. Over any program.
-/
import Derived.Test.YtlgadmholjaljaaEvA
import Derived.Orders
namespace Go.Proofs.Ytlgadmholjaljaa
open Go.RowKit

def putE (env : Nat → Option AV) (dst : Option Tmp) (v : AV) : Nat → Option AV :=
  match dst with
  | some d => updT env d (some v)
  | none => env
def gdst (ops : List Oper) (j : Nat) : Option Tmp := match ops[j]? with
  | some o => o.dst
  | none => none
/- regions that draw their order -/
def TK.isMap : TK → Bool
  | .map _ _ => true
  | _ => false
def opKind (T : Nat → TI) : Op → Nat
  | .pick .. => 0
  | .build .. => 0
  | .binOp .. => 0
  | .unOp .. => 0
  | .nilCheck .. => 0
  | .convert .. => 0
  | .makeFunc .. => 0
  | .fieldAddr .. => 0
  | .field .. => 0
  | .index .. => 0
  | .extract .. => 0
  | .call { callee := .builtin .len, argTypes := ts, .. } => bif ts.toList.any fun t => (T t).k.isMap then 1 else 0
  | .call { callee := .builtin .min, .. } => 0
  | .call { callee := .builtin .max, .. } => 0
  | .move .. => 1
  | .assign .. => 1
  | .load .. => 1
  | .alloc .. => 1
  | .box .. => 1
  | .buildSlice .. => 1
  | .slice .. => 1
  | .indexAddr .. => 1
  | .lookup .. => 1
  | .makeMap _ none => 1
  | .call { callee := .value fv, .. } => bif Nat.beq (ownOf T fv) 0 || Nat.beq (ownOf T fv) 7 then 1 else 2
  | _ => 2
def smallDst (o : Oper) : Bool := match o.dst with
  | some d => Nat.blt d 65536
  | none => true
def pairOk (T : Nat → TI) (ops : Array Oper) (b : Array Nat) (i j : Nat) : Bool :=
  (b.getD j 0).testBit i || match ops[i]?, ops[j]? with
    | some x, some y => x.apart ops y && (Nat.beq (opKind T x.op) 0 || Nat.beq (opKind T y.op) 0 || (Nat.beq (opKind T x.op) 1 && Nat.beq (opKind T y.op) 1 && x.dst.isSome && y.dst.isSome && smallDst x && smallDst y))
    | _, _ => false
/-- operations whose order is open do not touch each other -/
def drawOk (T : Nat → TI) (ops : Array Oper) : Bool := let b := Region.before ops
  (List.range ops.size).all fun j => ((ops[j]?).any fun o => o.after.all fun e => !Region.binds .any e || Nat.blt e.on j) && (List.range j).all fun i => pairOk T ops b i j

/- regions that draw their order and append: the appends come as early as they can -/
def isApp : Op → Bool
  | .call { callee := .builtin .append, .. } => true
  | _ => false
def appTmp (o : Oper) : Option Operand := match o.op with
  | .call { callee := .builtin .append, args := ⟨x :: _⟩, .. } => some x
  | _ => none
/-- the operation that made the row -/
def rootOf (ops : List Oper) : Nat → Tmp → Option Nat
  | 0, _ => none
  | n + 1, t => match ops.find? (fun o => match o.dst with
      | some d => Nat.beq d t
      | none => false) with
    | none => none
    | some o => match o.op with
      | .buildSlice .. => some t
      | _ => match appTmp o with
        | some (.tmp u) => rootOf ops n u
        | _ => none
def appRoot (ops : List Oper) (o : Oper) : Option Nat := match appTmp o with
  | some (.tmp u) => rootOf ops ops.length u
  | _ => none
/- regions that draw their order and store into rows: the stores come as early as they can -/
def isSt : Op → Bool
  | .store .. => true
  | _ => false
def hasSt (ops : List Oper) : Bool := ops.dropLast.any fun o => isSt o.op
def isMvLd : Op → Bool
  | .move .. => true
  | .assign .. => true
  | .load .. => true
  | _ => false
def isDat : AV → Bool
  | .d _ => true
  | _ => false
def isRp : AV → Bool
  | .rp _ _ _ _ => true
  | _ => false
def isBx : AV → Bool
  | .lp _ _ _ => true
  | .fp _ => true
  | _ => false
/-- stores into rows, of data; loads out of boxes and of data -/
def siteL (ops : List Oper) (env : Nat → Option AV) (o : Oper) : Bool := bif hasSt ops then (match o.op with
  | .store _ a x => (rhoOf env a).any isRp && (rhoOf env x).any fun v => (cellsOf v).all isDat
  | .load _ a => (rhoOf env a).any isBx
  | _ => true) else true
def siteA (base : Nat) (ops : List Oper) (env : Nat → Option AV) (o : Oper) : Bool := bif isApp o.op then (match appTmp o with
  | some x => match rhoOf env x with
    | some (.row s _ _) => (match appRoot ops o with
      | some d => Nat.beq s (base + d)
      | none => true)
    | some .nl => false
    | some (.sub _ _ _ _) => false
    | _ => true
  | none => false) else true
/-- regions without appends and stores: what only reads what is frozen may come at any time -/
def quiet (ops : List Oper) : Bool := !(ops.any fun o => isApp o.op) && !(hasSt ops)
def isPu : Op → Bool
  | .move _ => true
  | .assign _ => true
  | .load .. => true
  | .indexAddr .. => true
  | _ => false
def isTm : Op → Bool
  | .move (.tmp _) => true
  | _ => false
def quietP (ops : List Oper) (o : Oper) : Bool := (quiet ops && isPu o.op || isTm o.op) && o.guard.isNone
def notNl : AV → Bool
  | .nl => false
  | _ => true
def isFp : AV → Bool
  | .fp _ => true
  | _ => false
def isFz : AV → Bool
  | .d (.fz _) => true
  | _ => false
def pureAt (env : Nat → Option AV) (o : Oper) : Bool := match o.op with
  | .move x => (rawOf env x).any notNl
  | .assign x => (rawOf env x).any notNl
  | .load _ a => (rhoOf env a).any isFp
  | .indexAddr _ x _ => (rhoOf env x).any isFz
  | _ => false
def siteQ (ops : List Oper) (env : Nat → Option AV) (o : Oper) : Bool := bif quietP ops o then pureAt env o else true
def siteB (base : Nat) (ops : List Oper) (env : Nat → Option AV) (o : Oper) : Bool := siteL ops env o && siteA base ops env o && siteQ ops env o
def pairC (T : Nat → TI) (ops : Array Oper) (b : Array Nat) (i j : Nat) : Bool :=
  pairOk T ops b i j || match ops[i]?, ops[j]? with
    | some x, some y => x.apart ops y && isApp x.op && Nat.beq (opKind T y.op) 1 && (match appRoot ops.toList x, y.dst with
      | some d, some e => Nat.blt d 65536 && Nat.blt e 65536 && !Nat.beq d e
      | _, _ => false) || (x.apart ops y && isSt x.op && isMvLd y.op && hasSt ops.toList) || (x.apart ops y && quietP ops.toList y)
    | _, _ => false
def pairsC (T : Nat → TI) (ops : Array Oper) (b : Array Nat) : List Nat → Bool
  | [] => true
  | i :: r => Nat.blt i ops.size && (r.all fun j => !Nat.beq i j && pairC T ops b i j) && pairsC T ops b r
def drawOkC (T : Nat → TI) (ops : Array Oper) (c : List Nat) : Bool := let b := Region.before ops
  ((List.range ops.size).all fun j => ((ops[j]?).any fun o => o.after.all fun e => !Region.binds .any e || Nat.blt e.on j) && c.contains j) && (Nat.ble c.length ops.size && pairsC T ops b c)

section
variable (T : Nat → TI) (base nt : Nat) (F : FuncId → List AV → AV → Prop)
def dstOk (o : Oper) : Bool := match o.dst with
  | some d => Nat.blt d nt
  | none => true
/-- the operations of a region, in the order of the text -/
def runL (ops : List Oper) : List Oper → ASt → (ASt → Prop) → Prop
  | [], st, K => K st
  | o :: r, st, K => bif !dstOk nt o then False else match o.guard with
    | none => (opF T base st.env o).wp F st.m fun v m => runL ops r ⟨putE st.env o.dst v, m⟩ K
    | some (j, want) => match gdst ops j with
      | none => False
      | some t => match st.env t with
        | some (.kb true) => bif want then (opF T base st.env o).wp F st.m fun v m => runL ops r ⟨putE st.env o.dst v, m⟩ K else runL ops r ⟨putE st.env o.dst (.tup []), st.m⟩ K
        | some (.kb false) => bif want then runL ops r ⟨putE st.env o.dst (.tup []), st.m⟩ K else (opF T base st.env o).wp F st.m fun v m => runL ops r ⟨putE st.env o.dst v, m⟩ K
        | some (.d (.v (.bool b))) => bif want
          then IFp b ((opF T base (updT st.env t (some (.kb true))) o).wp F st.m fun v m => runL ops r ⟨putE (updT st.env t (some (.kb true))) o.dst v, m⟩ K) (runL ops r ⟨putE (updT st.env t (some (.kb false))) o.dst (.tup []), st.m⟩ K)
          else IFp b (runL ops r ⟨putE (updT st.env t (some (.kb true))) o.dst (.tup []), st.m⟩ K) ((opF T base (updT st.env t (some (.kb false))) o).wp F st.m fun v m => runL ops r ⟨putE (updT st.env t (some (.kb false))) o.dst v, m⟩ K)
        | some (.tup []) => runL ops r ⟨putE st.env o.dst (.tup []), st.m⟩ K
        | _ => False
def runC (ops : Array Oper) : List Nat → ASt → (ASt → Prop) → Prop
  | [], st, K => K st
  | i :: r, st, K => match ops[i]? with
    | none => False
    | some o => siteB base ops.toList st.env o = true ∧ runL T base nt F ops.toList [o] st fun st' => runC ops r st' K
inductive Ex where
  | normal | exit (id : Nat) | ret
def lookE : List (Nat × AV) → Nat → Option AV
  | [], _ => none
  | (t, v) :: r, x => bif Nat.beq x t then some v else lookE r x
def lookM : List (Nat × Inst) → Nat → Option Inst
  | [], _ => none
  | (t, v) :: r, x => bif Nat.beq x t then some v else lookM r x
def mkSt (E : List (Nat × AV)) (M : List (Nat × Inst)) : ASt := ⟨lookE E, fun s g => bif Nat.beq g 1 then lookM M s else none, fun _ => 1⟩
def sig : List (Nat × Nat × Nat) → Nat → Nat × Nat
  | [], x => (x, 1)
  | (l, p) :: r, x => bif Nat.beq x l then p else sig r x
def ren1 (σ : List (Nat × Nat × Nat)) : AV → AV
  | .lp s _ o => .lp (sig σ s).1 (sig σ s).2 o
  | .rp s _ i o => .rp (sig σ s).1 (sig σ s).2 i o
  | .row s _ n => .row (sig σ s).1 (sig σ s).2 n
  | .sub s _ o n => .sub (sig σ s).1 (sig σ s).2 o n
  | .mp s _ => .mp (sig σ s).1 (sig σ s).2
  | v => v
def low1 : AV → Bool
  | .lp _ g _ => Nat.beq g 1
  | .rp _ g _ _ => Nat.beq g 1
  | .row _ g _ => Nat.beq g 1
  | .sub _ g _ _ => Nat.beq g 1
  | .mp _ g => Nat.beq g 1
  | .d _ => true
  | .nl => true
  | .fp _ => true
  | _ => false
def lowV : AV → Bool
  | .agg cs => cs.all low1
  | .tup cs => cs.all low1
  | .fn _ cs => cs.all low1
  | v => low1 v
def renV (σ : List (Nat × Nat × Nat)) : AV → AV
  | .agg cs => .agg (cs.map (ren1 σ))
  | .tup cs => .tup (cs.map (ren1 σ))
  | .fn f cs => .fn f (cs.map (ren1 σ))
  | v => ren1 σ v
def renI (σ : List (Nat × Nat × Nat)) : Inst → Inst
  | .box cs => .box (cs.map (ren1 σ))
  | i => i
def lowI : Inst → Bool
  | .box cs => cs.all low1
  | _ => true
/-- a row seen as a part of it, or as data that stays -/
def viewA (m : Mem) (v x : AV) : AV := match v with
  | .sub _ _ _ _ => match x with
    | .row s g n => .sub s g 0 n
    | x => x
  | .d (.fz _) => match x with
    | .row s g n => match m.at_ s g with
      | some (.rows _ es true) => .d (.fz es)
      | _ => .row s g n
    | .sub s g o n => match m.at_ s g with
      | some (.rows _ es true) => .d (.fz ((es.drop o).take n))
      | _ => .sub s g o n
    | .nl => .d (.fz [])
    | x => x
  | _ => x
def viewL (m : Mem) : List AV → List AV → List AV
  | v :: vs, x :: xs => viewA m v x :: viewL m vs xs
  | _, xs => xs
def viewV (m : Mem) (v x : AV) : AV := match v with
  | .agg vs => match x with
    | .agg xs => .agg (viewL m vs xs)
    | x => x
  | v => viewA m v x
def viewI (m : Mem) (v x : Inst) : Inst := match v with
  | .box vs => match x with
    | .box xs => .box (viewL m vs xs)
    | x => x
  | _ => x
def mapO {α β : Type} (f : α → β) : Option α → Option β
  | some x => some (f x)
  | none => none
def chkE (σ : List (Nat × Nat × Nat)) (st : ASt) : List (Nat × AV) → Prop
  | [] => True
  | (t, v) :: r => bif lowV v then mapO (viewV st.m v) (unkO (st.env t)) = some (renV σ v) ∧ chkE σ st r else False
def chkM (σ : List (Nat × Nat × Nat)) (st : ASt) : List (Nat × Inst) → Prop
  | [] => True
  | (s, i) :: r => bif lowI i then mapO (viewI st.m i) (st.m.at_ (sig σ s).1 (sig σ s).2) = some (renI σ i) ∧ chkM σ st r else False
/-- blocks that have a name of their own keep it -/
def pinS (σ : List (Nat × Nat × Nat)) : Bool := σ.all fun p => Nat.ble p.1 1000000
def sepM (σ : List (Nat × Nat × Nat)) : List (Nat × Inst) → Bool
  | [] => pinS σ
  | (l, _) :: r => r.all (fun q => !(Nat.beq (sig σ l).1 (sig σ q.1).1 && Nat.beq (sig σ l).2 (sig σ q.1).2)) && sepM σ r
def frzM (m : Mem) : List (Nat × Nat) → Option Mem
  | [] => some m
  | (s, g) :: r => match m.at_ s g with
    | some (.rows sz es _) => frzM (m.set s g (some (.rows sz es true))) r
    | _ => none
/-- a state is one of the states at a loop's head, or at a place where ways meet -/
def Enters (st : ASt) (E : List (Nat × AV)) (M : List (Nat × Inst)) : Prop := ∃ fl σ, match frzM st.m fl with
  | some m => sepM σ M = true ∧ chkE σ ⟨st.env, m⟩ E ∧ chkM σ ⟨st.env, m⟩ M
  | none => False
structure LoopP (body : ASt → (Ex → ASt → Prop) → Prop) (st : ASt) (Q : Ex → ASt → Prop) : Prop where
  h : ∃ (X : Type) (E : X → List (Nat × AV)) (M : X → List (Nat × Inst)) (J : Nat → X → Prop),
    (∃ n x, J n x ∧ Enters st (E x) (M x)) ∧
    ∀ n x, J n x → body (mkSt (E x) (M x)) fun e st' => match e with
      | .normal => ∃ x', (∃ m, m < n ∧ J m x') ∧ Enters st' (E x') (M x')
      | e => Q e st'
structure SeqP (x : (Ex → ASt → Prop) → Prop) (y : ASt → (Ex → ASt → Prop) → Prop) (Q : Ex → ASt → Prop) : Prop where
  h : ∃ (X : Type) (E : X → List (Nat × AV)) (M : X → List (Nat × Inst)) (J : X → Prop),
    (x fun e st' => match e with
      | .normal => ∃ z, J z ∧ Enters st' (E z) (M z)
      | e => Q e st') ∧
    ∀ z, J z → y (mkSt (E z) (M z)) Q
/-- the first region of a piece of code -/
def firstR : Code → Option Nat
  | .region i _ _ => some i
  | .seq a b => match firstR a with
    | some i => some i
    | none => firstR b
  | .cond _ a b => match firstR a with
    | some i => some i
    | none => firstR b
  | .block _ c => firstR c
  | .loop c => firstR c
  | _ => none
def memN : List Nat → Nat → Bool
  | [], _ => false
  | a :: r, x => bif Nat.beq a x then true else memN r x
def joinAt (js : List Nat) (c : Code) : Bool := match firstR c with
  | some i => memN js i
  | none => false
variable (js : List Nat)
def AW : Code → ASt → (Ex → ASt → Prop) → Prop
  | .skip, st, Q => Q .normal st
  | .region _ ops false, st, Q => runL T base nt F ops.toList ops.toList st (Q .normal)
  | .region _ ops true, st, Q => (drawOk T ops = true ∧ runL T base nt F ops.toList ops.toList st (Q .normal)) ∨ ∃ c, drawOkC T ops c = true ∧ runC T base nt F ops c st (Q .normal)
  | .seq a b, st, Q => bif joinAt js b then SeqP (AW a st) (AW b) Q else AW a st fun e st' => match e with
    | .normal => AW b st' Q
    | e => Q e st'
  | .cond c x y, st, Q => match rawOf st.env c with
    | some (.kb true) => AW x st Q
    | some (.kb false) => AW y st Q
    | some (.d (.v (.bool b))) => IFp b (AW x st Q) (AW y st Q)
    | _ => False
  | .block id c, st, Q => AW c st fun e st' => match e with
    | .exit i => bif Nat.beq i id then Q .normal st' else Q (.exit i) st'
    | e => Q e st'
  | .loop c, st, Q => LoopP (AW c) st Q
  | .exit id, st, Q => Q (.exit id) st
  | .ret, st, Q => Q .ret st
  | _, _, _ => False
end
/- the results of a function -/
def unused (used : List (Nat × Nat)) (s g : Nat) : Bool := used.all fun p => !(Nat.beq p.1 s && Nat.beq p.2 g)
def ret1 (m : Mem) (used : List (Nat × Nat)) (v r : AV) (K : List (Nat × Nat) → Prop) : Prop :=
  match r with
  | .ow sz es => match v with
    | .nl => es = [] ∧ K used
    | .row s g _ => match m.at_ s g with
      | some (.rows sz' es' false) => bif unused used s g then es' = es ∧ sz' = sz ∧ K ((s, g) :: used) else False
      | _ => False
    | _ => False
  | .d x => match v with
    | .d y => y = x ∧ K used
    | .nl => x = .fz [] ∧ K used
    | .row s g _ => match m.at_ s g with
      | some (.rows _ es' _) => bif unused used s g then x = .fz es' ∧ K ((s, g) :: used) else False
      | _ => False
    | .sub s g o n => match m.at_ s g with
      | some (.rows _ es' _) => bif unused used s g then x = .fz ((es'.drop o).take n) ∧ K ((s, g) :: used) else False
      | _ => False
    | _ => False
  | _ => False
def retL (m : Mem) : List (Nat × Nat) → List AV → List AV → (List (Nat × Nat) → Prop) → Prop
  | used, [], [], K => K used
  | used, v :: vs, r :: rs, K => ret1 m used v r fun used => retL m used vs rs K
  | _, _, _, _ => False
def retC (m : Mem) (used : List (Nat × Nat)) (v r : AV) (K : List (Nat × Nat) → Prop) : Prop :=
  match r with
  | .agg rs => match v with
    | .agg vs => retL m used vs rs K
    | _ => False
  | r => ret1 m used v r K
def retT (m : Mem) : List (Nat × Nat) → List AV → List AV → (List (Nat × Nat) → Prop) → Prop
  | used, [], [], K => K used
  | used, v :: vs, r :: rs, K => retC m used v r fun used => retT m used vs rs K
  | _, _, _, _ => False
def valR (T : Nat → TI) (st : ASt) : ResultVar → (AV → Prop) → Prop
  | .tmp t, K => match st.env t with
    | some v => K (unk v)
    | none => False
  | .cell t ty, K => match st.env t with
    | some (.lp s g o) => match st.m.at_ s g with
      | some (.box cs) => match ldA (T ty) (cs.drop o) with
        | .ret v => K v
        | _ => False
      | _ => False
    | _ => False
def valL (T : Nat → TI) (st : ASt) : List ResultVar → (List AV → Prop) → Prop
  | [], K => K []
  | x :: xs, K => valR T st x fun v => valL T st xs fun vs => K (v :: vs)
/-- a state from which a function returns, and what it returns -/
def RetP (T : Nat → TI) (rs : List ResultVar) (r : AV) (st : ASt) : Prop := valL T st rs fun vs => match vs with
  | [v] => retC st.m [] v r fun _ => True
  | vs => match r with
    | .tup ps => retT st.m [] vs ps fun _ => True
    | _ => False
def nthA : List AV → Nat → Option AV
  | [], _ => none
  | v :: _, 0 => some v
  | _ :: vs, n + 1 => nthA vs n
def st0 (args : List AV) : ASt := ⟨nthA args, fun _ _ => none, fun _ => 0⟩
def EndP (T : Nat → TI) (rs : List ResultVar) (r : AV) : Ex → ASt → Prop
  | .normal, st => RetP T rs r st
  | .ret, st => RetP T rs r st
  | .exit _, _ => False
end Go.Proofs.Ytlgadmholjaljaa

/-
  Words for memory that all contracts of this seat use: strings as lists of bytes, slices that read as lists of cells, blocks that a call makes, and the row's last step for any law.
  Running code on constants: values with names for blocks, and what code does to them. Over any program.
-/
import Derived.Test.YtiklglcjecopcaaGreatDoorRows
import Derived.WalkKit
import Derived.WalkSpells
import Derived.WalkLawsBesides
import Derived.Lib.Hide
import Derived.Deep.QuietTactic
import Derived.BigQuiet
import Derived.IntWalk
import Derived.ProofKit
import Derived.ChangeSame
import Derived.OpenShut
import Derived.Carry
import Derived.Deep.Slices
import Derived.Deep.Fields
import Derived.Orders
namespace Go.Proofs.YtiklglcjecopcaaGreatDoor
open Go.RowKit
theorem below_alloc (w:World) (o:Obj):Below w.heap.size w (w.alloc o):=(Below.refl _ _).alloc (Nat.le_refl _) _
theorem below_drew0 {w:World} {n:Nat}:Below w.heap.size w (w.drewN n):=⟨rfl,rfl,rfl,Nat.le_refl _,fun _ _=> rfl⟩
theorem add_eq (b o j:Nat):(⟨b,o,none⟩:Addr).add j=⟨b,o + j,none⟩:=by
 unfold Addr.add
 by_cases hj:j=0
 ·subst hj;rfl
 ·simp [hj]
theorem flat_get {α:Type} (f:α→List Value) (k:Nat) (hf:∀a,(f a).length=k) (l:List α) (i j:Nat) (hi:i < l.length) (hj:j < k):(l.flatMap f)[i * k + j]? =(f l[i])[j]? :=by
 induction l generalizing i with
 | nil=> simp at hi
 | cons t ts ih=>
  have hl:=hf t
  cases i with
  | zero=> simp only [List.flatMap_cons,Nat.zero_mul,Nat.zero_add,List.getElem_cons_zero];rw [List.getElem?_append_left (by omega)]
  | succ i=>
   simp only [List.flatMap_cons,List.getElem_cons_succ]
   rw [List.getElem?_append_right (by rw [Nat.add_mul];omega),hl,show (i + 1) * k + j - k=i * k + j by rw [Nat.add_mul];omega]
   exact ih i (by simpa using hi)
theorem addr_of_cell {w:World} {a:Addr} {v:Value} (h:w.cell? a=some v):a=⟨a.block,a.off,none⟩∧a.block < w.heap.size:=by
 obtain ⟨b,o,s⟩:=a
 unfold World.cell? at h
 split at h
 ·rename_i c _ _ hh
  cases s with
  | none=> exact ⟨rfl,by
    rcases Nat.lt_or_ge b w.heap.size with hlt | hge
    ·exact hlt
    ·rw [Array.getElem?_eq_none hge] at hh;cases hh⟩
  | some s=> simp at h
 ·cases h
section
open Go.WideShapes Go.ChangeShapes
variable {H : Type} {enc : TypeId × Value → H} {P : Program}
theorem post_of_below {f:Func} {s:ChangeSpec} {apart fresh handsOn again:Bool} {W W':World} {args:Array Value} {v:Value} {ds gs:List (DataW H)} {before pa pv:List MemPlace}
  (hW:DataW.Whole enc P f.params.toList s.vars apart W args.toList ds gs before)
  (hres:∀(b:Nat) (sp:Nat→Bool) (hd:Bool),DataW.TrodAll enc P W' b sp hd f.resultTypes.toList (v.resultList f.resultTypes.size) (s.fn H (ds ++ gs)).results [])
  (hargs:∀sp:Nat→Bool,(∀p∈before,sp p.block=true)→DataW.TrodAll enc P W' 0 sp true f.params.toList args.toList (s.fn H (ds ++ gs)).args pa)
  (hvars:∀sp:Nat→Bool,(∀p∈before,sp p.block=true)→DataW.TrodVars enc P W' sp s.vars (s.fn H (ds ++ gs)).vars pv)
  (hps:before=pa ++ pv) (hb:Below W.heap.size W W')
  (hok:∀(j:Nat) (t:TypeId) (r:Value),f.resultTypes[j]? =some t→(v.resultList f.resultTypes.size)[j]? =some r→Value.okWide P W' .any 0 t r):
  s.post enc P f apart fresh handsOn again W args v W':=by
 have hlt:∀p∈before,p.block < W.heap.size:=fun p hp=> hW.lt p hp
 have hold:∀p∈before,(fun b=> decide (b < W.heap.size)) p.block=true:=fun p hp=> by simpa using hlt p hp
 refine ⟨ds,gs,before,[],pa,pv,hW,hres _ _ _,hargs _ hold,hvars _ hold,World.keptBut_mono (fun p hp=> ⟨hp,?_⟩) (hb.frame (·∈before)),fun _=> ?_⟩
 ·rw [hps,List.mem_append] at hp
  exact Or.inr hp
 ·obtain ⟨_,_,_,_,_,hz,hn⟩:=hW
  refine ⟨hok,_,_,([] ++ pa) ++ pv,⟨[] ++ pa,pv,trodAll_append (hargs _ (fun _ _=> rfl)) (hres _ _ _),hvars _ (fun _ _=> rfl),rfl,?_,?_⟩,?_⟩
  ·intro b off hp
   have hin:MemPlace.cell b off∈before:=by rw [hps];simpa using hp
   rw [hb.frozen (hlt _ hin)]
   exact hz b off hin
  ·intro ha
   have:=hn ha
   rw [hps] at this
   simpa using this
  ·intro p hp _
   rw [hps]
   simpa using hp
theorem trodAll_stays {W W':World} (hl:laidOutB P=true) (hb:Below W.heap.size W W') (sp:Nat→Bool):∀(ts:List TypeId) (vs:List Value) (ds:List (DataW H)) (p:List MemPlace),
  (∀t∈ts,P.readableRec t=true∧t < P.types.size)→DataW.TrodAll enc P W 0 (fun _=> true) true ts vs ds p→(∀x∈p,x.block < W.heap.size)→(∀x∈p,sp x.block=true)→DataW.TrodAll enc P W' 0 sp true ts vs ds p
 | [],vs,ds,p,_,h,_,_=> by
  obtain ⟨rfl,rfl,rfl⟩:=trodAll_nil h
  exact trodAll_mk0
 | t::ts,vs,ds,p,hr,h,hlt,hsp=> by
  obtain ⟨v,vs',d,ds',p0,q0,rfl,rfl,rfl,h0,h1⟩:=trodAll_cons h
  have hr0:=hr t (by simp)
  refine trodAll_cons_mk (WideElems.Trod_stays hl hr0.1 hr0.2 h0 (fun x hx=> hb.same (hlt x (by simp [hx]))) (fun x hx=> hsp x (by simp [hx]))) ?_
  exact trodAll_stays hl hb sp ts vs' ds' q0 (fun t ht=> hr t (by simp [ht])) h1 (fun x hx=> hlt x (by simp [hx])) (fun x hx=> hsp x (by simp [hx]))
theorem post_law {f:Func} {s:ChangeSpec} {again:Bool} {W W':World} {args:Array Value} {ds gs:List (DataW H)} {before p:List MemPlace} {tb:TypeId}
  (hl:laidOutB P=true) (hr:∀t∈f.params.toList,P.readableRec t=true∧t < P.types.size)
  (hW:DataW.Whole enc P f.params.toList s.vars false W args.toList ds gs before) (hA:DataW.TrodAll enc P W 0 (fun _=> true) true f.params.toList args.toList ds p) (hbp:before=p)
  (hvars:s.vars= []) (hres:f.resultTypes= #[tb]) (htb:P.underlying tb=some .bool)
  (hf1:(s.fn H (ds ++ gs)).results= [.lit (.bool true)]) (hf2:(s.fn H (ds ++ gs)).args=ds) (hf3:(s.fn H (ds ++ gs)).vars= []) (hb:Below W.heap.size W W')
  (hok:∀(j:Nat) (t:TypeId) (r:Value),f.resultTypes[j]? =some t→((Value.bool true).resultList f.resultTypes.size)[j]? =some r→Value.okWide P W' .any 0 t r):
  s.post enc P f false true false again W args (.bool true) W':=by
 have hlt:∀x∈before,x.block < W.heap.size:=fun x hx=> hW.lt x hx
 refine post_of_below (pa:=before) (pv:= []) hW ?_ ?_ ?_ (by simp) hb hok
 ·intro b sp hd
  rw [hf1,hres]
  exact trodAll_cons_mk (shut_bool htb true) trodAll_mk0
 ·intro sp hsp
  rw [hf2]
  subst hbp
  exact trodAll_stays hl hb sp _ _ _ _ hr hA hlt hsp
 ·intro sp _
  rw [hf3,hvars]
  rfl
end
end Go.Proofs.YtiklglcjecopcaaGreatDoor
namespace Go.Proofs.YtiklglcjecopcaaGreatDoor.Ci
open Go.RowKit
@[reducible] noncomputable def ob {α β : Type} (x : Option α) (f : α → Option β) : Option β := @Option.rec α (fun _ => Option β) none f x
@[reducible] noncomputable def ifB {α : Type} (b : Bool) (x y : α) : α := @Bool.rec (fun _ => α) y x b
@[reducible] noncomputable def ifO {β : Type} (b : Bool) (x : Option β) : Option β := @Bool.rec (fun _ => Option β) none x b
inductive Tr (α:Type) where
 | e
 | n (v:Option α) (l r:Tr α)
noncomputable def getN {α:Type} (v:Option α) (l r:Nat→Option α) (k:Nat):Option α:=ifB (Nat.beq k 0) v (ifB (Nat.beq (Nat.mod k 2) 1) (l (Nat.div (Nat.pred k) 2)) (r (Nat.div (Nat.pred k) 2)))
noncomputable def Tr.get {α:Type} (t:Tr α):Nat→Option α:= @Tr.rec α (fun _=> Nat→Option α) (fun _=> none) (fun v _ _ l r=> getN v l r) t
noncomputable def putE0 {α:Type} (v:Option α) (ih:Nat→Tr α→Tr α) (k:Nat):Tr α:=ifB (Nat.beq k 0) (.n v .e .e) (ifB (Nat.beq (Nat.mod k 2) 1) (.n none (ih (Nat.div (Nat.pred k) 2) .e) .e) (.n none .e (ih (Nat.div (Nat.pred k) 2) .e)))
noncomputable def putN0 {α:Type} (v:Option α) (ih:Nat→Tr α→Tr α) (k:Nat) (w:Option α) (l r:Tr α):Tr α:=ifB (Nat.beq k 0) (.n v l r) (ifB (Nat.beq (Nat.mod k 2) 1) (.n w (ih (Nat.div (Nat.pred k) 2) l) r) (.n w l (ih (Nat.div (Nat.pred k) 2) r)))
noncomputable def Tr.putF {α:Type} (v:Option α) (f:Nat):Nat→Tr α→Tr α:= @Nat.rec (fun _=> Nat→Tr α→Tr α) (fun _ t=> t) (fun _ ih k t=> @Tr.rec α (fun _=> Tr α) (putE0 v ih k) (fun w l r _ _=> putN0 v ih k w l r) t) f
noncomputable def Tr.put {α:Type} (t:Tr α) (k:Nat) (v:α):Tr α:=Tr.putF (some v) (Nat.succ k) k t
noncomputable def Tr.del {α:Type} (t:Tr α) (k:Nat):Tr α:=Tr.putF none (Nat.succ k) k t
inductive Cp where
 | kn (k:Nat)
 | op (z:Nat)
inductive CV where
 | v (x:Value)
 | t (bs:List Nat)
 | p (l o:Nat)
 | s (l o n:Nat) (c:Cp)
 | m (l:Nat)
 | fn (f:FuncId) (fs cs:List CV)
 | agg (cs:List CV)
 | tup (cs:List CV)
inductive Kd where
 | any
 | of (t:TypeId)
 | whole (t:TypeId)
inductive Blk where
 | cl (k:Kd) (cs:List CV)
 | mp (es:List (CV×CV))
structure CSt where
 env:Tr CV
 h:Tr Blk
 nx:Nat
inductive Res where
 | no
 | ok (v:CV) (h:Tr Blk) (nx:Nat)
inductive Ec where
 | normal
 | exit (id:Nat)
 | ret
inductive Run where
 | no
 | at_ (e:Ec) (st:CSt)
@[reducible] noncomputable def isCl {β : Type} (b : Blk) (f : List CV → Option β) : Option β := @Blk.rec (fun _ => Option β) (fun _ cs => f cs) (fun _ => none) b
@[reducible] noncomputable def isMp {β : Type} (b : Blk) (f : List (CV × CV) → Option β) : Option β := @Blk.rec (fun _ => Option β) (fun _ _ => none) f b
noncomputable def isP {β:Type} (x:CV) (f:Nat→Nat→Option β):Option β:=match x with
 | .p l o=> f l o
 | _=> none
noncomputable def isV {β:Type} (x:CV) (f:Value→Option β):Option β:=match x with
 | .v y=> f y
 | _=> none
noncomputable def isNat {β:Type} (x:CV) (f:Nat→Option β):Option β:=isV x fun y=> match y with
 | .int _ n=> @Int.rec (fun _=> Option β) f (fun _=> none) n
 | _=> none
noncomputable def isM {β:Type} (x:CV) (f:Nat→Option β):Option β:=match x with
 | .m l=> f l
 | _=> none
noncomputable def isBool {β:Type} (x:CV) (f:Bool→Option β):Option β:=isV x fun y=> match y with
 | .bool b=> f b
 | _=> none
noncomputable def nth {α:Type} (l:List α):Nat→Option α:= @List.rec α (fun _=> Nat→Option α) (fun _=> none) (fun x _ ih i=> @Nat.rec (fun _=> Option α) (some x) (fun i _=> ih i) i) l
noncomputable def dropN {α:Type} (n:Nat):List α→List α:= @Nat.rec (fun _=> List α→List α) (fun l=> l) (fun _ ih l=> @List.rec α (fun _=> List α) [] (fun _ l _=> ih l) l) n
noncomputable def takeN {α:Type} (n:Nat):List α→List α:= @Nat.rec (fun _=> List α→List α) (fun _=> []) (fun _ ih l=> @List.rec α (fun _=> List α) [] (fun x l _=> x::ih l) l) n
noncomputable def onto {α:Type} (vs:List α):List α→List α:= @List.rec α (fun _=> List α→List α) (fun l=> l) (fun v _ ih l=> @List.rec α (fun _=> List α) [] (fun _ l _=> v::ih l) l) vs
noncomputable def wrt {α:Type} (vs:List α) (o:Nat):List α→List α:= @Nat.rec (fun _=> List α→List α) (onto vs) (fun _ ih l=> @List.rec α (fun _=> List α) [] (fun x l _=> x::ih l) l) o
noncomputable def len {α:Type} (l:List α):Nat:= @List.rec α (fun _=> Nat) 0 (fun _ _ n=> Nat.succ n) l
noncomputable def app {α:Type} (l r:List α):List α:= @List.rec α (fun _=> List α) r (fun x _ ih=> x::ih) l
noncomputable def cells (v:CV):List CV:=match v with
 | .agg cs=> cs
 | x=> [x]
def nt:CV→Bool
 | .tup _=> false
 | _=> true
def semP {α:Type} (P:Program):Sem α→Option α
 | .pure a=> some a
 | .program k=> semP P (k P)
 | .mark _ k=> semP P k
 | _=> none
def strV (bs:List Nat):Value:= .string ⟨(bs.map UInt8.ofNat).toArray⟩
def toV1:CV→Option Value
 | .v x=> some x
 | .t bs=> some (strV bs)
 | _=> none
def toVs:List CV→Option (List Value)
 | []=> some []
 | c::cs=> match toV1 c,toVs cs with
  | some v,some vs=> some (v::vs)
  | _,_=> none
def toV:CV→Option Value
 | .agg cs=> match toVs cs with
  | some vs=> some (.agg vs.toArray)
  | none=> none
 | c=> toV1 c
def ofV1:Value→CV
 | .string s=> .t (s.data.toList.map UInt8.toNat)
 | x=> .v x
def ofV:Value→Option CV
 | .agg cs=> bif cs.toList.all Value.oneCell' then some (.agg (cs.toList.map ofV1)) else none
 | .tuple _=> none
 | x=> some (ofV1 x)
noncomputable def ev (E:Tr CV) (x:Operand):Option CV:= @Operand.rec (fun _=> Option CV) (fun t=> E.get t) ofV (fun _=> none) (fun f=> some (.fn f [] [])) x
noncomputable def evL (E:Tr CV) (l:List Operand):Option (List CV):= @List.rec Operand (fun _=> Option (List CV)) (some []) (fun x _ ih=> ob (ev E x) fun c=> ob ih fun cs=> some (c::cs)) l
def ieq:Int→Int→Bool
 | .ofNat a,.ofNat b=> Nat.beq a b
 | .negSucc a,.negSucc b=> Nat.beq a b
 | _,_=> false
def ilt:Int→Int→Bool
 | .ofNat a,.ofNat b=> Nat.ble (Nat.succ a) b
 | .negSucc a,.negSucc b=> Nat.ble (Nat.succ b) a
 | .negSucc _,.ofNat _=> true
 | .ofNat _,.negSucc _=> false
def wrapI (n:Int):Int:=match n with
 | .ofNat m=> bif Nat.ble m 4611686018427387904 then .ofNat m else IntKind.i64.wrap n
 | .negSucc m=> bif Nat.ble m 4611686018427387904 then .negSucc m else IntKind.i64.wrap n
def wrapF (k:IntKind) (n:Int):Int:=match k with
 | .i64=> wrapI n
 | _=> k.wrap n
noncomputable def now {β:Type} (n:Int) (f:Int→β):β:= @Int.rec (fun _=> β) (fun m=> @Nat.rec (fun _=> β) (f (.ofNat 0)) (fun m _=> f (.ofNat (Nat.succ m))) m) (fun m=> @Nat.rec (fun _=> β) (f (.negSucc 0)) (fun m _=> f (.negSucc (Nat.succ m))) m) n
noncomputable def nowB {β:Type} (b:Bool) (f:Bool→β):β:= @Bool.rec (fun _=> β) (f false) (f true) b
def kEq:IntKind→IntKind→Bool
 | .i64,.i64=> true
 | .u8,.u8=> true
 | a,b=> decide (a=b)
noncomputable def I (k:IntKind) (n:Int):Option CV:=now n fun n=> some (.v (.int k n))
noncomputable def B (b:Bool):Option CV:=nowB b fun b=> some (.v (.bool b))
def leqN:List Nat→List Nat→Bool
 | [],[]=> true
 | a::l,b::r=> bif Nat.beq a b then leqN l r else false
 | _,_=> false
def lltN:List Nat→List Nat→Bool
 | [],[]=> false
 | [],_::_=> true
 | _::_,[]=> false
 | a::l,b::r=> bif Nat.beq a b then lltN l r else Nat.ble (Nat.succ a) b
noncomputable def plainOp (P:Program) (op:BinOp) (t:TypeId) (x y:Operand) (a b:CV):Option CV:=ob (toV a) fun a=> ob (toV b) fun b=> ob (semP P (do eqGuard op t x y a b;Go.binOp op t a b)) ofV
def isNilS:Value→Bool
 | .slice none 0 0=> true
 | _=> false
def isNilP:Value→Bool
 | .pointer none=> true
 | _=> false
def isNilM:Value→Bool
 | .map none=> true
 | _=> false
def nilFits (d:TypeDesc) (a:CV) (y:Value):Bool:=match y with
 | .pointer none=> match a,d with
  | .p _ _,.pointer _=> true
  | _,_=> false
 | .slice none _ _=> match a,d with
  | .s _ _ _ _,.slice _=> true
  | _,_=> false
 | .map none=> match a,d with
  | .m _,.map _ _=> true
  | _,_=> false
 | .nilFunc=> match a,d with
  | .fn _ _ _,.func _ _ _=> true
  | _,_=> false
 | _=> false
noncomputable def bopI (op:BinOp) (k:IntKind) (m n:Int) (other:Option CV):Option CV:=match op with
 | .add=> I k (wrapF k (Int.add m n))
 | .sub=> I k (wrapF k (Int.sub m n))
 | .mul=> I k (wrapF k (Int.mul m n))
 | .eql=> B (ieq m n)
 | .neq=> B (Bool.not (ieq m n))
 | .lss=> B (ilt m n)
 | .leq=> B (Bool.not (ilt n m))
 | .gtr=> B (ilt n m)
 | .geq=> B (Bool.not (ilt m n))
 | _=> other
noncomputable def bopS (op:BinOp) (m n:List Nat):Option CV:=match op with
 | .add=> ifO (Nat.ble (Nat.add (len m) (len n)) 1000000000) (some (.t (app m n)))
 | .eql=> B (leqN m n)
 | .neq=> B (Bool.not (leqN m n))
 | .lss=> B (lltN m n)
 | .leq=> B (Bool.or (lltN m n) (leqN m n))
 | .gtr=> B (Bool.not (Bool.or (lltN m n) (leqN m n)))
 | .geq=> B (Bool.not (lltN m n))
 | _=> none
noncomputable def bopN (P:Program) (op:BinOp) (t:TypeId) (a b:CV):Option CV:=isV b fun y=> ob (P.underlying t) fun d=> ifO (nilFits d a y) (match op with
 | .eql=> some (.v (.bool false))
 | .neq=> some (.v (.bool true))
 | _=> none)
noncomputable def bopV (op:BinOp) (x y:Value) (other:Option CV):Option CV:=match x with
 | .int k m=> match y with
  | .int k' n=> ifB (kEq k k') (bopI op k m n other) other
  | _=> other
 | _=> other
noncomputable def bop (P:Program) (op:BinOp) (t:TypeId) (x y:Operand) (a b:CV):Option CV:=match a with
 | .v m=> isV b fun n=> bopV op m n (plainOp P op t x y a b)
 | .t m=> match b with
  | .t n=> bopS op m n
  | _=> none
 | .agg _=> plainOp P op t x y a b
 | .tup _=> none
 | a=> bopN P op t a b
def und (P:Program) (t:TypeId):Option TypeDesc:=P.underlying t
noncomputable def szT (P:Program) (t:TypeId):Option Nat:=ob (P.info? t) fun i=> some i.size
noncomputable def zeroT (P:Program) (t:TypeId):Option (List CV):=ob (P.info? t) fun i=> ob i.zero fun z=> ob (ofV z) fun c=> some (cells c)
def aggT:TypeDesc→Bool
 | .struct _=> true
 | .array _ _=> true
 | _=> false
noncomputable def elT (P:Program) (t:TypeId):Option TypeId:=ob (und P t) fun d=> match d with
 | .slice e=> some e
 | _=> none
noncomputable def isStr (P:Program) (t:TypeId):Option Nat:=ob (und P t) fun d=> match d with
 | .string=> some 0
 | _=> none
noncomputable def arT {β:Type} (P:Program) (t:TypeId) (f:Nat→TypeId→Option β):Option β:=ob (und P t) fun d=> match d with
 | .array n e=> f n e
 | _=> none
noncomputable def stT {β:Type} (P:Program) (t:TypeId) (f:Array Field→Option β):Option β:=ob (und P t) fun d=> match d with
 | .struct fs=> f fs
 | _=> none
noncomputable def ld (P:Program) (t:TypeId) (cs:List CV):Option CV:=ob (und P t) fun d=> ifB (aggT d) (ob (szT P t) fun z=> ifO (Nat.ble z (len cs)) (some (.agg (takeN z cs)))) (nth cs 0)
noncomputable def cellsOf (h:Tr Blk) (l:Nat):Option (List CV):=ob (h.get l) fun b=> isCl b some
noncomputable def cellsAt (h:Tr Blk) (l o:Nat):Option (List CV):=ob (cellsOf h l) fun cs=> some (dropN o cs)
noncomputable def fillC (place:Nat→Option (Nat×Nat)) (l:List (Nat×CV)):List CV→Option (List CV):=
 @List.rec (Nat×CV) (fun _=> List CV→Option (List CV)) some (fun q _ ih cs=> ob (place q.1) fun p=> ifO (Bool.and (nt q.2) (Bool.and (Nat.beq (len (cells q.2)) p.2) (Nat.ble (Nat.add p.1 p.2) (len cs)))) (ih (wrt (cells q.2) p.1 cs))) l
noncomputable def placesC (P:Program) (l:List Field):Option (List (Nat×Nat)):= @List.rec Field (fun _=> Option (List (Nat×Nat))) (some []) (fun f _ ih=> ob (szT P f.type) fun z=> ob ih fun l=> some ((f.offset,z)::l)) l
noncomputable def evP (E:Tr CV) (l:List (Nat×Operand)):Option (List (Nat×CV)):= @List.rec (Nat×Operand) (fun _=> Option (List (Nat×CV))) (some []) (fun q _ ih=> ob (ev E q.2) fun v=> ob ih fun l=> some ((q.1,v)::l)) l
noncomputable def repC (z:List CV) (n:Nat):List CV:= @Nat.rec (fun _=> List CV) [] (fun _ ih=> app z ih) n
noncomputable def bnd (E:Tr CV) (d:Nat) (x:Option Operand):Option Nat:= @Option.rec Operand (fun _=> Option Nat) (some d) (fun x=> ob (ev E x) fun v=> isNat v some) x
noncomputable def sliT (bs:List Nat) (a b:Nat):Option CV:=ifO (Bool.and (Nat.ble a b) (Nat.ble b (len bs))) (some (.t (takeN (Nat.sub b a) (dropN a bs))))
noncomputable def mkS (l o z a b m:Nat):CV:= .s l (ifB (Nat.beq a m) o (Nat.add o (Nat.mul a z))) (Nat.sub b a) (.kn (Nat.sub m a))
noncomputable def sliS (z l o n:Nat) (c:Cp) (a b:Nat):Option CV:= @Cp.rec (fun _=> Option CV)
 (fun c=> ifO (Bool.and (Nat.ble a b) (Nat.ble b c)) (some (mkS l o z a b c)))
 (fun z'=> ifO (Bool.and (Nat.beq z z') (Bool.and (Nat.ble a b) (Nat.ble b n))) (some (.s l (Nat.add o (Nat.mul a z)) (Nat.sub b a) (.op z)))) c
noncomputable def sli3 (z l o n:Nat) (a b m:Nat):Option CV:=ifO (Bool.and (Nat.ble a b) (Bool.and (Nat.ble b m) (Nat.ble m n))) (some (mkS l o z a b m))
noncomputable def sliceS (P:Program) (E:Tr CV) (t:TypeId) (l o n:Nat) (c:Cp) (lo hi mx:Option Operand):Option CV:=ob (elT P t) fun e=> ob (szT P e) fun z=> ob (bnd E 0 lo) fun a=> ob (bnd E n hi) fun b=>
 @Option.rec Operand (fun _=> Option CV) (sliS z l o n c a b) (fun _=> ob (bnd E n mx) fun m=> sli3 z l o n a b m) mx
noncomputable def noneO {α β:Type} (x:Option α) (y:Option β):Option β:= @Option.rec α (fun _=> Option β) y (fun _=> none) x
noncomputable def sliceC (P:Program) (E:Tr CV) (t:TypeId) (lo hi mx:Option Operand) (x:CV):Option CV:=match x with
 | .t bs=> noneO mx (ob (isStr P t) fun _=> ob (bnd E 0 lo) fun a=> ob (bnd E (len bs) hi) fun b=> sliT bs a b)
 | .v y=> ifO (isNilS y) (ob (elT P t) fun e=> ob (szT P e) fun _=> ob (bnd E 0 lo) fun a=> ob (bnd E 0 hi) fun b=> ob (bnd E 0 mx) fun m=> ifO (Nat.beq (Nat.add a (Nat.add b m)) 0) (some (.v (.slice none 0 0))))
 | .s l o n c=> sliceS P E t l o n c lo hi mx
 | .p l o=> noneO mx (arT P t fun k e=> ob (szT P e) fun z=> ob (bnd E 0 lo) fun a=> ob (bnd E k hi) fun b=> ifO (Bool.and (Nat.ble a b) (Nat.ble b k)) (some (mkS l o z a b k)))
 | _=> none
noncomputable def elemP (z l o n j:Nat):Option CV:=ifO (Nat.ble (Nat.succ j) n) (some (.p l (Nat.add o (Nat.mul j z))))
noncomputable def iaddrC (P:Program) (t:TypeId) (x:CV) (j:Nat):Option CV:=match x with
 | .s l o n _=> ob (elT P t) fun e=> ob (szT P e) fun z=> elemP z l o n j
 | .p l o=> arT P t fun n e=> ob (szT P e) fun z=> elemP z l o n j
 | _=> none
noncomputable def indexC (P:Program) (t:TypeId) (x:CV) (j:Nat):Option CV:=match x with
 | .t bs=> ob (isStr P t) fun _=> ob (nth bs j) fun b=> some (.v (.int .u8 (.ofNat b)))
 | .agg cs=> arT P t fun n e=> ob (szT P e) fun z=> ifO (Nat.ble (Nat.succ j) n) (ld P e (dropN (Nat.mul j z) cs))
 | _=> none
noncomputable def fieldA (P:Program) (t:TypeId) (i:Nat) (l o:Nat):Option CV:=stT P t fun fs=> ob (fs[i]?) fun f=> ob (szT P f.type) fun z=> ifO (Nat.ble 1 z) (some (.p l (Nat.add o f.offset)))
noncomputable def fieldC (P:Program) (t:TypeId) (i:Nat) (x:CV):Option CV:=match x with
 | .agg cs=> stT P t fun fs=> ob (fs[i]?) fun f=> ld P f.type (dropN f.offset cs)
 | _=> none
def vSame:Value→Value→Bool
 | .int k a,.int k' b=> kEq k k' && ieq a b
 | .bool a,.bool b=> a==b
 | .pointer none,.pointer none=> true
 | .slice none 0 0,.slice none 0 0=> true
 | .map none,.map none=> true
 | .nilFunc,.nilFunc=> true
 | .nilIface,.nilIface=> true
 | _,_=> false
def cpSame:Cp→Cp→Bool
 | .kn a,.kn b=> Nat.beq a b
 | .op a,.op b=> Nat.beq a b
 | _,_=> false
def same1:CV→CV→Bool
 | .v a,.v b=> vSame a b
 | .t a,.t b=> leqN a b
 | .p l o,.p l' o'=> Nat.beq l l' && Nat.beq o o'
 | .s l o n c,.s l' o' n' c'=> Nat.beq l l' && (Nat.beq o o' && (Nat.beq n n' && cpSame c c'))
 | .m l,.m l'=> Nat.beq l l'
 | .fn f [] [],.fn f' [] []=> Nat.beq f f'
 | _,_=> false
def sameL:List CV→List CV→Bool
 | [],[]=> true
 | a::l,b::r=> same1 a b && sameL l r
 | _,_=> false
def same:CV→CV→Bool
 | .agg a,.agg b=> sameL a b
 | .tup a,.tup b=> sameL a b
 | a,b=> same1 a b
def kdSame:Kd→Kd→Bool
 | .any,.any=> true
 | .of a,.of b=> Nat.beq a b
 | .whole a,.whole b=> Nat.beq a b
 | _,_=> false
def sameBlk:Blk→Blk→Bool
 | .cl k a,.cl k' b=> kdSame k k' && sameL a b
 | .mp [],.mp []=> true
 | _,_=> false
def dist1:CV→CV→Bool
 | .v (.int k a),.v (.int k' b)=> !(kEq k k' && ieq a b)
 | .v (.bool a),.v (.bool b)=> !(a==b)
 | .t a,.t b=> !leqN a b
 | _,_=> false
def distL:List CV→List CV→Bool
 | a::l,b::r=> dist1 a b || distL l r
 | _,_=> false
def dist:CV→CV→Bool
 | .agg a,.agg b=> distL a b
 | a,b=> dist1 a b
def entO (k:Value):MapEntry:=⟨k,.bool false,0⟩
noncomputable def keysC (l:List (CV×CV)):Option (List MapEntry):= @List.rec (CV×CV) (fun _=> Option (List MapEntry)) (some []) (fun q _ ih=> ob (toV q.1) fun v=> ob ih fun r=> some (entO v::r)) l
noncomputable def findC (P:Program) (kt:TypeId) (e:Bool) (k:CV) (l:List (CV×CV)):Option (Option (Nat×Value)):=ob (toV k) fun kv=> ob (semP P (Instr.checkKey e 10000 kt kv)) fun _=> ob (keysC l) fun es=> semP P (Instr.findKey kt kv es)
noncomputable def setAt {α:Type} (x:α) (i:Nat):List α→List α:= @Nat.rec (fun _=> List α→List α) (fun l=> @List.rec α (fun _=> List α) [] (fun _ l _=> x::l) l) (fun _ ih l=> @List.rec α (fun _=> List α) [] (fun y l _=> y::ih l) l) i
noncomputable def emptyB {α:Type} (l:List α):Bool:= @List.rec α (fun _=> Bool) true (fun _ _ _=> false) l
noncomputable def distAll (k:CV) (l:List (CV×CV)):Bool:= @List.rec (CV×CV) (fun _=> Bool) true (fun q _ ih=> ifB (dist q.1 k) ih false) l
noncomputable def putC (P:Program) (kt:TypeId) (k v:CV) (l:List (CV×CV)):Option (List (CV×CV)):=ob (findC P kt false k l) fun r=> @Option.rec (Nat×Value) (fun _=> Option (List (CV×CV))) (ifO (distAll k l) (some (app l [(k,v)])))
 (fun q=> ob (nth l q.1) fun old=> ob (toV old.1) fun a=> ob (toV k) fun b=> ifO (Bool.and (same old.1 k) (Instr.sameBits 10000 a b)) (some (setAt (k,v) q.1 l))) r
noncomputable def mapAt (h:Tr Blk) (l:Nat):Option (List (CV×CV)):=ob (h.get l) fun b=> isMp b some
noncomputable def mapOf (h:Tr Blk) (x:CV):Option (List (CV×CV)):=match x with
 | .v y=> ifO (isNilM y) (some [])
 | .m l=> mapAt h l
 | _=> none
noncomputable def mpT {β:Type} (P:Program) (t:TypeId) (f:TypeId→TypeId→Option β):Option β:=ob (und P t) fun d=> match d with
 | .map k e=> f k e
 | _=> none
noncomputable def okC (ok:Bool) (b:Bool) (v:CV):CV:=ifB ok (.tup [v,.v (.bool b)]) v
noncomputable def lookC (P:Program) (h:Tr Blk) (t:TypeId) (x i:CV) (ok:Bool):Option CV:=mpT P t fun kt e=> ob (mapOf h x) fun es=> ob (findC P kt (emptyB es) i es) fun r=>
 @Option.rec (Nat×Value) (fun _=> Option CV) (ob (P.info? e) fun ie=> ob ie.zero fun z=> ob (ofV z) fun c=> some (okC ok false c)) (fun q=> ob (nth es q.1) fun p=> some (okC ok true p.2)) r
noncomputable def lenV (n:Nat):Option CV:=some (.v (.int .i64 (.ofNat n)))
noncomputable def lenC (P:Program) (h:Tr Blk) (t:TypeId) (x:CV):Option CV:=ob (und P t) fun d=> match d with
 | .string=> (match x with
  | .t bs=> lenV (len bs)
  | _=> none)
 | .slice _=> (match x with
  | .s _ _ n _=> lenV n
  | .v y=> ifO (isNilS y) (lenV 0)
  | _=> none)
 | .map _ _=> ob (mapOf h x) fun es=> lenV (len es)
 | .array n _=> lenV n
 | _=> none
noncomputable def capC (P:Program) (t:TypeId) (x:CV):Option CV:=ob (elT P t) fun _=> match x with
 | .s _ _ _ c=> @Cp.rec (fun _=> Option CV) lenV (fun _=> none) c
 | .v y=> ifO (isNilS y) (lenV 0)
 | _=> none
noncomputable def toVL (l:List CV):Option (List Value):= @List.rec CV (fun _=> Option (List Value)) (some []) (fun c _ ih=> ob (toV c) fun v=> ob ih fun vs=> some (v::vs)) l
noncomputable def pr1 (P:Program) (x:CV) (f:Value→Sem Value):Option CV:=ob (toV x) fun v=> ob (semP P (f v)) ofV
noncomputable def qPick (E:Tr CV) (c a b:Operand):Option CV:=ob (ev E c) fun v=> isBool v fun t=> ifB t (ev E a) (ev E b)
noncomputable def qLoad (P:Program) (E:Tr CV) (h:Tr Blk) (t:TypeId) (a:Operand):Option CV:=ob (ev E a) fun v=> isP v fun l o=> ob (cellsAt h l o) fun cs=> ld P t cs
noncomputable def qFaddr (P:Program) (E:Tr CV) (t:TypeId) (x:Operand) (i:Nat):Option CV:=ob (ev E x) fun v=> isP v (fieldA P t i)
noncomputable def qIaddr (P:Program) (E:Tr CV) (t:TypeId) (x i:Operand):Option CV:=ob (ev E x) fun v=> ob (ev E i) fun j=> isNat j (iaddrC P t v)
noncomputable def qBin (P:Program) (E:Tr CV) (op:BinOp) (t:TypeId) (x y:Operand):Option CV:=ob (ev E x) fun a=> ob (ev E y) fun b=> bop P op t x y a b
noncomputable def qNil (E:Tr CV) (x:Operand):Option CV:=ob (ev E x) fun v=> match v with
 | .p l o=> some (.p l o)
 | .fn f a b=> some (.fn f a b)
 | _=> none
noncomputable def qExtract (E:Tr CV) (x:Operand) (i:Nat):Option CV:=ob (ev E x) fun v=> match v with
 | .tup cs=> nth cs i
 | _=> none
noncomputable def bldD (P:Program) (d:TypeDesc) (z:List CV) (l:List (Nat×CV)):Option (List CV):=match d with
 | .struct fs=> ob (placesC P fs.toList) fun pl=> fillC (nth pl) l z
 | .array _ e=> ob (szT P e) fun sz=> fillC (fun i=> some (Nat.mul i sz,sz)) l z
 | _=> none
noncomputable def qBuild (P:Program) (E:Tr CV) (t:TypeId) (ps:Array (Nat×Operand)):Option CV:=ob (und P t) fun d=> ob (zeroT P t) fun z=> ob (evP E ps.toList) fun l=> ob (bldD P d z l) fun cs=> some (.agg cs)
noncomputable def qField (P:Program) (E:Tr CV) (t:TypeId) (x:Operand) (i:Nat):Option CV:=ob (ev E x) (fieldC P t i)
noncomputable def qIndex (P:Program) (E:Tr CV) (t:TypeId) (x i:Operand):Option CV:=ob (ev E x) fun v=> ob (ev E i) fun j=> isNat j (indexC P t v)
noncomputable def mxOk (hi mx:Option Operand):Bool:= @Option.rec Operand (fun _=> Bool) true (fun _=> @Option.rec Operand (fun _=> Bool) false (fun _=> true) hi) mx
noncomputable def qSlice (P:Program) (E:Tr CV) (t:TypeId) (x:Operand) (lo hi mx:Option Operand):Option CV:=ob (ev E x) fun v=> ifO (mxOk hi mx) (sliceC P E t lo hi mx v)
noncomputable def unC (P:Program) (op:UnOp) (v:CV):Option CV:=match op with
 | .not=> isBool v fun b=> B (Bool.not b)
 | op=> pr1 P v (Op.unary op)
noncomputable def qUn (P:Program) (E:Tr CV) (op:UnOp) (x:Operand):Option CV:=ob (ev E x) (unC P op)
noncomputable def qConv (P:Program) (E:Tr CV) (a b:TypeId) (x:Operand):Option CV:=ob (ev E x) fun v=> pr1 P v (convert a b)
noncomputable def qFunc (E:Tr CV) (f:Fn) (fs cs:Array Operand):Option CV:=match f with
 | .func f=> ob (evL E fs.toList) fun a=> ob (evL E cs.toList) fun b=> some (.fn f a b)
 | _=> none
noncomputable def qLook (P:Program) (E:Tr CV) (h:Tr Blk) (t:TypeId) (x i:Operand) (ok:Bool):Option CV:=ob (ev E x) fun v=> ob (ev E i) fun j=> lookC P h t v j ok
noncomputable def qBui (P:Program) (E:Tr CV) (h:Tr Blk) (b:Builtin) (args:Array Operand) (ts:Array TypeId) (ty:TypeId):Option CV:=ob (evL E args.toList) fun vs=> match b with
 | .len=> ob (nth vs 0) fun v=> ob (nth ts.toList 0) fun t=> lenC P h t v
 | .cap=> ob (nth vs 0) fun v=> ob (nth ts.toList 0) fun t=> capC P t v
 | .min=> ob (toVL vs) fun us=> ob (semP P (Builtin.min_ ts ty us.toArray)) ofV
 | .max=> ob (toVL vs) fun us=> ob (semP P (Builtin.max_ ts ty us.toArray)) ofV
 | _=> none
noncomputable def qCall (P:Program) (E:Tr CV) (h:Tr Blk) (ty:TypeId) (c:Call):Option CV:=match c.callee with
 | .builtin b=> qBui P E h b c.args c.argTypes ty
 | _=> none
noncomputable def exQ (P:Program) (E:Tr CV) (h:Tr Blk) (ty:TypeId) (op:Op):Option CV:=match op with
 | .move x=> ev E x
 | .assign x=> ev E x
 | .pick c a b=> qPick E c a b
 | .load t a=> qLoad P E h t a
 | .fieldAddr t x i=> qFaddr P E t x i
 | .indexAddr t x i=> qIaddr P E t x i
 | .binOp op t x y _=> qBin P E op t x y
 | .nilCheck x=> qNil E x
 | .extract x i=> qExtract E x i
 | .build t ps=> qBuild P E t ps
 | .field t x i=> qField P E t x i
 | .index t x i=> qIndex P E t x i
 | .slice t x lo hi mx=> qSlice P E t x lo hi mx
 | .unOp op _ x=> qUn P E op x
 | .convert a b x=> qConv P E a b x
 | .makeFunc f fs cs=> qFunc E f fs cs
 | .lookup t x i ok=> qLook P E h t x i ok
 | .call c=> qCall P E h ty c
 | _=> none
noncomputable def setCl (h:Tr Blk) (l:Nat) (cs:List CV):Tr Blk:= @Option.rec Blk (fun _=> Tr Blk) h (fun b=> @Blk.rec (fun _=> Tr Blk) (fun k _=> h.put l (.cl k cs)) (fun _=> h) b) (h.get l)
noncomputable def kOf (h:Tr Blk) (l:Nat):Kd:= @Option.rec Blk (fun _=> Kd) .any (fun b=> @Blk.rec (fun _=> Kd) (fun k _=> k) (fun _=> .any) b) (h.get l)
def kdE (e:TypeId) (o:Nat) (k:Kd):Kd:=match k with
 | .any=> .any
 | .of t=> bif Nat.beq t e && Nat.beq o 0 then .of e else .any
 | .whole t=> bif Nat.beq t e && Nat.beq o 0 then .of e else .any
noncomputable def aSlice (P:Program) (E:Tr CV) (t:TypeId) (n:Nat) (ps:Array (Nat×Operand)) (l:Nat):Option (CV×Blk):=ob (elT P t) fun e=> ob (szT P e) fun z=> ob (zeroT P e) fun z0=> ob (evP E ps.toList) fun vs=>
 ifO (Bool.and (Nat.beq (len z0) z) (Nat.ble (Nat.mul n z) 16777216)) (ob (fillC (fun i=> some (Nat.mul i z,z)) vs (repC z0 n)) fun cs=> some (.s l 0 n (.kn n),.cl (.of e) cs))
noncomputable def bytesOk (P:Program) (e:TypeId):Option Nat:=ob (P.info? e) fun i=> ifO (Nat.ble i.bytes 1000) (some 0)
noncomputable def aMake (P:Program) (E:Tr CV) (t:TypeId) (a b:Operand) (l:Nat):Option (CV×Blk):=ob (elT P t) fun e=> ob (bytesOk P e) fun _=> ob (szT P e) fun z=> ob (zeroT P e) fun z0=> ob (ev E a) fun x=> ob (ev E b) fun y=> isNat x fun n=> isNat y fun c=> ifO (Bool.and (Nat.beq (len z0) z) (Bool.and (Nat.ble n c) (Bool.and (Nat.ble c 1000000) (Nat.ble (Nat.mul c z) 16777216)))) (some (.s l 0 n (.kn c),.cl (.of e) (repC z0 c)))
noncomputable def exA (P:Program) (E:Tr CV) (op:Op) (l:Nat):Option (CV×Blk):=match op with
 | .alloc t=> ob (zeroT P t) fun cs=> some (.p l 0,.cl (.whole t) cs)
 | .box t x=> ob (ev E x) fun v=> ifO (nt v) (some (.p l 0,.cl (.whole t) (cells v)))
 | .buildSlice t n ps=> aSlice P E t n ps l
 | .makeMap _ r=> noneO r (some (.m l,.mp []))
 | .makeSlice t a b=> aMake P E t a b l
 | _=> none
noncomputable def srcC (h:Tr Blk) (z:Nat) (x:CV):Option (Nat×List CV):=match x with
 | .v y=> ifO (isNilS y) (some (0,[]))
 | .s l o n _=> ifB (Nat.beq n 0) (some (0,[])) (ob (cellsAt h l o) fun cs=> ifO (Nat.ble (Nat.mul n z) (len cs)) (some (n,takeN (Nat.mul n z) cs)))
 | _=> none
@[reducible] noncomputable def oR {α : Type} (x : Option α) (f : α → Res) : Res := @Option.rec α (fun _ => Res) .no f x
noncomputable def appNew (k:Kd) (h:Tr Blk) (nx n z:Nat) (cs:List CV):Res:= .ok (.s nx 0 n (.op z)) (h.put nx (.cl k cs)) (Nat.succ nx)
noncomputable def appIn (h:Tr Blk) (nx z l o n:Nat) (c:Cp) (cs new:List CV) (k:Nat):Res:= .ok (.s l o (Nat.add n k) c) (setCl h l (wrt new (Nat.add o (Nat.mul n z)) cs)) nx
noncomputable def appS (e:TypeId) (h:Tr Blk) (nx z l o n k:Nat) (c:Cp) (new cs:List CV):Res:= @Cp.rec (fun _=> Res)
 (fun c=> ifB (Nat.ble (Nat.add n k) c) (ifB (Nat.ble (Nat.add o (Nat.mul (Nat.add n k) z)) (len cs)) (appIn h nx z l o n (.kn c) cs new k) .no) (ifB (Nat.ble (Nat.add o (Nat.mul n z)) (len cs)) (appNew (.of e) h nx (Nat.add n k) z (app (takeN (Nat.mul n z) (dropN o cs)) new)) .no))
 (fun z'=> ifB (Nat.beq z z') (ifB (Nat.ble (Nat.add o (Nat.mul n z)) (len cs)) (appNew (kdE e o (kOf h l)) (h.del l) nx (Nat.add n k) z (app (takeN (Nat.mul n z) (dropN o cs)) new)) .no) .no) c
noncomputable def appC (e:TypeId) (h:Tr Blk) (nx z:Nat) (x:CV) (k:Nat) (new:List CV):Res:=match x with
 | .v y=> ifB (isNilS y) (ifB (Nat.beq k 0) (.ok x h nx) (ifB (Nat.ble k 1000000) (appNew (.of e) h nx k z new) .no)) .no
 | .s l o n c=> ifB (Nat.beq k 0) (.ok x h nx) (ifB (Nat.ble (Nat.add n k) 1000000) (oR (cellsOf h l) fun cs=> appS e h nx z l o n k c new cs) .no)
 | _=> .no
abbrev Callee:=FuncId→List CV→Tr Blk→Nat→Res
noncomputable def eStore (P:Program) (E:Tr CV) (h:Tr Blk) (nx:Nat) (t:TypeId) (a x:Operand):Res:=oR (ob (ev E a) fun p=> isP p fun l o=> ob (ev E x) fun v=> ob (szT P t) fun z=> ob (cellsOf h l) fun cs=> ifO (Bool.and (nt v) (Bool.and (Nat.beq (len (cells v)) z) (Nat.ble (Nat.add o z) (len cs)))) (some (setCl h l (wrt (cells v) o cs)))) fun h=> .ok (.tup []) h nx
noncomputable def ePut (P:Program) (E:Tr CV) (h:Tr Blk) (nx:Nat) (t:TypeId) (m k x:Operand):Res:=oR (mpT P t fun kt _=> ob (ev E m) fun m=> isM m fun l=> ob (ev E k) fun i=> ob (ev E x) fun v=> ob (mapAt h l) fun es=> ob (putC P kt i v es) fun es=> some (h.put l (.mp es))) fun h=> .ok (.tup []) h nx
noncomputable def eCallV (C:Callee) (h:Tr Blk) (nx:Nat) (g:CV) (xs:List CV):Res:=match g with
 | .fn f fs cs=> C f (app fs (app xs cs)) h nx
 | _=> .no
noncomputable def eCall (C:Callee) (E:Tr CV) (h:Tr Blk) (nx:Nat) (f:Operand) (args:Array Operand):Res:=oR (ev E f) fun g=> oR (evL E args.toList) fun xs=> eCallV C h nx g xs
noncomputable def eApp2 (P:Program) (h:Tr Blk) (nx:Nat) (e:TypeId) (a:CV) (src:Nat→Option (Nat×List CV)):Res:=oR (bytesOk P e) fun _=> oR (szT P e) fun z=> oR (zeroT P e) fun z0=> ifB (Nat.beq (len z0) z) (oR (src z) fun q=> appC e h nx z a q.1 q.2) .no
noncomputable def byC (bs:List Nat):List CV:= @List.rec Nat (fun _=> List CV) [] (fun b _ ih=> .v (.int .u8 (.ofNat b))::ih) bs
noncomputable def srcT (x:CV) (z:Nat):Option (Nat×List CV):=match x with
 | .t bs=> ifO (Nat.beq z 1) (some (len bs,byC bs))
 | _=> none
noncomputable def eApp (P:Program) (h:Tr Blk) (nx:Nat) (t t':TypeId) (a b:CV):Res:=oR (elT P t) fun e=> ifB (Nat.beq t t') (eApp2 P h nx e a fun z=> srcC h z b) (oR (isStr P t') fun _=> eApp2 P h nx e a (srcT b))
noncomputable def two {α:Type} (l:List α) (f:α→α→Res):Res:=match l with
 | [a,b]=> f a b
 | _=> .no
noncomputable def one {α:Type} (l:List α) (f:α→Res):Res:=match l with
 | [a]=> f a
 | _=> .no
noncomputable def eData (x:CV) (h:Tr Blk) (nx:Nat):Res:=match x with
 | .v y=> ifB (isNilS y) (.ok (.v (.pointer none)) h nx) .no
 | .s l o n _=> ifB (Nat.ble 1 n) (.ok (.p l o) h nx) .no
 | _=> .no
noncomputable def isI64 {β:Type} (x:CV) (f:Nat→Option β):Option β:=isV x fun y=> match y with
 | .int k n=> ifO (kEq k .i64) (@Int.rec (fun _=> Option β) f (fun _=> none) n)
 | _=> none
noncomputable def byN (x:CV):Option Nat:=match x with
 | .v y=> (match y with
  | .int k n=> ifO (kEq k .u8) (@Int.rec (fun _=> Option Nat) (fun n=> ifO (Nat.ble n 255) (some n)) (fun _=> none) n)
  | _=> none)
 | _=> none
noncomputable def byL (l:List CV):Option (List Nat):= @List.rec CV (fun _=> Option (List Nat)) (some []) (fun c _ ih=> ob (byN c) fun b=> ob ih fun bs=> some (b::bs)) l
noncomputable def ptT (P:Program) (t:TypeId):Option TypeId:=ob (und P t) fun d=> match d with
 | .pointer e=> some e
 | _=> none
def kdIs (t:TypeId) (k:Kd):Bool:=match k with
 | .any=> false
 | .of e=> Nat.beq e t
 | .whole e=> Nat.beq e t
noncomputable def eStr2 (P:Program) (h:Tr Blk) (nx:Nat) (e:TypeId) (l n:Nat):Res:=ifB (Bool.and (kdIs e (kOf h l)) (Bool.and (Nat.beq (P.cellsOf e) 1) (Nat.ble n 1000000))) (oR (cellsOf h l) fun cs=> ifB (Nat.ble n (len cs)) (oR (byL (takeN n cs)) fun bs=> .ok (.t bs) (h.del l) nx) .no) .no
noncomputable def eStr (P:Program) (h:Tr Blk) (nx:Nat) (t:TypeId) (x y:CV):Res:=oR (ptT P t) fun e=> oR (isI64 y some) fun n=> match x with
 | .v q=> ifB (isNilP q) (ifB (Nat.beq n 0) (.ok (.t []) h nx) .no) .no
 | .p l o=> ifB (Bool.and (Nat.ble 1 n) (Nat.beq o 0)) (eStr2 P h nx e l n) .no
 | _=> .no
noncomputable def eBui (P:Program) (E:Tr CV) (h:Tr Blk) (nx:Nat) (b:Builtin) (args:Array Operand) (ts:Array TypeId):Res:=match b with
 | .append=> oR (evL E args.toList) fun vs=> two vs fun x y=> two ts.toList fun t t'=> eApp P h nx t t' x y
 | .unsafeSliceData=> oR (evL E args.toList) fun vs=> one vs fun x=> eData x h nx
 | .unsafeString=> oR (evL E args.toList) fun vs=> two vs fun x y=> two ts.toList fun t _=> eStr P h nx t x y
 | _=> .no
noncomputable def eCallO (P:Program) (C:Callee) (E:Tr CV) (h:Tr Blk) (nx:Nat) (c:Call):Res:=match c.callee with
 | .value f=> eCall C E h nx f c.args
 | .builtin b=> eBui P E h nx b c.args c.argTypes
 | _=> .no
noncomputable def exE (P:Program) (C:Callee) (E:Tr CV) (h:Tr Blk) (nx:Nat) (op:Op):Res:=match op with
 | .store t a x=> eStore P E h nx t a x
 | .mapUpdate t m k x=> ePut P E h nx t m k x
 | .insert t m k x=> ePut P E h nx t m k x
 | .call c=> eCallO P C E h nx c
 | _=> .no
def clsB:Builtin→Nat
 | .len=> 0
 | .cap=> 0
 | .min=> 0
 | .max=> 0
 | _=> 2
def cls:Op→Nat
 | .alloc .. => 1
 | .box .. => 1
 | .buildSlice .. => 1
 | .makeMap .. => 1
 | .makeSlice .. => 1
 | .store .. => 2
 | .mapUpdate .. => 2
 | .insert .. => 2
 | .call c=> match c.callee with
  | .builtin b=> clsB b
  | _=> 2
 | _=> 0
noncomputable def putE (E:Tr CV) (d:Option Tmp) (v:CV):Tr CV:= @Option.rec Tmp (fun _=> Tr CV) E (fun t=> E.put t v) d
noncomputable def doQ (st:CSt) (d:Option Tmp) (r:Option CV):Option CSt:=ob r fun v=> some ⟨putE st.env d v,st.h,st.nx⟩
noncomputable def doA (st:CSt) (d:Option Tmp) (l:Nat) (r:Option (CV×Blk)):Option CSt:=ob r fun q=> noneO (st.h.get l) (some ⟨putE st.env d q.1,st.h.put l q.2,st.nx⟩)
noncomputable def doE (st:CSt) (d:Option Tmp) (r:Res):Option CSt:= @Res.rec (fun _=> Option CSt) none (fun v h nx=> some ⟨putE st.env d v,h,nx⟩) r
noncomputable def isN (n:Nat) {β:Type} (x y z:β):β:= @Nat.rec (fun _=> β) x (fun n _=> @Nat.rec (fun _=> β) y (fun _ _=> z) n) n
noncomputable def ex1 (P:Program) (C:Callee) (o:Oper) (l:Nat) (st:CSt):Option CSt:=isN (cls o.op) (doQ st o.dst (exQ P st.env st.h o.type o.op)) (doA st o.dst l (exA P st.env o.op l)) (doE st o.dst (exE P C st.env st.h st.nx o.op))
noncomputable def wantV (w:Bool) (v:CV):Option Bool:=match v with
 | .v y=> match y with
  | .bool b=> some (ifB b w (Bool.not w))
  | _=> none
 | .tup _=> some false
 | _=> none
noncomputable def wantG (ops:List Oper) (E:Tr CV) (g:Nat×Bool):Option Bool:=ob (nth ops g.1) fun o=> ob o.dst fun t=> ob (E.get t) (wantV g.2)
noncomputable def want (ops:List Oper) (E:Tr CV) (g:Option (Nat×Bool)):Option Bool:= @Option.rec (Nat×Bool) (fun _=> Option Bool) (some true) (wantG ops E) g
noncomputable def ex1g (P:Program) (C:Callee) (ops:List Oper) (o:Oper) (l:Nat) (st:CSt):Option CSt:=ob (want ops st.env o.guard) fun w=> ifB w (ex1 P C o l st) (some ⟨putE st.env o.dst (.tup []),st.h,st.nx⟩)
noncomputable def exS (P:Program) (C:Callee) (ops:List Oper) (o:Oper) (st:CSt):Option CSt:=ifB (Nat.beq (cls o.op) 1) (ex1g P C ops o st.nx ⟨st.env,st.h,Nat.succ st.nx⟩) (ex1g P C ops o 0 st)
noncomputable def runS (P:Program) (C:Callee) (ops l:List Oper):CSt→Option CSt:= @List.rec Oper (fun _=> CSt→Option CSt) some (fun o _ ih st=> ob (exS P C ops o st) ih) l
noncomputable def bitB (m i:Nat):Bool:=Nat.beq (Nat.mod (Nat.shiftRight m i) 2) 1
noncomputable def inB (a b:Nat):Bool:=Nat.beq (Nat.land a b) a
noncomputable def orO (x:Option Nat):Nat:= @Option.rec Nat (fun _=> Nat) 0 (fun n=> n) x
noncomputable def befE (acc:Tr Nat) (l:List Edge):Nat:= @List.rec Edge (fun _=> Nat) 0 (fun e _ ih=> ifB (Region.binds .any e) (Nat.lor (Nat.lor (Nat.pow 2 e.on) (orO (acc.get e.on))) ih) ih) l
noncomputable def befT (l:List Oper):Nat→Tr Nat→Tr Nat:= @List.rec Oper (fun _=> Nat→Tr Nat→Tr Nat) (fun _ t=> t) (fun o _ ih i t=> ih (Nat.succ i) (t.put i (befE t o.after.toList))) l
def rdsB:Op→Bool
 | .load .. => true
 | .lookup .. => true
 | .call .. => true
 | _=> false
inductive Sp where
 | q (i:Nat)
 | e (i:Nat) (rs:List Nat)
noncomputable def nowQ (b:Tr Nat) (eAll eDone:Nat) (l:List Nat):List Nat:= @List.rec Nat (fun _=> List Nat) [] (fun i _ ih=> ifB (inB (Nat.land (orO (b.get i)) eAll) eDone) (i::ih) ih) l
noncomputable def laterQ (b:Tr Nat) (eAll eDone:Nat) (l:List Nat):List Nat:= @List.rec Nat (fun _=> List Nat) [] (fun i _ ih=> ifB (inB (Nat.land (orO (b.get i)) eAll) eDone) ih (i::ih)) l
noncomputable def looked (ops:List Oper) (m:Nat) (l:List Nat):List Nat:= @List.rec Nat (fun _=> List Nat) [] (fun i _ ih=> ifB (bitB m i) ih (@Option.rec Oper (fun _=> List Nat) ih (fun o=> ifB (Bool.or (Nat.beq (cls o.op) 1) (rdsB o.op)) (i::ih) ih) (nth ops i))) l
noncomputable def mkQ (l:List Nat) (r:List Sp):List Sp:= @List.rec Nat (fun _=> List Sp) r (fun i _ ih=> .q i::ih) l
noncomputable def mkSc (ops:List Oper) (b:Tr Nat) (eAll:Nat) (es:List Nat):Nat→List Nat→List Nat→List Sp:= @List.rec Nat (fun _=> Nat→List Nat→List Nat→List Sp) (fun eDone qs _=> mkQ (nowQ b eAll eDone qs) [])
 (fun e _ ih eDone qs done=> mkQ (nowQ b eAll eDone qs) (.e e (looked ops (orO (b.get e)) (app done (nowQ b eAll eDone qs)))::ih (Nat.lor eDone (Nat.pow 2 e)) (laterQ b eAll eDone qs) (app done (nowQ b eAll eDone qs)))) es
noncomputable def idxC (k:Bool) (l:List Oper):Nat→List Nat:= @List.rec Oper (fun _=> Nat→List Nat) (fun _=> []) (fun o _ ih i=> ifB (ifB (Nat.beq (cls o.op) 2) k (Bool.not k)) (i::ih (Nat.succ i)) (ih (Nat.succ i))) l
noncomputable def maskC (l:List Nat):Nat:= @List.rec Nat (fun _=> Nat) 0 (fun i _ ih=> Nat.lor (Nat.pow 2 i) ih) l
noncomputable def dstT (l:List Oper):Nat→Tr Nat→Option (Tr Nat):= @List.rec Oper (fun _=> Nat→Tr Nat→Option (Tr Nat)) (fun _ t=> some t) (fun o _ ih i t=> @Option.rec Tmp (fun _=> Option (Tr Nat)) (ih (Nat.succ i) t) (fun d=> noneO (t.get d) (ih (Nat.succ i) (t.put d i))) o.dst) l
noncomputable def tmpsOk (D:Tr Nat) (b:Nat) (l:List Tmp):Bool:= @List.rec Tmp (fun _=> Bool) true (fun t _ ih=> @Option.rec Nat (fun _=> Bool) ih (fun j=> ifB (bitB b j) ih false) (D.get t)) l
noncomputable def readsOk (ops:Array Oper) (D b:Tr Nat) (l:List Oper):Nat→Bool:= @List.rec Oper (fun _=> Nat→Bool) (fun _=> true) (fun o _ ih i=> ifB (tmpsOk D (orO (b.get i)) (o.looksAt ops)) (ih (Nat.succ i)) false) l
noncomputable def qOk (ops:List Oper) (b:Tr Nat) (i done:Nat) (k:Bool):Bool:= @Option.rec Oper (fun _=> Bool) false (fun o=> Bool.and (ifB (Nat.beq (cls o.op) 2) k (Bool.not k)) (Bool.and (Bool.not (bitB done i)) (inB (orO (b.get i)) done))) (nth ops i)
noncomputable def againOk (m:Nat) (l:List Oper):Nat→Nat→Nat→Bool:= @List.rec Oper (fun _=> Nat→Nat→Nat→Bool) (fun _ _ _=> true) (fun o _ ih i done rs=> ifB (Bool.and (bitB done i) (Bool.and (Bool.not (Nat.beq (cls o.op) 2)) (Bool.or (Nat.beq (cls o.op) 1) (rdsB o.op)))) (ifB (Bool.or (bitB m i) (bitB rs i)) (ih (Nat.succ i) done rs) false) (ih (Nat.succ i) done rs)) l
noncomputable def laterOk (b:Tr Nat) (e:Nat) (l:List Oper):Nat→Nat→Bool:= @List.rec Oper (fun _=> Nat→Nat→Bool) (fun _ _=> true) (fun _ _ ih i done=> ifB (Bool.or (bitB done i) (Bool.or (Nat.beq i e) (bitB (orO (b.get i)) e))) (ih (Nat.succ i) done) false) l
noncomputable def okSc (ops:List Oper) (b:Tr Nat) (sc:List Sp):Nat→Bool:= @List.rec Sp (fun _=> Nat→Bool) (fun done=> Nat.beq done (Nat.pred (Nat.pow 2 (len ops))))
 (fun s _ ih done=> @Sp.rec (fun _=> Bool) (fun i=> ifB (qOk ops b i done false) (ih (Nat.lor done (Nat.pow 2 i))) false)
  (fun i rs=> ifB (Bool.and (qOk ops b i done true) (Bool.and (laterOk b i ops 0 done) (againOk (orO (b.get i)) ops 0 done (maskC rs)))) (ih (Nat.lor done (Nat.pow 2 i))) false) s) sc
noncomputable def backE (i:Nat) (l:List Edge):Bool:= @List.rec Edge (fun _=> Bool) true (fun e _ ih=> ifB (Region.binds .any e) (ifB (Nat.ble (Nat.succ e.on) i) ih false) ih) l
noncomputable def backOk (l:List Oper):Nat→Bool:= @List.rec Oper (fun _=> Nat→Bool) (fun _=> true) (fun o _ ih i=> ifB (backE i o.after.toList) (ih (Nat.succ i)) false) l
noncomputable def scOf (ops:Array Oper) (b:Tr Nat) (eL:List Nat):List Sp:=mkSc ops.toList b (maskC eL) eL 0 (idxC false ops.toList 0) []
noncomputable def planOf (ops:Array Oper) (b:Tr Nat) (sc:List Sp):Option (List Sp):=ob (dstT ops.toList 0 .e) fun D=> ifO (Bool.and (backOk ops.toList 0) (Bool.and (readsOk ops D b ops.toList 0) (okSc ops.toList b sc 0))) (some sc)
noncomputable def plan (ops:Array Oper):Option (List Sp):=planOf ops (befT ops.toList 0 .e) (scOf ops (befT ops.toList 0 .e) (idxC true ops.toList 0))
noncomputable def again1 (P:Program) (o:Oper) (l:Nat) (st:CSt):Bool:=isN (cls o.op)
 (@Option.rec CV (fun _=> Bool) false (fun v=> @Option.rec Tmp (fun _=> Bool) true (fun d=> @Option.rec CV (fun _=> Bool) false (same v) (st.env.get d)) o.dst) (exQ P st.env st.h o.type o.op))
 (@Option.rec (CV×Blk) (fun _=> Bool) false (fun q=> Bool.and (@Option.rec Blk (fun _=> Bool) false (sameBlk q.2) (st.h.get l)) (@Option.rec Tmp (fun _=> Bool) true (fun d=> @Option.rec CV (fun _=> Bool) false (same q.1) (st.env.get d)) o.dst)) (exA P st.env o.op l)) false
noncomputable def again (P:Program) (ops:List Oper) (base:Nat) (st:CSt) (rs:List Nat):Bool:= @List.rec Nat (fun _=> Bool) true (fun i _ ih=> @Option.rec Oper (fun _=> Bool) false (fun o=> @Option.rec Bool (fun _=> Bool) false (fun w=> ifB w (ifB (again1 P o (Nat.add base i) st) ih false) ih) (want ops st.env o.guard)) (nth ops i)) rs
noncomputable def spQ (P:Program) (C:Callee) (ops:List Oper) (base i:Nat) (st:CSt):Option CSt:=ob (nth ops i) fun o=> ex1g P C ops o (Nat.add base i) st
noncomputable def runSc (P:Program) (C:Callee) (ops:List Oper) (base:Nat) (sc:List Sp):CSt→Option CSt:= @List.rec Sp (fun _=> CSt→Option CSt) some
 (fun s _ ih st=> @Sp.rec (fun _=> Option CSt) (fun i=> ob (spQ P C ops base i st) ih) (fun i rs=> ob (spQ P C ops base i st) fun st=> ifO (again P ops base st rs) (ih st)) s) sc
noncomputable def runD (P:Program) (C:Callee) (ops:Array Oper) (st:CSt):Option CSt:=ob (plan ops) fun sc=> runSc P C ops.toList st.nx sc ⟨st.env,st.h,Nat.add st.nx (len ops.toList)⟩
@[reducible] noncomputable def toRun (x : Option CSt) : Run := @Option.rec CSt (fun _ => Run) .no (fun st => .at_ .normal st) x
noncomputable def cReg (P:Program) (C:Callee) (ops:Array Oper) (draw:Bool) (st:CSt):Run:=toRun (ifB draw (runD P C ops st) (runS P C ops.toList ops.toList st))
noncomputable def thenR (r:Run) (f:CSt→Run):Run:= @Run.rec (fun _=> Run) .no (fun e st=> @Ec.rec (fun _=> Run) (f st) (fun i=> .at_ (.exit i) st) (.at_ .ret st) e) r
noncomputable def cCond (c:Operand) (x y:CSt→Run) (st:CSt):Run:= @Option.rec Bool (fun _=> Run) .no (fun b=> ifB b (x st) (y st)) (ob (ev st.env c) fun v=> isBool v some)
noncomputable def cBlock (id:Nat) (r:Run):Run:= @Run.rec (fun _=> Run) .no (fun e st=> @Ec.rec (fun _=> Run) (.at_ .normal st) (fun i=> ifB (Nat.beq i id) (.at_ .normal st) (.at_ (.exit i) st)) (.at_ .ret st) e) r
noncomputable def iterC (f:CSt→Run) (n:Nat):CSt→Run:= @Nat.rec (fun _=> CSt→Run) (fun _=> .no) (fun _ ih st=> thenR (f st) ih) n
noncomputable def evC (P:Program) (C:Callee) (n:Nat) (c:Code):CSt→Run:= @Code.rec (fun _=> CSt→Run) (fun st=> .at_ .normal st) (fun _ ops draw=> cReg P C ops draw) (fun _ _ x y st=> thenR (x st) y) (fun c _ _ x y=> cCond c x y) (fun id _ x st=> cBlock id (x st)) (fun _ x=> iterC x n)
 (fun _ _ _ _ _ _ _=> .no) (fun id st=> .at_ (.exit id) st) (fun _ _ _=> .no) (fun _ _=> .no) (fun _ _=> .no) (fun st=> .at_ .ret st) (fun _ _=> .no) c
noncomputable def envOf (l:List CV):Nat→Tr CV→Tr CV:= @List.rec CV (fun _=> Nat→Tr CV→Tr CV) (fun _ E=> E) (fun v _ ih i E=> ih (Nat.succ i) (E.put i v)) l
noncomputable def res1 (P:Program) (st:CSt) (r:ResultVar):Option CV:= @ResultVar.rec (fun _=> Option CV) (fun t=> st.env.get t) (fun a t=> ob (st.env.get a) fun v=> isP v fun l o=> ob (cellsAt st.h l o) fun cs=> ld P t cs) r
noncomputable def resC (P:Program) (st:CSt) (l:List ResultVar):Option (List CV):= @List.rec ResultVar (fun _=> Option (List CV)) (some []) (fun r _ ih=> ob (res1 P st r) fun v=> ob ih fun vs=> some (v::vs)) l
noncomputable def tupC (vs:List CV):CV:= @List.rec CV (fun _=> CV) (.tup []) (fun v l _=> @List.rec CV (fun _=> CV) v (fun _ _ _=> .tup vs) l) vs
noncomputable def endC (P:Program) (rs:List ResultVar) (st:CSt):Res:=oR (resC P st rs) fun vs=> .ok (tupC vs) st.h st.nx
noncomputable def dstB (nt:Nat) (l:List Oper):Bool:= @List.rec Oper (fun _=> Bool) true (fun o _ ih=> @Option.rec Tmp (fun _=> Bool) ih (fun d=> ifB (Nat.ble (Nat.succ d) nt) ih false) o.dst) l
noncomputable def dstC (nt:Nat) (c:Code):Bool:= @Code.rec (fun _=> Bool) true (fun _ ops _=> dstB nt ops.toList) (fun _ _ x y=> ifB x y false) (fun _ _ _ x y=> ifB x y false) (fun _ _ x=> x) (fun _ x=> x) (fun _ _ _ _ _ _=> false) (fun _=> true) (fun _ _=> false) (fun _=> false) (fun _=> false) true (fun _=> false) c
noncomputable def bodyOf (P:Program) (f:FuncId):Option (Code×List ResultVar):=ob (P.funcs[f]?) fun fn=> ob fn.body fun c=> ifO (Bool.and (Bool.not (fn.name== "runtime.NumGoroutine")) (dstC fn.ntmps c)) (some (c,fn.results.toList))
noncomputable def endR (P:Program) (rs:List ResultVar) (r:Run):Res:= @Run.rec (fun _=> Res) .no (fun e st=> @Ec.rec (fun _=> Res) (endC P rs st) (fun _=> .no) (endC P rs st) e) r
noncomputable def callB (P:Program) (C:Callee) (k:Nat) (f:FuncId) (args:List CV) (h:Tr Blk) (nx:Nat):Res:=oR (bodyOf P f) fun b=> endR P b.2 (evC P C k b.1 ⟨envOf args 0 .e,h,nx⟩)
noncomputable def rc (P:Program) (ext:FuncId→List CV→Tr Blk→Nat→Option Res) (k n:Nat):Callee:= @Nat.rec (fun _=> Callee) (fun _ _ _ _=> .no) (fun _ ih f args h nx=> @Option.rec Res (fun _=> Res) (callB P ih k f args h nx) (fun r=> r) (ext f args h nx)) n
end Go.Proofs.YtiklglcjecopcaaGreatDoor.Ci

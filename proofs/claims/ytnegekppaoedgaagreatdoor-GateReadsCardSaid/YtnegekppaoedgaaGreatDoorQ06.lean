/-
Running code on constants: values with names for blocks, and what code does to them. Over any program.
-/
import Derived.Test.YtnegekppaoedgaaGreatDoorQ01
import Derived.Test.YtnegekppaoedgaaGreatDoorQ05
import Derived.Orders
import Derived.MapKept
import Derived.Deep.MidRow
import Derived.Deep.Slices
set_option linter.all false
noncomputable section
namespace Go.Proofs.YtnegekppaoedgaaGreatDoor.Ci
open Go.RowKit
@[reducible] def ob {α β : Type} (x : Option α) (f : α → Option β) : Option β := @Option.rec α (fun _ => Option β) none f x
@[reducible] def bG {α : Type} (b : Bool) (x y : α) : α := @Bool.rec (fun _ => α) y x b
@[reducible] def fP {β : Type} (b : Bool) (x : Option β) : Option β := @Bool.rec (fun _ => Option β) none x b
inductive Tr (α:Type) where
 | e
 | n (v:Option α) (l r:Tr α)
def ajS {α:Type} (v:Option α) (l r:Nat→Option α) (k:Nat):Option α:=bG (Nat.beq k 0) v (bG (Nat.beq (Nat.mod k 2) 1) (l (Nat.div (Nat.pred k) 2)) (r (Nat.div (Nat.pred k) 2)))
def Tr.get {α:Type} (t:Tr α):Nat→Option α:= @Tr.rec α (fun _=> Nat→Option α) (fun _=> none) (fun v _ _ l r=> ajS v l r) t
def abx {α:Type} (v:Option α) (ih:Nat→Tr α→Tr α) (k:Nat):Tr α:=bG (Nat.beq k 0) (.n v .e .e) (bG (Nat.beq (Nat.mod k 2) 1) (.n none (ih (Nat.div (Nat.pred k) 2) .e) .e) (.n none .e (ih (Nat.div (Nat.pred k) 2) .e)))
def aby {α:Type} (v:Option α) (ih:Nat→Tr α→Tr α) (k:Nat) (w:Option α) (l r:Tr α):Tr α:=bG (Nat.beq k 0) (.n v l r) (bG (Nat.beq (Nat.mod k 2) 1) (.n w (ih (Nat.div (Nat.pred k) 2) l) r) (.n w l (ih (Nat.div (Nat.pred k) 2) r)))
def Tr.Dh {α:Type} (v:Option α) (f:Nat):Nat→Tr α→Tr α:= @Nat.rec (fun _=> Nat→Tr α→Tr α) (fun _ t=> t) (fun _ ih k t=> @Tr.rec α (fun _=> Tr α) (abx v ih k) (fun w l r _ _=> aby v ih k w l r) t) f
def Tr.put {α:Type} (t:Tr α) (k:Nat) (v:α):Tr α:=Tr.Dh (some v) (Nat.succ k) k t
def Tr.del {α:Type} (t:Tr α) (k:Nat):Tr α:=Tr.Dh none (Nat.succ k) k t
inductive Cp where
 | kn (k:Nat)
 | op (z q:Nat)
inductive CV where
 | v (x:Value)
 | u (i:Nat)
 | t (bs:List Nat)
 | p (l o:Nat)
 | s (l o n:Nat) (c:Cp)
 | m (l:Nat)
 | fn (f:FuncId) (fs cs:List CV)
 | agg (cs:List CV)
 | bH (cs:List CV)
inductive Kd where
 | any
 | of (t:TypeId)
 | whole (t:TypeId)
inductive aP where
 | cl (k:Kd) (cs:List CV)
 | mp (es:List (CV×CV)) (bs:List Nat) (ck:Nat)
 | it (m:Option Nat) (since:Nat) (seen:List Nat) (last:Nat)
 | mu (es:List (Int×CV))
structure dY where
 env:Tr CV
 h:Tr aP
 nx:Nat
inductive dG where
 | no
 | ok (v:CV) (h:Tr aP) (nx:Nat)
inductive Ec where
 | normal
 | exit (id:Nat)
 | ret
inductive Run where
 | no
 | at_ (e:Ec) (st:dY)
@[reducible] def aqE {β : Type} (b : aP) (f : List CV → Option β) : Option β := @aP.rec (fun _ => Option β) (fun _ cs => f cs) (fun _ _ _ => none) (fun _ _ _ _ => none) (fun _ => none) b
@[reducible] def abz {β : Type} (b : aP) (f : List (CV × CV) → List Nat → Nat → Option β) : Option β := @aP.rec (fun _ => Option β) (fun _ _ => none) f (fun _ _ _ _ => none) (fun _ => none) b
@[reducible] def isIt {β : Type} (b : aP) (f : Option Nat → Nat → List Nat → Nat → Option β) : Option β := @aP.rec (fun _ => Option β) (fun _ _ => none) (fun _ _ _ => none) f (fun _ => none) b
@[reducible] def aqF {β : Type} (b : aP) (f : List (Int × CV) → Option β) : Option β := @aP.rec (fun _ => Option β) (fun _ _ => none) (fun _ _ _ => none) (fun _ _ _ _ => none) f b
def isP {β:Type} (x:CV) (f:Nat→Nat→Option β):Option β:=match x with
 | .p l o=> f l o
 | _=> none
def isV {β:Type} (x:CV) (f:Value→Option β):Option β:=match x with
 | .v y=> f y
 | _=> none
def isNat {β:Type} (x:CV) (f:Nat→Option β):Option β:=isV x fun y=> match y with
 | .int _ n=> @Int.rec (fun _=> Option β) f (fun _=> none) n
 | _=> none
def isM {β:Type} (x:CV) (f:Nat→Option β):Option β:=match x with
 | .m l=> f l
 | _=> none
def isBool {β:Type} (x:CV) (f:Bool→Option β):Option β:=isV x fun y=> match y with
 | .bool b=> f b
 | _=> none
def nth {α:Type} (l:List α):Nat→Option α:= @List.rec α (fun _=> Nat→Option α) (fun _=> none) (fun x _ ih i=> @Nat.rec (fun _=> Option α) (some x) (fun i _=> ih i) i) l
def oz {α:Type} (n:Nat):List α→List α:= @Nat.rec (fun _=> List α→List α) (fun l=> l) (fun _ ih l=> @List.rec α (fun _=> List α) [] (fun _ l _=> ih l) l) n
def takeN {α:Type} (n:Nat):List α→List α:= @Nat.rec (fun _=> List α→List α) (fun _=> []) (fun _ ih l=> @List.rec α (fun _=> List α) [] (fun x l _=> x::ih l) l) n
def onto {α:Type} (vs:List α):List α→List α:= @List.rec α (fun _=> List α→List α) (fun l=> l) (fun v _ ih l=> @List.rec α (fun _=> List α) [] (fun _ l _=> v::ih l) l) vs
def wrt {α:Type} (vs:List α) (o:Nat):List α→List α:= @Nat.rec (fun _=> List α→List α) (onto vs) (fun _ ih l=> @List.rec α (fun _=> List α) [] (fun x l _=> x::ih l) l) o
def len {α:Type} (l:List α):Nat:= @List.rec α (fun _=> Nat) 0 (fun _ _ n=> Nat.succ n) l
def app {α:Type} (l r:List α):List α:= @List.rec α (fun _=> List α) r (fun x _ ih=> x::ih) l
def cells (v:CV):List CV:=match v with
 | .agg cs=> cs
 | x=> [x]
def nt:CV→Bool
 | .bH _=> false
 | _=> true
def qj {α:Type} (P:Program):Sem α→Option α
 | .pure a=> some a
 | .program k=> qj P (k P)
 | .mark _ k=> qj P k
 | _=> none
def oW (bs:List Nat):Value:= .string ⟨(bs.map UInt8.ofNat).toArray⟩
def toV1:CV→Option Value
 | .v x=> some x
 | .t bs=> some (oW bs)
 | _=> none
def toVs:List CV→Option (List Value)
 | []=> some []
 | c::cs=> match toV1 c,toVs cs with
  | some v,some vs=> some (v::vs)
  | _,_=> none
def toV:CV→Option Value
 | .agg cs=> match toVs cs with
  | some vs=> some (.agg vs.toArray)
  | none=> none
 | c=> toV1 c
def ajU:Value→CV
 | .string s=> .t (s.data.toList.map UInt8.toNat)
 | x=> .v x
def Y4:Value→Option CV
 | .agg cs=> bif cs.toList.all Value.oneCell' then some (.agg (cs.toList.map ajU)) else none
 | .tuple _=> none
 | x=> some (ajU x)
def ev (E:Tr CV) (x:Operand):Option CV:= @Operand.rec (fun _=> Option CV) (fun t=> E.get t) Y4 (fun _=> none) (fun f=> some (.fn f [] [])) x
def Y5 (E:Tr CV) (l:List Operand):Option (List CV):= @List.rec Operand (fun _=> Option (List CV)) (some []) (fun x _ ih=> ob (ev E x) fun c=> ob ih fun cs=> some (c::cs)) l
def ieq:Int→Int→Bool
 | .ofNat a,.ofNat b=> Nat.beq a b
 | .negSucc a,.negSucc b=> Nat.beq a b
 | _,_=> false
def X6:Int→Int→Bool
 | .ofNat a,.ofNat b=> Nat.ble (Nat.succ a) b
 | .negSucc a,.negSucc b=> Nat.ble (Nat.succ b) a
 | .negSucc _,.ofNat _=> true
 | .ofNat _,.negSucc _=> false
def ah4 (n:Int):Int:=match n with
 | .ofNat m=> bif Nat.ble m 4611686018427387904 then .ofNat m else IntKind.i64.wrap n
 | .negSucc m=> bif Nat.ble m 4611686018427387904 then .negSucc m else IntKind.i64.wrap n
def VJ (k:IntKind) (n:Int):Int:=match k with
 | .i64=> ah4 n
 | _=> k.wrap n
def now {β:Type} (n:Int) (f:Int→β):β:= @Int.rec (fun _=> β) (fun m=> @Nat.rec (fun _=> β) (f (.ofNat 0)) (fun m _=> f (.ofNat (Nat.succ m))) m) (fun m=> @Nat.rec (fun _=> β) (f (.negSucc 0)) (fun m _=> f (.negSucc (Nat.succ m))) m) n
def aqG {β:Type} (b:Bool) (f:Bool→β):β:= @Bool.rec (fun _=> β) (f false) (f true) b
def KC:IntKind→IntKind→Bool
 | .i64,.i64=> true
 | .u8,.u8=> true
 | a,b=> decide (a=b)
def I (k:IntKind) (n:Int):Option CV:=now n fun n=> some (.v (.int k n))
def B (b:Bool):Option CV:=aqG b fun b=> some (.v (.bool b))
def yR:List Nat→List Nat→Bool
 | [],[]=> true
 | a::l,b::r=> bif Nat.beq a b then yR l r else false
 | _,_=> false
def Tf:List Nat→List Nat→Bool
 | [],[]=> false
 | [],_::_=> true
 | _::_,[]=> false
 | a::l,b::r=> bif Nat.beq a b then Tf l r else Nat.ble (Nat.succ a) b
def sZ (P:Program) (op:BinOp) (t:TypeId) (x y:Operand) (a b:CV):Option CV:=ob (toV a) fun a=> ob (toV b) fun b=> ob (qj P (do eqGuard op t x y a b;Go.binOp op t a b)) Y4
def kT:Value→Bool
 | .slice none 0 0=> true
 | _=> false
def Di:Value→Bool
 | .pointer none=> true
 | _=> false
def Dj:Value→Bool
 | .map none=> true
 | _=> false
def VK (d:TypeDesc) (a:CV) (y:Value):Bool:=match y with
 | .pointer none=> match a,d with
  | .p _ _,.pointer _=> true
  | _,_=> false
 | .slice none _ _=> match a,d with
  | .s _ _ _ _,.slice _=> true
  | _,_=> false
 | .map none=> match a,d with
  | .m _,.map _ _=> true
  | _,_=> false
 | .nilFunc=> match a,d with
  | .fn _ _ _,.func _ _ _=> true
  | _,_=> false
 | _=> false
def Ti (op:BinOp) (k:IntKind) (m n:Int) (other:Option CV):Option CV:=match op with
 | .add=> I k (VJ k (Int.add m n))
 | .sub=> I k (VJ k (Int.sub m n))
 | .mul=> I k (VJ k (Int.mul m n))
 | .eql=> B (ieq m n)
 | .neq=> B (Bool.not (ieq m n))
 | .lss=> B (X6 m n)
 | .leq=> B (Bool.not (X6 n m))
 | .gtr=> B (X6 n m)
 | .geq=> B (Bool.not (X6 m n))
 | _=> other
def ajV (op:BinOp) (m n:List Nat):Option CV:=match op with
 | .add=> fP (Nat.ble (Nat.add (len m) (len n)) 1000000000) (some (.t (app m n)))
 | .eql=> B (yR m n)
 | .neq=> B (Bool.not (yR m n))
 | .lss=> B (Tf m n)
 | .leq=> B (Bool.or (Tf m n) (yR m n))
 | .gtr=> B (Bool.not (Bool.or (Tf m n) (yR m n)))
 | .geq=> B (Bool.not (Tf m n))
 | _=> none
def ant (P:Program) (op:BinOp) (t:TypeId) (a b:CV):Option CV:=isV b fun y=> ob (P.underlying t) fun d=> fP (VK d a y) (match op with
 | .eql=> some (.v (.bool false))
 | .neq=> some (.v (.bool true))
 | _=> none)
def aqH (op:BinOp) (x y:Value) (other:Option CV):Option CV:=match x with
 | .int k m=> match y with
  | .int k' n=> bG (KC k k') (Ti op k m n other) other
  | _=> other
 | _=> other
def ajW (r:Option UA):Option CV:= @Option.rec UA (fun _=> Option CV) none (fun r=> @UA.rec (fun _=> Option CV) (fun b=> some (.v (.bool b))) (fun n=> some (.v (.int .i64 n))) (fun i=> some (.u i)) r) r
def PK (op:BinOp) (i:Nat) (left:Bool) (y:Value):Option CV:=match y with
 | .int k n=> fP (KC k .i64) (ajW (abv i op left n))
 | _=> none
def bop (P:Program) (op:BinOp) (t:TypeId) (x y:Operand) (a b:CV):Option CV:=match a with
 | .v m=> match b with
  | .v n=> aqH op m n (sZ P op t x y (.v m) (.v n))
  | .u j=> PK op j false m
  | _=> none
 | .u i=> match b with
  | .v n=> PK op i true n
  | .u j=> ob (abw op i j) fun b=> some (.v (.bool b))
  | _=> none
 | .t m=> match b with
  | .t n=> ajV op m n
  | _=> none
 | .agg c=> sZ P op t x y (.agg c) b
 | .bH _=> none
 | a=> ant P op t a b
def und (P:Program) (t:TypeId):Option TypeDesc:=P.underlying t
def GV (P:Program) (t:TypeId):Option Nat:=ob (P.info? t) fun i=> some i.size
def zK (P:Program) (t:TypeId):Option (List CV):=ob (P.info? t) fun i=> ob i.zero fun z=> ob (Y4 z) fun c=> some (cells c)
def afc:TypeDesc→Bool
 | .struct _=> true
 | .array _ _=> true
 | _=> false
def X7 (P:Program) (t:TypeId):Option TypeId:=ob (und P t) fun d=> match d with
 | .slice e=> some e
 | _=> none
def isStr (P:Program) (t:TypeId):Option Nat:=ob (und P t) fun d=> match d with
 | .string=> some 0
 | _=> none
def arT {β:Type} (P:Program) (t:TypeId) (f:Nat→TypeId→Option β):Option β:=ob (und P t) fun d=> match d with
 | .array n e=> f n e
 | _=> none
def stT {β:Type} (P:Program) (t:TypeId) (f:Array Field→Option β):Option β:=ob (und P t) fun d=> match d with
 | .struct fs=> f fs
 | _=> none
def ld (P:Program) (t:TypeId) (cs:List CV):Option CV:=ob (und P t) fun d=> bG (afc d) (ob (GV P t) fun z=> fP (Nat.ble z (len cs)) (some (.agg (takeN z cs)))) (nth cs 0)
def cellsOf (h:Tr aP) (l:Nat):Option (List CV):=ob (h.get l) fun b=> aqE b some
def ql (h:Tr aP) (l o:Nat):Option (List CV):=ob (cellsOf h l) fun cs=> some (oz o cs)
def PL (place:Nat→Option (Nat×Nat)) (l:List (Nat×CV)):List CV→Option (List CV):=
 @List.rec (Nat×CV) (fun _=> List CV→Option (List CV)) some (fun q _ ih cs=> ob (place q.1) fun p=> fP (Bool.and (nt q.2) (Bool.and (Nat.beq (len (cells q.2)) p.2) (Nat.ble (Nat.add p.1 p.2) (len cs)))) (ih (wrt (cells q.2) p.1 cs))) l
def KD (P:Program) (l:List Field):Option (List (Nat×Nat)):= @List.rec Field (fun _=> Option (List (Nat×Nat))) (some []) (fun f _ ih=> ob (GV P f.type) fun z=> ob ih fun l=> some ((f.offset,z)::l)) l
def evP (E:Tr CV) (l:List (Nat×Operand)):Option (List (Nat×CV)):= @List.rec (Nat×Operand) (fun _=> Option (List (Nat×CV))) (some []) (fun q _ ih=> ob (ev E q.2) fun v=> ob ih fun l=> some ((q.1,v)::l)) l
def Aq (z:List CV) (n:Nat):List CV:= @Nat.rec (fun _=> List CV) [] (fun _ ih=> app z ih) n
def bnd (E:Tr CV) (d:Nat) (x:Option Operand):Option Nat:= @Option.rec Operand (fun _=> Option Nat) (some d) (fun x=> ob (ev E x) fun v=> isNat v some) x
def aqI (bs:List Nat) (a b:Nat):Option CV:=fP (Bool.and (Nat.ble a b) (Nat.ble b (len bs))) (some (.t (takeN (Nat.sub b a) (oz a bs))))
def mkS (l o z a b m:Nat):CV:= .s l (bG (Nat.beq a m) o (Nat.add o (Nat.mul a z))) (Nat.sub b a) (.kn (Nat.sub m a))
def aqJ (z l o n:Nat) (c:Cp) (a b:Nat):Option CV:= @Cp.rec (fun _=> Option CV)
 (fun c=> fP (Bool.and (Nat.ble a b) (Nat.ble b c)) (some (mkS l o z a b c)))
 (fun z' q=> fP (Bool.and (Nat.beq z z') (Bool.and (Nat.ble a b) (Bool.or (Nat.ble b n) (Nat.ble b q)))) (some (.s l (Nat.add o (Nat.mul a z)) (Nat.sub b a) (.op z (Nat.sub q a))))) c
def aqK (z l o n:Nat) (a b m:Nat):Option CV:=fP (Bool.and (Nat.ble a b) (Bool.and (Nat.ble b m) (Nat.ble m n))) (some (mkS l o z a b m))
def ajX (P:Program) (E:Tr CV) (t:TypeId) (l o n:Nat) (c:Cp) (lo hi mx:Option Operand):Option CV:=ob (X7 P t) fun e=> ob (GV P e) fun z=> ob (bnd E 0 lo) fun a=> ob (bnd E n hi) fun b=>
 @Option.rec Operand (fun _=> Option CV) (aqJ z l o n c a b) (fun _=> ob (bnd E n mx) fun m=> aqK z l o n a b m) mx
def oC {α β:Type} (x:Option α) (y:Option β):Option β:= @Option.rec α (fun _=> Option β) y (fun _=> none) x
def ajY (P:Program) (E:Tr CV) (t:TypeId) (lo hi mx:Option Operand) (x:CV):Option CV:=match x with
 | .t bs=> oC mx (ob (isStr P t) fun _=> ob (bnd E 0 lo) fun a=> ob (bnd E (len bs) hi) fun b=> aqI bs a b)
 | .v y=> fP (kT y) (ob (X7 P t) fun e=> ob (GV P e) fun _=> ob (bnd E 0 lo) fun a=> ob (bnd E 0 hi) fun b=> ob (bnd E 0 mx) fun m=> fP (Nat.beq (Nat.add a (Nat.add b m)) 0) (some (.v (.slice none 0 0))))
 | .s l o n c=> ajX P E t l o n c lo hi mx
 | .p l o=> oC mx (arT P t fun k e=> ob (GV P e) fun z=> ob (bnd E 0 lo) fun a=> ob (bnd E k hi) fun b=> fP (Bool.and (Nat.ble a b) (Nat.ble b k)) (some (mkS l o z a b k)))
 | _=> none
def ah5 (z l o n j:Nat):Option CV:=fP (Nat.ble (Nat.succ j) n) (some (.p l (Nat.add o (Nat.mul j z))))
def ajZ (P:Program) (t:TypeId) (x:CV) (j:Nat):Option CV:=match x with
 | .s l o n _=> ob (X7 P t) fun e=> ob (GV P e) fun z=> ah5 z l o n j
 | .p l o=> arT P t fun n e=> ob (GV P e) fun z=> ah5 z l o n j
 | .u i=> ob (X7 P t) fun e=> ob (GV P e) fun z=> fP (Nat.beq z 1) (ob (afb i j) fun k=> some (.u k))
 | _=> none
def aj0 (P:Program) (t:TypeId) (x:CV) (j:Nat):Option CV:=match x with
 | .t bs=> ob (isStr P t) fun _=> ob (nth bs j) fun b=> some (.v (.int .u8 (.ofNat b)))
 | .agg cs=> arT P t fun n e=> ob (GV P e) fun z=> fP (Nat.ble (Nat.succ j) n) (ld P e (oz (Nat.mul j z) cs))
 | _=> none
def aj1 (P:Program) (t:TypeId) (i:Nat) (l o:Nat):Option CV:=stT P t fun fs=> ob (fs[i]?) fun f=> ob (GV P f.type) fun z=> fP (Nat.ble 1 z) (some (.p l (Nat.add o f.offset)))
def aj2 (P:Program) (t:TypeId) (i:Nat) (x:CV):Option CV:=match x with
 | .agg cs=> stT P t fun fs=> ob (fs[i]?) fun f=> ld P f.type (oz f.offset cs)
 | _=> none
def abA:Value→Value→Bool
 | .int k a,.int k' b=> KC k k' && ieq a b
 | .bool a,.bool b=> a==b
 | .pointer none,.pointer none=> true
 | .slice none 0 0,.slice none 0 0=> true
 | .map none,.map none=> true
 | .nilFunc,.nilFunc=> true
 | .nilIface,.nilIface=> true
 | _,_=> false
def abB:Cp→Cp→Bool
 | .kn a,.kn b=> Nat.beq a b
 | .op a q,.op b r=> Nat.beq a b && Nat.beq q r
 | _,_=> false
def VL:CV→CV→Bool
 | .v a,.v b=> abA a b
 | .u i,.u j=> Nat.beq i j
 | .t a,.t b=> yR a b
 | .p l o,.p l' o'=> Nat.beq l l' && Nat.beq o o'
 | .s l o n c,.s l' o' n' c'=> Nat.beq l l' && (Nat.beq o o' && (Nat.beq n n' && abB c c'))
 | .m l,.m l'=> Nat.beq l l'
 | .fn f [] [],.fn f' [] []=> Nat.beq f f'
 | _,_=> false
def Dk:List CV→List CV→Bool
 | [],[]=> true
 | a::l,b::r=> VL a b && Dk l r
 | _,_=> false
def same:CV→CV→Bool
 | .agg a,.agg b=> Dk a b
 | .bH a,.bH b=> Dk a b
 | a,b=> VL a b
def KE:Kd→Kd→Bool
 | .any,.any=> true
 | .of a,.of b=> Nat.beq a b
 | .whole a,.whole b=> Nat.beq a b
 | _,_=> false
def tq:aP→aP→Bool
 | .cl k a,.cl k' b=> KE k k' && Dk a b
 | .mp [] [] a,.mp [] [] b=> Nat.beq a b
 | _,_=> false
def I5:CV→CV→Bool
 | .v (.int k a),.v (.int k' b)=> !(KC k k' && ieq a b)
 | .v (.bool a),.v (.bool b)=> !(a==b)
 | .t a,.t b=> !yR a b
 | _,_=> false
def VN:List CV→List CV→Bool
 | a::l,b::r=> I5 a b || VN l r
 | _,_=> false
def dist:CV→CV→Bool
 | .agg a,.agg b=> VN a b
 | a,b=> I5 a b
def aqL (k:Value):MapEntry:=⟨k,.bool false,0⟩
def ah6 (l:List (CV×CV)):Option (List MapEntry):= @List.rec (CV×CV) (fun _=> Option (List MapEntry)) (some []) (fun q _ ih=> ob (toV q.1) fun v=> ob ih fun r=> some (aqL v::r)) l
def kD {α:Type} (l:List α):Bool:= @List.rec α (fun _=> Bool) true (fun _ _ _=> false) l
def aqM:TypeDesc→Bool
 | .int _=> true
 | _=> false
def Tj (P:Program) (t:TypeId):Bool:= @Option.rec TypeDesc (fun _=> Bool) false aqM (und P t)
def abC (P:Program) (n:Nat) (l:List Field):Bool:= @List.rec Field (fun _=> Bool) true (fun f _ ih=> bG (Tj P f.type) (bG (Nat.ble (Nat.succ f.offset) n) ih false) false) l
def afd (P:Program) (kt:TypeId) (k:CV):Bool:=match k with
 | .u _=> Tj P kt
 | .agg cs=> @Option.rec TypeDesc (fun _=> Bool) false (fun d=> match d with
  | .struct fs=> abC P (len cs) fs.toList
  | _=> false) (und P kt)
 | _=> false
def Dl (P:Program) (kt:TypeId) (e:Bool) (k:CV) (l:List (CV×CV)):Option (Option (Nat×Value)):= @Option.rec Value (fun _=> Option (Option (Nat×Value))) (fP (Bool.and (kD l) (afd P kt k)) (some none)) (fun kv=> ob (qj P (Instr.checkKey e 10000 kt kv)) fun _=> ob (ah6 l) fun es=> qj P (Instr.findKey kt kv es)) (toV k)
def setAt {α:Type} (x:α) (i:Nat):List α→List α:= @Nat.rec (fun _=> List α→List α) (fun l=> @List.rec α (fun _=> List α) [] (fun _ l _=> x::l) l) (fun _ ih l=> @List.rec α (fun _=> List α) [] (fun y l _=> y::ih l) l) i
def AO (k:CV) (l:List (CV×CV)):Bool:= @List.rec (CV×CV) (fun _=> Bool) true (fun q _ ih=> bG (dist q.1 k) ih false) l
def KF (P:Program) (kt:TypeId) (k v:CV) (l:List (CV×CV)):Option (List (CV×CV)):=ob (Dl P kt false k l) fun r=> @Option.rec (Nat×Value) (fun _=> Option (List (CV×CV))) (fP (AO k l) (some (app l [(k,v)])))
 (fun q=> ob (nth l q.1) fun old=> ob (toV old.1) fun a=> ob (toV k) fun b=> fP (Bool.and (same old.1 k) (Instr.sameBits 10000 a b)) (some (setAt (k,v) q.1 l))) r
def ah7 (h:Tr aP) (l:Nat):Option (List (CV×CV)):=ob (h.get l) fun b=> abz b fun es _ _=> some es
def mapOf (h:Tr aP) (x:CV):Option (List (CV×CV)):=match x with
 | .v y=> fP (Dj y) (some [])
 | .m l=> ah7 h l
 | _=> none
def mpT {β:Type} (P:Program) (t:TypeId) (f:TypeId→TypeId→Option β):Option β:=ob (und P t) fun d=> match d with
 | .map k e=> f k e
 | _=> none
def okC (ok:Bool) (b:Bool) (v:CV):CV:=bG ok (.bH [v,.v (.bool b)]) v
def isI {β:Type} (x:CV) (f:Int→Option β):Option β:=isV x fun y=> match y with
 | .int k n=> fP (KC k .i64) (f n)
 | _=> none
def hits (n:Int) (es:List (Int×CV)):List CV:= @List.rec (Int×CV) (fun _=> List CV) [] (fun p _ ih=> bG (ieq n p.1) (p.2::ih) ih) es
def aj3 (z:Option CV) (ok:Bool) (l:List CV):Option CV:=match l with
 | []=> z
 | [v]=> some (okC ok true v)
 | _=> none
def aff (P:Program) (t:TypeId):Option Nat:=ob (und P t) fun d=> match d with
 | .int k=> fP (KC k .i64) (some 0)
 | _=> none
def ah8 (P:Program) (h:Tr aP) (kt e:TypeId) (x i:CV) (ok:Bool):Option CV:=isM x fun l=> ob (h.get l) fun b=> aqF b fun es=> ob (aff P kt) fun _=> isI i fun n=> aj3 (ob (P.info? e) fun ie=> ob ie.zero fun z=> ob (Y4 z) fun c=> some (okC ok false c)) ok (hits n es)
def og (P:Program) (kt e:TypeId) (es:List (CV×CV)) (i:CV) (ok:Bool):Option CV:=ob (Dl P kt (kD es) i es) fun r=>
 @Option.rec (Nat×Value) (fun _=> Option CV) (ob (P.info? e) fun ie=> ob ie.zero fun z=> ob (Y4 z) fun c=> some (okC ok false c)) (fun q=> ob (nth es q.1) fun p=> some (okC ok true p.2)) r
def anw (P:Program) (h:Tr aP) (t:TypeId) (x i:CV) (ok:Bool):Option CV:=mpT P t fun kt e=> @Option.rec (List (CV×CV)) (fun _=> Option CV) (ah8 P h kt e x i ok) (fun es=> og P kt e es i ok) (mapOf h x)
def lenV (n:Nat):Option CV:=some (.v (.int .i64 (.ofNat n)))
def anx (P:Program) (h:Tr aP) (t:TypeId) (x:CV):Option CV:=ob (und P t) fun d=> match d with
 | .string=> (match x with
  | .t bs=> lenV (len bs)
  | .u i=> ob (ae9 i) fun j=> some (.u j)
  | _=> none)
 | .slice _=> (match x with
  | .s _ _ n _=> lenV n
  | .u i=> ob (afa i) fun j=> some (.u j)
  | .v y=> fP (kT y) (lenV 0)
  | _=> none)
 | .map _ _=> ob (mapOf h x) fun es=> lenV (len es)
 | .array n _=> lenV n
 | _=> none
def anz (P:Program) (t:TypeId) (x:CV):Option CV:=ob (X7 P t) fun _=> match x with
 | .s _ _ _ c=> @Cp.rec (fun _=> Option CV) lenV (fun _ _=> none) c
 | .v y=> fP (kT y) (lenV 0)
 | _=> none
def toVL (l:List CV):Option (List Value):= @List.rec CV (fun _=> Option (List Value)) (some []) (fun c _ ih=> ob (toV c) fun v=> ob ih fun vs=> some (v::vs)) l
def pr1 (P:Program) (x:CV) (f:Value→Sem Value):Option CV:=ob (toV x) fun v=> ob (qj P (f v)) Y4
def ah9 (E:Tr CV) (c a b:Operand):Option CV:=ob (ev E c) fun v=> isBool v fun t=> bG t (ev E a) (ev E b)
def ldV (P:Program) (h:Tr aP) (t:TypeId) (v:CV):Option CV:=match v with
 | .u k=> ob (wL k) fun b=> ld P t [.v (.bool b)]
 | v=> isP v fun l o=> ob (ql h l o) fun cs=> ld P t cs
def aia (P:Program) (E:Tr CV) (h:Tr aP) (t:TypeId) (a:Operand):Option CV:=ob (ev E a) fun v=> ldV P h t v
def abD (P:Program) (E:Tr CV) (t:TypeId) (x:Operand) (i:Nat):Option CV:=ob (ev E x) fun v=> isP v (aj1 P t i)
def abE (P:Program) (E:Tr CV) (t:TypeId) (x i:Operand):Option CV:=ob (ev E x) fun v=> ob (ev E i) fun j=> isNat j (ajZ P t v)
def anA (P:Program) (E:Tr CV) (op:BinOp) (t:TypeId) (x y:Operand):Option CV:=ob (ev E x) fun a=> ob (ev E y) fun b=> bop P op t x y a b
def anB (E:Tr CV) (x:Operand):Option CV:=ob (ev E x) fun v=> match v with
 | .p l o=> some (.p l o)
 | .fn f a b=> some (.fn f a b)
 | _=> none
def PN (E:Tr CV) (x:Operand) (i:Nat):Option CV:=ob (ev E x) fun v=> match v with
 | .bH cs=> nth cs i
 | _=> none
def aqO (P:Program) (d:TypeDesc) (z:List CV) (l:List (Nat×CV)):Option (List CV):=match d with
 | .struct fs=> ob (KD P fs.toList) fun pl=> PL (nth pl) l z
 | .array _ e=> ob (GV P e) fun sz=> PL (fun i=> some (Nat.mul i sz,sz)) l z
 | _=> none
def abG (P:Program) (E:Tr CV) (t:TypeId) (ps:Array (Nat×Operand)):Option CV:=ob (und P t) fun d=> ob (zK P t) fun z=> ob (evP E ps.toList) fun l=> ob (aqO P d z l) fun cs=> some (.agg cs)
def abH (P:Program) (E:Tr CV) (t:TypeId) (x:Operand) (i:Nat):Option CV:=ob (ev E x) (aj2 P t i)
def abI (P:Program) (E:Tr CV) (t:TypeId) (x i:Operand):Option CV:=ob (ev E x) fun v=> ob (ev E i) fun j=> isNat j (aj0 P t v)
def anC (hi mx:Option Operand):Bool:= @Option.rec Operand (fun _=> Bool) true (fun _=> @Option.rec Operand (fun _=> Bool) false (fun _=> true) hi) mx
def abJ (P:Program) (E:Tr CV) (t:TypeId) (x:Operand) (lo hi mx:Option Operand):Option CV:=ob (ev E x) fun v=> fP (anC hi mx) (ajY P E t lo hi mx v)
def unC (P:Program) (op:UnOp) (v:CV):Option CV:=match op with
 | .not=> isBool v fun b=> B (Bool.not b)
 | op=> pr1 P v (Op.unary op)
def qUn (P:Program) (E:Tr CV) (op:UnOp) (x:Operand):Option CV:=ob (ev E x) (unC P op)
def aib (P:Program) (E:Tr CV) (a b:TypeId) (x:Operand):Option CV:=ob (ev E x) fun v=> pr1 P v (convert a b)
def aic (E:Tr CV) (f:Go.Fn) (fs cs:Array Operand):Option CV:=match f with
 | .func f=> ob (Y5 E fs.toList) fun a=> ob (Y5 E cs.toList) fun b=> some (.fn f a b)
 | _=> none
def aie (P:Program) (E:Tr CV) (h:Tr aP) (t:TypeId) (x i:Operand) (ok:Bool):Option CV:=ob (ev E x) fun v=> ob (ev E i) fun j=> anw P h t v j ok
def vg (x:Nat) (l:List Nat):Option Nat:= @List.rec Nat (fun _=> Option Nat) none (fun y _ ih=> bG (Nat.beq x y) (some 0) (ob ih fun i=> some (Nat.succ i))) l
def I7 (l:List Nat):Option Nat:= @List.rec Nat (fun _=> Option Nat) none (fun y _ ih=> @Option.rec Nat (fun _=> Option Nat) (some y) (fun z=> some z) ih) l
def afg (x:Nat) (l:List Nat):Bool:= @List.rec Nat (fun _=> Bool) false (fun y _ ih=> bG (Nat.beq x y) true ih) l
def afh {β:Type} (h:Tr aP) (x:CV) (f:Nat→Nat→Nat→List Nat→Nat→List (CV×CV)→List Nat→Nat→Option β):Option β:=isP x fun l o=> fP (Nat.beq o 0) (ob (h.get l) fun b=> isIt b fun m since seen last=> ob m fun m=> ob (h.get m) fun b=> abz b (f l m since seen last))
def abK (E:Tr CV) (h:Tr aP) (x:Operand):Option CV:=ob (ev E x) fun v=> afh h v fun _ _ _ seen last es bs ck=> fP (Nat.beq ck last) (ob (I7 seen) fun b=> ob (vg b bs) fun i=> ob (nth es i) fun p=> some (.bH [p.1,p.2]))
def aj6 (P:Program) (E:Tr CV) (h:Tr aP) (b:Builtin) (args:Array Operand) (ts:Array TypeId) (ty:TypeId):Option CV:=ob (Y5 E args.toList) fun vs=> match b with
 | .len=> ob (nth vs 0) fun v=> ob (nth ts.toList 0) fun t=> anx P h t v
 | .cap=> ob (nth vs 0) fun v=> ob (nth ts.toList 0) fun t=> anz P t v
 | .min=> ob (toVL vs) fun us=> ob (qj P (Builtin.min_ ts ty us.toArray)) Y4
 | .max=> ob (toVL vs) fun us=> ob (qj P (Builtin.max_ ts ty us.toArray)) Y4
 | _=> none
def anD (P:Program) (E:Tr CV) (h:Tr aP) (ty:TypeId) (c:Call):Option CV:=match c.callee with
 | .builtin b=> aj6 P E h b c.args c.argTypes ty
 | _=> none
def exQ (P:Program) (E:Tr CV) (h:Tr aP) (ty:TypeId) (op:Op):Option CV:=match op with
 | .move x=> ev E x
 | .assign x=> ev E x
 | .pick c a b=> ah9 E c a b
 | .load t a=> aia P E h t a
 | .fieldAddr t x i=> abD P E t x i
 | .indexAddr t x i=> abE P E t x i
 | .binOp op t x y _=> anA P E op t x y
 | .nilCheck x=> anB E x
 | .extract x i=> PN E x i
 | .build t ps=> abG P E t ps
 | .field t x i=> abH P E t x i
 | .index t x i=> abI P E t x i
 | .slice t x lo hi mx=> abJ P E t x lo hi mx
 | .unOp op _ x=> qUn P E op x
 | .convert a b x=> aib P E a b x
 | .makeFunc f fs cs=> aic E f fs cs
 | .lookup t x i ok=> aie P E h t x i ok
 | .entry x=> abK E h x
 | .call c=> anD P E h ty c
 | _=> none
def I8 (h:Tr aP) (l:Nat) (cs:List CV):Tr aP:= @Option.rec aP (fun _=> Tr aP) h (fun b=> @aP.rec (fun _=> Tr aP) (fun k _=> h.put l (.cl k cs)) (fun _ _ _=> h) (fun _ _ _ _=> h) (fun _=> h) b) (h.get l)
def kOf (h:Tr aP) (l:Nat):Kd:= @Option.rec aP (fun _=> Kd) .any (fun b=> @aP.rec (fun _=> Kd) (fun k _=> k) (fun _ _ _=> .any) (fun _ _ _ _=> .any) (fun _=> .any) b) (h.get l)
def kdE (e:TypeId) (o:Nat) (k:Kd):Kd:=match k with
 | .any=> .any
 | .of t=> bif Nat.beq t e && Nat.beq o 0 then .of e else .any
 | .whole t=> bif Nat.beq t e && Nat.beq o 0 then .of e else .any
def aj8 (P:Program) (E:Tr CV) (t:TypeId) (n:Nat) (ps:Array (Nat×Operand)) (l:Nat):Option (CV×aP):=ob (X7 P t) fun e=> ob (GV P e) fun z=> ob (zK P e) fun z0=> ob (evP E ps.toList) fun vs=>
 fP (Bool.and (Nat.beq (len z0) z) (Nat.ble (Nat.mul n z) 16777216)) (ob (PL (fun i=> some (Nat.mul i z,z)) vs (Aq z0 n)) fun cs=> some (.s l 0 n (.kn n),.cl (.of e) cs))
def VO (P:Program) (e:TypeId):Option Nat:=ob (P.info? e) fun i=> fP (Nat.ble i.bytes 1000) (some 0)
def anE (P:Program) (E:Tr CV) (t:TypeId) (a b:Operand) (l:Nat):Option (CV×aP):=ob (X7 P t) fun e=> ob (VO P e) fun _=> ob (GV P e) fun z=> ob (zK P e) fun z0=> ob (ev E a) fun x=> ob (ev E b) fun y=> isNat x fun n=> isNat y fun c=> fP (Bool.and (Nat.beq (len z0) z) (Bool.and (Nat.ble n c) (Bool.and (Nat.ble c 1000000) (Nat.ble (Nat.mul c z) 16777216)))) (some (.s l 0 n (.kn c),.cl (.of e) (Aq z0 c)))
def exA (P:Program) (E:Tr CV) (op:Op) (l:Nat):Option (CV×aP):=match op with
 | .alloc t=> ob (zK P t) fun cs=> some (.p l 0,.cl (.whole t) cs)
 | .box t x=> ob (ev E x) fun v=> fP (nt v) (some (.p l 0,.cl (.whole t) (cells v)))
 | .buildSlice t n ps=> aj8 P E t n ps l
 | .makeMap _ r=> oC r (some (.m l,.mp [] [] 0))
 | .makeSlice t a b=> anE P E t a b l
 | _=> none
def abL (h:Tr aP) (z:Nat) (x:CV):Option (Nat×List CV):=match x with
 | .v y=> fP (kT y) (some (0,[]))
 | .s l o n _=> bG (Nat.beq n 0) (some (0,[])) (ob (ql h l o) fun cs=> fP (Nat.ble (Nat.mul n z) (len cs)) (some (n,takeN (Nat.mul n z) cs)))
 | _=> none
@[reducible] def oR {α : Type} (x : Option α) (f : α → dG) : dG := @Option.rec α (fun _ => dG) .no f x
def qm (k:Kd) (h:Tr aP) (nx n z:Nat) (cs:List CV):dG:= .ok (.s nx 0 n (.op z n)) (h.put nx (.cl k cs)) (Nat.succ nx)
def I9 (h:Tr aP) (nx z l o n:Nat) (c:Cp) (cs new:List CV) (k:Nat):dG:= .ok (.s l o (Nat.add n k) c) (I8 h l (wrt new (Nat.add o (Nat.mul n z)) cs)) nx
def anF (e:TypeId) (h:Tr aP) (nx z l o n k:Nat) (c:Cp) (new cs:List CV):dG:= @Cp.rec (fun _=> dG)
 (fun c=> bG (Nat.ble (Nat.add n k) c) (bG (Nat.ble (Nat.add o (Nat.mul (Nat.add n k) z)) (len cs)) (I9 h nx z l o n (.kn c) cs new k) .no) (bG (Nat.ble (Nat.add o (Nat.mul n z)) (len cs)) (qm (.of e) h nx (Nat.add n k) z (app (takeN (Nat.mul n z) (oz o cs)) new)) .no))
 (fun z' q=> bG (Nat.beq z z') (bG (Nat.ble (Nat.add n k) q) (bG (Nat.ble (Nat.add o (Nat.mul (Nat.add n k) z)) (len cs)) (I9 h nx z l o n (.op z' q) cs new k) .no) (bG (Nat.ble (Nat.add o (Nat.mul n z)) (len cs)) (qm (kdE e o (kOf h l)) (h.del l) nx (Nat.add n k) z (app (takeN (Nat.mul n z) (oz o cs)) new)) .no)) .no) c
def aj9 (e:TypeId) (h:Tr aP) (nx z:Nat) (x:CV) (k:Nat) (new:List CV):dG:=match x with
 | .v y=> bG (kT y) (bG (Nat.beq k 0) (.ok x h nx) (bG (Nat.ble k 1000000) (qm (.of e) h nx k z new) .no)) .no
 | .s l o n c=> bG (Nat.beq k 0) (.ok x h nx) (bG (Nat.ble (Nat.add n k) 1000000) (oR (cellsOf h l) fun cs=> anF e h nx z l o n k c new cs) .no)
 | _=> .no
abbrev Callee:=FuncId→List CV→Tr aP→Nat→dG
def abM (P:Program) (E:Tr CV) (h:Tr aP) (nx:Nat) (t:TypeId) (a x:Operand):dG:=oR (ob (ev E a) fun p=> isP p fun l o=> ob (ev E x) fun v=> ob (GV P t) fun z=> ob (cellsOf h l) fun cs=> fP (Bool.and (nt v) (Bool.and (Nat.beq (len (cells v)) z) (Nat.ble (Nat.add o z) (len cs)))) (some (I8 h l (wrt (cells v) o cs)))) fun h=> .ok (.bH []) h nx
def Tm (es es':List (CV×CV)) (bs:List Nat) (ck:Nat):aP:=bG (Nat.beq (len es') (len es)) (.mp es' bs ck) (.mp es' (app bs [ck]) (Nat.succ ck))
def aqP (P:Program) (kt:TypeId) (i v:CV) (h:Tr aP) (l:Nat) (b:aP):Option (Tr aP):= @aP.rec (fun _=> Option (Tr aP)) (fun _ _=> none) (fun es bs ck=> ob (KF P kt i v es) fun es'=> some (h.put l (Tm es es' bs ck))) (fun _ _ _ _=> none) (fun es=> ob (aff P kt) fun _=> isI i fun n=> fP (kD (hits n es)) (some (h.put l (.mu ((n,v)::es))))) b
def akb (P:Program) (E:Tr CV) (h:Tr aP) (nx:Nat) (t:TypeId) (m k x:Operand):dG:=oR (mpT P t fun kt _=> ob (ev E m) fun m=> isM m fun l=> ob (ev E k) fun i=> ob (ev E x) fun v=> ob (h.get l) fun b=> aqP P kt i v h l b) fun h=> .ok (.bH []) h nx
def abN (C:Callee) (h:Tr aP) (nx:Nat) (g:CV) (xs:List CV):dG:=match g with
 | .fn f fs cs=> C f (app fs (app xs cs)) h nx
 | _=> .no
def anG (C:Callee) (E:Tr CV) (h:Tr aP) (nx:Nat) (f:Operand) (args:Array Operand):dG:=oR (ev E f) fun g=> oR (Y5 E args.toList) fun xs=> abN C h nx g xs
def VP (P:Program) (h:Tr aP) (nx:Nat) (e:TypeId) (a:CV) (src:Nat→Option (Nat×List CV)):dG:=oR (VO P e) fun _=> oR (GV P e) fun z=> oR (zK P e) fun z0=> bG (Nat.beq (len z0) z) (oR (src z) fun q=> aj9 e h nx z a q.1 q.2) .no
def byC (bs:List Nat):List CV:= @List.rec Nat (fun _=> List CV) [] (fun b _ ih=> .v (.int .u8 (.ofNat b))::ih) bs
def akc (x:CV) (z:Nat):Option (Nat×List CV):=match x with
 | .t bs=> fP (Nat.beq z 1) (some (len bs,byC bs))
 | _=> none
def anI (P:Program) (h:Tr aP) (nx:Nat) (t t':TypeId) (a b:CV):dG:=oR (X7 P t) fun e=> bG (Nat.beq t t') (VP P h nx e a fun z=> abL h z b) (oR (isStr P t') fun _=> VP P h nx e a (akc b))
def two {α:Type} (l:List α) (f:α→α→dG):dG:=match l with
 | [a,b]=> f a b
 | _=> .no
def one {α:Type} (l:List α) (f:α→dG):dG:=match l with
 | [a]=> f a
 | _=> .no
def abO (x:CV) (h:Tr aP) (nx:Nat):dG:=match x with
 | .v y=> bG (kT y) (.ok (.v (.pointer none)) h nx) .no
 | .s l o n _=> bG (Nat.ble 1 n) (.ok (.p l o) h nx) .no
 | _=> .no
def Il {β:Type} (x:CV) (f:Nat→Option β):Option β:=isV x fun y=> match y with
 | .int k n=> fP (KC k .i64) (@Int.rec (fun _=> Option β) f (fun _=> none) n)
 | _=> none
def byN (x:CV):Option Nat:=match x with
 | .v y=> (match y with
  | .int k n=> fP (KC k .u8) (@Int.rec (fun _=> Option Nat) (fun n=> fP (Nat.ble n 255) (some n)) (fun _=> none) n)
  | _=> none)
 | _=> none
def byL (l:List CV):Option (List Nat):= @List.rec CV (fun _=> Option (List Nat)) (some []) (fun c _ ih=> ob (byN c) fun b=> ob ih fun bs=> some (b::bs)) l
def ptT (P:Program) (t:TypeId):Option TypeId:=ob (und P t) fun d=> match d with
 | .pointer e=> some e
 | _=> none
def anJ (t:TypeId) (k:Kd):Bool:=match k with
 | .any=> false
 | .of e=> Nat.beq e t
 | .whole e=> Nat.beq e t
def aii (P:Program) (h:Tr aP) (nx:Nat) (e:TypeId) (l n:Nat):dG:=bG (Bool.and (anJ e (kOf h l)) (Bool.and (Nat.beq (P.cellsOf e) 1) (Nat.ble n 1000000))) (oR (cellsOf h l) fun cs=> bG (Nat.ble n (len cs)) (oR (byL (takeN n cs)) fun bs=> .ok (.t bs) (h.del l) nx) .no) .no
def eStr (P:Program) (h:Tr aP) (nx:Nat) (t:TypeId) (x y:CV):dG:=oR (ptT P t) fun e=> oR (Il y some) fun n=> match x with
 | .v q=> bG (Di q) (bG (Nat.beq n 0) (.ok (.t []) h nx) .no) .no
 | .p l o=> bG (Bool.and (Nat.ble 1 n) (Nat.beq o 0)) (aii P h nx e l n) .no
 | _=> .no
def VQ (h:Tr aP) (nx:Nat) (v:CV):dG:=match v with
 | .v y=> bG (Dj y) (.ok (.p nx 0) (h.put nx (.it none 0 [] 0)) (Nat.succ nx)) .no
 | .m l=> oR (h.get l) fun b=> oR (abz b fun _ _ ck=> some ck) fun ck=> .ok (.p nx 0) (h.put nx (.it (some l) ck [] ck)) (Nat.succ nx)
 | _=> .no
def abP (P:Program) (E:Tr CV) (h:Tr aP) (nx:Nat) (t:TypeId) (x:Operand):dG:=oR (mpT P t fun _ _=> some 0) fun _=> oR (ev E x) (VQ h nx)
def lV (seen:List Nat) (es:List (CV×CV)):List Nat→List (CV×CV×Nat):= @List.rec (CV×CV) (fun _=> List Nat→List (CV×CV×Nat)) (fun _=> []) (fun p _ ih bs=> @List.rec Nat (fun _=> List (CV×CV×Nat)) [] (fun b bs _=> bG (afg b seen) (ih bs) ((p.1,p.2,b)::ih bs)) bs) es
def zH (h:Tr aP) (nx l m since:Nat) (seen:List Nat) (ck:Nat) (lf:List (CV×CV×Nat)):Option dG:=match lf with
 | []=> some (.ok (.bH [.v (.bool false)]) h nx)
 | [p]=> some (.ok (.bH [.v (.bool true),p.1,p.2.1]) (h.put l (.it (some m) since (app seen [p.2.2]) ck)) nx)
 | _=> none
def aij (h:Tr aP) (nx:Nat) (v:CV):Option dG:=afh h v fun l m since seen last es bs ck=> fP (Bool.and (Nat.ble ck since) (Nat.ble since last)) (zH h nx l m since seen ck (lV seen es bs))
def aik (h:Tr aP) (nx:Nat) (v:CV):Option dG:=isP v fun l o=> fP (Nat.beq o 0) (ob (h.get l) fun b=> isIt b fun m _ _ _=> oC m (some (.ok (.bH [.v (.bool false)]) h nx)))
def abQ (E:Tr CV) (h:Tr aP) (nx:Nat) (x:Operand) (s:Bool):dG:=bG s .no (oR (ev E x) fun v=> @Option.rec dG (fun _=> dG) (oR (aik h nx v) fun r=> r) (fun r=> r) (aij h nx v))
def VT (h:Tr aP) (nx z:Nat) (z0:List CV) (x:CV):dG:=match x with
 | .v y=> bG (kT y) (.ok (.bH []) h nx) .no
 | .s l o n _=> bG (Nat.beq n 0) (.ok (.bH []) h nx) (oR (cellsOf h l) fun cs=> bG (Nat.ble (Nat.add o (Nat.mul n z)) (len cs)) (.ok (.bH []) (I8 h l (wrt (Aq z0 n) o cs)) nx) .no)
 | _=> .no
def abR (P:Program) (h:Tr aP) (nx:Nat) (t:TypeId) (x:CV):dG:=oR (X7 P t) fun e=> oR (GV P e) fun z=> oR (zK P e) fun z0=> bG (Bool.and (Nat.beq (len z0) z) (Nat.ble 1 z)) (VT h nx z z0 x) .no
def rmv {α:Type} (i:Nat):List α→List α:= @Nat.rec (fun _=> List α→List α) (fun l=> @List.rec α (fun _=> List α) [] (fun _ l _=> l) l) (fun _ ih l=> @List.rec α (fun _=> List α) [] (fun x l _=> x::ih l) l) i
def anK (P:Program) (h:Tr aP) (nx:Nat) (t:TypeId) (x k:CV):dG:=oR (mpT P t fun kt _=> isM x fun l=> ob (h.get l) fun b=> abz b fun es bs ck=> ob (Dl P kt (kD es) k es) fun r=> some (@Option.rec (Nat×Value) (fun _=> Tr aP) (h.put l (.mp es bs ck)) (fun q=> h.put l (.mp (rmv q.1 es) (rmv q.1 bs) ck)) r)) fun h=> .ok (.bH []) h nx
def afj (P:Program) (E:Tr CV) (h:Tr aP) (nx:Nat) (b:Builtin) (args:Array Operand) (ts:Array TypeId):dG:=match b with
 | .append=> oR (Y5 E args.toList) fun vs=> two vs fun x y=> two ts.toList fun t t'=> anI P h nx t t' x y
 | .unsafeSliceData=> oR (Y5 E args.toList) fun vs=> one vs fun x=> abO x h nx
 | .clear=> oR (Y5 E args.toList) fun vs=> one vs fun x=> oR (nth ts.toList 0) fun t=> abR P h nx t x
 | .delete=> oR (Y5 E args.toList) fun vs=> two vs fun x k=> oR (nth ts.toList 0) fun t=> anK P h nx t x k
 | .unsafeString=> oR (Y5 E args.toList) fun vs=> two vs fun x y=> two ts.toList fun t _=> eStr P h nx t x y
 | _=> .no
def akd (P:Program) (C:Callee) (E:Tr CV) (h:Tr aP) (nx:Nat) (c:Call):dG:=match c.callee with
 | .value f=> anG C E h nx f c.args
 | .builtin b=> afj P E h nx b c.args c.argTypes
 | _=> .no
def exE (P:Program) (C:Callee) (E:Tr CV) (h:Tr aP) (nx:Nat) (op:Op):dG:=match op with
 | .store t a x=> abM P E h nx t a x
 | .mapUpdate t m k x=> akb P E h nx t m k x
 | .insert t m k x=> akb P E h nx t m k x
 | .range t x=> abP P E h nx t x
 | .next x s=> abQ E h nx x s
 | .call c=> akd P C E h nx c
 | _=> .no
def ake:Builtin→Nat
 | .len=> 0
 | .cap=> 0
 | .min=> 0
 | .max=> 0
 | _=> 2
def cls:Op→Nat
 | .alloc .. => 1
 | .box .. => 1
 | .buildSlice .. => 1
 | .makeMap .. => 1
 | .makeSlice .. => 1
 | .store .. => 2
 | .mapUpdate .. => 2
 | .insert .. => 2
 | .range .. => 2
 | .next .. => 2
 | .call c=> match c.callee with
  | .builtin b=> ake b
  | _=> 2
 | _=> 0
def aZ (E:Tr CV) (d:Option Tmp) (v:CV):Tr CV:= @Option.rec Tmp (fun _=> Tr CV) E (fun t=> E.put t v) d
def doQ (st:dY) (d:Option Tmp) (r:Option CV):Option dY:=ob r fun v=> some ⟨aZ st.env d v,st.h,st.nx⟩
def doA (st:dY) (d:Option Tmp) (l:Nat) (r:Option (CV×aP)):Option dY:=ob r fun q=> oC (st.h.get l) (some ⟨aZ st.env d q.1,st.h.put l q.2,st.nx⟩)
def doE (st:dY) (d:Option Tmp) (r:dG):Option dY:= @dG.rec (fun _=> Option dY) none (fun v h nx=> some ⟨aZ st.env d v,h,nx⟩) r
def isN (n:Nat) {β:Type} (x y z:β):β:= @Nat.rec (fun _=> β) x (fun n _=> @Nat.rec (fun _=> β) y (fun _ _=> z) n) n
def ex1 (P:Program) (C:Callee) (o:Oper) (l:Nat) (st:dY):Option dY:=isN (cls o.op) (doQ st o.dst (exQ P st.env st.h o.type o.op)) (doA st o.dst l (exA P st.env o.op l)) (doE st o.dst (exE P C st.env st.h st.nx o.op))
def wM (w:Bool) (v:CV):Option Bool:=match v with
 | .v y=> match y with
  | .bool b=> some (bG b w (Bool.not w))
  | _=> none
 | .bH _=> some false
 | _=> none
def anL (ops:List Oper) (E:Tr CV) (g:Nat×Bool):Option Bool:=ob (nth ops g.1) fun o=> ob o.dst fun t=> ob (E.get t) (wM g.2)
def want (ops:List Oper) (E:Tr CV) (g:Option (Nat×Bool)):Option Bool:= @Option.rec (Nat×Bool) (fun _=> Option Bool) (some true) (anL ops E) g
def Hq (P:Program) (C:Callee) (ops:List Oper) (o:Oper) (l:Nat) (st:dY):Option dY:=ob (want ops st.env o.guard) fun w=> bG w (ex1 P C o l st) (some ⟨aZ st.env o.dst (.bH []),st.h,st.nx⟩)
def exS (P:Program) (C:Callee) (ops:List Oper) (o:Oper) (st:dY):Option dY:=bG (Nat.beq (cls o.op) 1) (Hq P C ops o st.nx ⟨st.env,st.h,Nat.succ st.nx⟩) (Hq P C ops o 0 st)
def afk (P:Program) (C:Callee) (ops l:List Oper):dY→Option dY:= @List.rec Oper (fun _=> dY→Option dY) some (fun o _ ih st=> ob (exS P C ops o st) ih) l
def gu (m i:Nat):Bool:=Nat.beq (Nat.mod (Nat.shiftRight m i) 2) 1
def inB (a b:Nat):Bool:=Nat.beq (Nat.land a b) a
def kL (x:Option Nat):Nat:= @Option.rec Nat (fun _=> Nat) 0 (fun n=> n) x
def PO (acc:Tr Nat) (l:List Edge):Nat:= @List.rec Edge (fun _=> Nat) 0 (fun e _ ih=> bG (Region.binds .any e) (Nat.lor (Nat.lor (Nat.pow 2 e.on) (kL (acc.get e.on))) ih) ih) l
def Hr (l:List Oper):Nat→Tr Nat→Tr Nat:= @List.rec Oper (fun _=> Nat→Tr Nat→Tr Nat) (fun _ t=> t) (fun o _ ih i t=> ih (Nat.succ i) (t.put i (PO t o.after.toList))) l
def vk:Op→Bool
 | .load .. => true
 | .lookup .. => true
 | .entry .. => true
 | .call .. => true
 | _=> false
inductive Sp where
 | q (i:Nat)
 | e (i:Nat) (rs:List Nat)
def afl (b:Tr Nat) (KG rF:Nat) (l:List Nat):List Nat:= @List.rec Nat (fun _=> List Nat) [] (fun i _ ih=> bG (inB (Nat.land (kL (b.get i)) KG) rF) (i::ih) ih) l
def akg (b:Tr Nat) (KG rF:Nat) (l:List Nat):List Nat:= @List.rec Nat (fun _=> List Nat) [] (fun i _ ih=> bG (inB (Nat.land (kL (b.get i)) KG) rF) ih (i::ih)) l
def looked (ops:List Oper) (m:Nat) (l:List Nat):List Nat:= @List.rec Nat (fun _=> List Nat) [] (fun i _ ih=> bG (gu m i) ih (@Option.rec Oper (fun _=> List Nat) ih (fun o=> bG (Bool.or (Nat.beq (cls o.op) 1) (vk o.op)) (i::ih) ih) (nth ops i))) l
def mkQ (l:List Nat) (r:List Sp):List Sp:= @List.rec Nat (fun _=> List Sp) r (fun i _ ih=> .q i::ih) l
def aqS (ops:List Oper) (b:Tr Nat) (KG:Nat) (es:List Nat):Nat→List Nat→List Nat→List Sp:= @List.rec Nat (fun _=> Nat→List Nat→List Nat→List Sp) (fun rF qs _=> mkQ (afl b KG rF qs) [])
 (fun e _ ih rF qs done=> mkQ (afl b KG rF qs) (.e e (looked ops (kL (b.get e)) (app done (afl b KG rF qs)))::ih (Nat.lor rF (Nat.pow 2 e)) (akg b KG rF qs) (app done (afl b KG rF qs)))) es
def anM (k:Bool) (l:List Oper):Nat→List Nat:= @List.rec Oper (fun _=> Nat→List Nat) (fun _=> []) (fun o _ ih i=> bG (bG (Nat.beq (cls o.op) 2) k (Bool.not k)) (i::ih (Nat.succ i)) (ih (Nat.succ i))) l
def wO (l:List Nat):Nat:= @List.rec Nat (fun _=> Nat) 0 (fun i _ ih=> Nat.lor (Nat.pow 2 i) ih) l
def Dn (l:List Oper):Nat→Tr Nat→Option (Tr Nat):= @List.rec Oper (fun _=> Nat→Tr Nat→Option (Tr Nat)) (fun _ t=> some t) (fun o _ ih i t=> @Option.rec Tmp (fun _=> Option (Tr Nat)) (ih (Nat.succ i) t) (fun d=> oC (t.get d) (ih (Nat.succ i) (t.put d i))) o.dst) l
def oK (D b:Tr Nat) (i:Nat) (late:Bool) (l:List Tmp):Bool:= @List.rec Tmp (fun _=> Bool) true (fun t _ ih=> @Option.rec Nat (fun _=> Bool) ih (fun j=> bG (Bool.or (gu (kL (b.get i)) j) (Bool.and late (gu (kL (b.get j)) i))) ih false) (D.get t)) l
def wP (o:Oper):Bool:=Bool.or (Nat.beq (cls o.op) 2) (Bool.and (Nat.beq (cls o.op) 0) (Bool.not (vk o.op)))
def KH (ops:Array Oper) (D b:Tr Nat) (l:List Oper):Nat→Bool:= @List.rec Oper (fun _=> Nat→Bool) (fun _=> true) (fun o _ ih i=> bG (oK D b i (wP o) (o.looksAt ops)) (ih (Nat.succ i)) false) l
def qOk (ops:List Oper) (b:Tr Nat) (i done:Nat) (k:Bool):Bool:= @Option.rec Oper (fun _=> Bool) false (fun o=> Bool.and (bG (Nat.beq (cls o.op) 2) k (Bool.not k)) (Bool.and (Bool.not (gu done i)) (inB (kL (b.get i)) done))) (nth ops i)
def kE (m:Nat) (l:List Oper):Nat→Nat→Nat→Bool:= @List.rec Oper (fun _=> Nat→Nat→Nat→Bool) (fun _ _ _=> true) (fun o _ ih i done rs=> bG (Bool.and (gu done i) (Bool.and (Bool.not (Nat.beq (cls o.op) 2)) (Bool.or (Nat.beq (cls o.op) 1) (vk o.op)))) (bG (Bool.or (gu m i) (gu rs i)) (ih (Nat.succ i) done rs) false) (ih (Nat.succ i) done rs)) l
def qo (b:Tr Nat) (e:Nat) (l:List Oper):Nat→Nat→Bool:= @List.rec Oper (fun _=> Nat→Nat→Bool) (fun _ _=> true) (fun _ _ ih i done=> bG (Bool.or (gu done i) (Bool.or (Nat.beq i e) (gu (kL (b.get i)) e))) (ih (Nat.succ i) done) false) l
def PS (ops:List Oper) (b:Tr Nat) (sc:List Sp):Nat→Bool:= @List.rec Sp (fun _=> Nat→Bool) (fun done=> Nat.beq done (Nat.pred (Nat.pow 2 (len ops))))
 (fun s _ ih done=> @Sp.rec (fun _=> Bool) (fun i=> bG (qOk ops b i done false) (ih (Nat.lor done (Nat.pow 2 i))) false)
  (fun i rs=> bG (Bool.and (qOk ops b i done true) (Bool.and (qo b i ops 0 done) (kE (kL (b.get i)) ops 0 done (wO rs)))) (ih (Nat.lor done (Nat.pow 2 i))) false) s) sc
def zL (i:Nat) (l:List Edge):Bool:= @List.rec Edge (fun _=> Bool) true (fun e _ ih=> bG (Region.binds .any e) (bG (Nat.ble (Nat.succ e.on) i) ih false) ih) l
def backOk (l:List Oper):Nat→Bool:= @List.rec Oper (fun _=> Nat→Bool) (fun _=> true) (fun o _ ih i=> bG (zL i o.after.toList) (ih (Nat.succ i)) false) l
def aqT (ops:Array Oper) (b:Tr Nat) (eL:List Nat):List Sp:=aqS ops.toList b (wO eL) eL 0 (anM false ops.toList 0) []
def akh (ops:Array Oper) (b:Tr Nat) (sc:List Sp):Option (List Sp):=ob (Dn ops.toList 0 .e) fun D=> fP (Bool.and (backOk ops.toList 0) (Bool.and (KH ops D b ops.toList 0) (PS ops.toList b sc 0))) (some sc)
def plan (ops:Array Oper):Option (List Sp):=akh ops (Hr ops.toList 0 .e) (aqT ops (Hr ops.toList 0 .e) (anM true ops.toList 0))
def qp (P:Program) (o:Oper) (l:Nat) (st:dY):Bool:=isN (cls o.op)
 (@Option.rec CV (fun _=> Bool) false (fun v=> @Option.rec Tmp (fun _=> Bool) true (fun d=> @Option.rec CV (fun _=> Bool) false (same v) (st.env.get d)) o.dst) (exQ P st.env st.h o.type o.op))
 (@Option.rec (CV×aP) (fun _=> Bool) false (fun q=> Bool.and (@Option.rec aP (fun _=> Bool) false (tq q.2) (st.h.get l)) (@Option.rec Tmp (fun _=> Bool) true (fun d=> @Option.rec CV (fun _=> Bool) false (same q.1) (st.env.get d)) o.dst)) (exA P st.env o.op l)) false
def again (P:Program) (ops:List Oper) (base:Nat) (st:dY) (rs:List Nat):Bool:= @List.rec Nat (fun _=> Bool) true (fun i _ ih=> @Option.rec Oper (fun _=> Bool) false (fun o=> @Option.rec Bool (fun _=> Bool) false (fun w=> bG w (bG (qp P o (Nat.add base i) st) ih false) ih) (want ops st.env o.guard)) (nth ops i)) rs
def spQ (P:Program) (C:Callee) (ops:List Oper) (base i:Nat) (st:dY):Option dY:=ob (nth ops i) fun o=> Hq P C ops o (Nat.add base i) st
def Dp (P:Program) (C:Callee) (ops:List Oper) (base:Nat) (sc:List Sp):dY→Option dY:= @List.rec Sp (fun _=> dY→Option dY) some
 (fun s _ ih st=> @Sp.rec (fun _=> Option dY) (fun i=> ob (spQ P C ops base i st) ih) (fun i rs=> ob (spQ P C ops base i st) fun st=> fP (again P ops base st rs) (ih st)) s) sc
def aki (P:Program) (C:Callee) (ops:Array Oper) (st:dY):Option dY:=ob (plan ops) fun sc=> Dp P C ops.toList st.nx sc ⟨st.env,st.h,Nat.add st.nx (len ops.toList)⟩
@[reducible] def toRun (x : Option dY) : Run := @Option.rec dY (fun _ => Run) .no (fun st => .at_ .normal st) x
def aqU (P:Program) (C:Callee) (ops:Array Oper) (draw:Bool) (st:dY):Run:=toRun (bG draw (aki P C ops st) (afk P C ops.toList ops.toList st))
def lW (r:Run) (f:dY→Run):Run:= @Run.rec (fun _=> Run) .no (fun e st=> @Ec.rec (fun _=> Run) (f st) (fun i=> .at_ (.exit i) st) (.at_ .ret st) e) r
def anN (c:Operand) (x y:dY→Run) (st:dY):Run:= @Option.rec Bool (fun _=> Run) .no (fun b=> bG b (x st) (y st)) (ob (ev st.env c) fun v=> isBool v some)
def abS (id:Nat) (r:Run):Run:= @Run.rec (fun _=> Run) .no (fun e st=> @Ec.rec (fun _=> Run) (.at_ .normal st) (fun i=> bG (Nat.beq i id) (.at_ .normal st) (.at_ (.exit i) st)) (.at_ .ret st) e) r
def PU (f:dY→Run) (n:Nat):dY→Run:= @Nat.rec (fun _=> dY→Run) (fun _=> .no) (fun _ ih st=> lW (f st) ih) n
def evG (P:Program) (C:Callee) (L:Code→(dY→Run)→dY→Run) (c:Code):dY→Run:= @Code.rec (fun _=> dY→Run) (fun st=> .at_ .normal st) (fun _ ops draw=> aqU P C ops draw) (fun _ _ x y st=> lW (x st) y) (fun c _ _ x y=> anN c x y) (fun id _ x st=> abS id (x st)) (fun c x=> L c x)
 (fun _ _ _ _ _ _ _=> .no) (fun id st=> .at_ (.exit id) st) (fun _ _ _=> .no) (fun _ _=> .no) (fun _ _=> .no) (fun st=> .at_ .ret st) (fun _ _=> .no) c
def evC (P:Program) (C:Callee) (n:Nat) (c:Code):dY→Run:=evG P C (fun _ x=> PU x n) c
def Ja:List (CV×CV)→List (CV×CV)→Bool
 | [],[]=> true
 | a::l,b::r=> same a.1 b.1 && (same a.2 b.2 && Ja l r)
 | _,_=> false
def zM:List Nat→List Nat→Bool
 | [],[]=> true
 | a::l,b::r=> Nat.beq a b && zM l r
 | _,_=> false
def toMu (l:List (CV×CV)):Option (List (Int×CV)):= @List.rec (CV×CV) (fun _=> Option (List (Int×CV))) (some []) (fun p _ ih=> isI p.1 fun n=> ob ih fun r=> some ((n,p.2)::r)) l
def akj (b:aP):Option (List (Int×CV)):= @aP.rec (fun _=> Option (List (Int×CV))) (fun _ _=> none) (fun es _ _=> toMu es) (fun _ _ _ _=> none) (fun es=> some es) b
def PV (n:Int) (c:CV):List (Int×CV)→Bool
 | []=> false
 | q::r=> (ieq n q.1 && same c q.2) || PV n c r
def PW:List (Int×CV)→List (Int×CV)→Bool
 | [],_=> true
 | p::l,r=> PV p.1 p.2 r && PW l r
def Tn (a b:aP):Option aP:=ob (akj a) fun l=> ob (akj b) fun r=> fP (PW l r && PW r l) (some (.mu l))
def PX (a b:aP):Option aP:=match a,b with
 | .cl k cs,.cl k' cs'=> fP (KE k k' && Dk cs cs') (some (.cl k cs))
 | .mp es bs ck,.mp es' bs' ck'=> bG (Ja es es' && (zM bs bs' && Nat.beq ck ck')) (some (.mp es bs ck)) (Tn (.mp es bs ck) (.mp es' bs' ck'))
 | a,b=> Tn a b
def ain (a b:CV):Option CV:=fP (same a b) (some a)
def Dq {α:Type} (f:α→α→Option α) (t:Tr α):Tr α→Tr α:= @Tr.rec α (fun _=> Tr α→Tr α) (fun _=> .e) (fun v _ _ ihl ihr t=> @Tr.rec α (fun _=> Tr α) .e (fun w l' r' _ _=> .n (ob v fun a=> ob w (f a)) (ihl l') (ihr r')) t) t
def wQ (a b:dY):dY:=⟨Dq ain a.env b.env,Dq PX a.h b.h,bG (Nat.ble a.nx b.nx) b.nx a.nx⟩
def KI:Ec→Ec→Bool
 | .normal,.normal=> true
 | .exit a,.exit b=> Nat.beq a b
 | .ret,.ret=> true
 | _,_=> false
def VU (a b:Run):Run:= @Run.rec (fun _=> Run) .no (fun e s=> @Run.rec (fun _=> Run) .no (fun e' s'=> bG (KI e e') (.at_ e (wQ s s')) .no) b) a
def qw (f:CV×CV×Nat→Run) (l:List (CV×CV×Nat)):Run:= @List.rec (CV×CV×Nat) (fun _=> Run) .no (fun p r ih=> bG (kD r) (f p) (VU (f p) ih)) l
structure Ch where
 l:Nat
 m:Nat
 since:Nat
 seen:List Nat
 ck:Nat
 lf:List (CV×CV×Nat)
def choices (st:dY) (it:Tmp):Option Ch:=ob (st.env.get it) fun v=> afh st.h v fun l m since seen last es bs ck=> fP (Bool.and (Nat.ble ck since) (Nat.ble since last)) (some ⟨l,m,since,seen,ck,lV seen es bs⟩)
def force (st:dY) (a b:Tmp) (c:Ch) (p:CV×CV×Nat):dY:=⟨(st.env.put a (.bH [.v (.bool true),p.1,p.2.1])).put b (.v (.bool true)),st.h.put c.l (.it (some c.m) c.since (app c.seen [p.2.2]) c.ck),st.nx⟩
def wR:List Oper→Option (Tmp×Tmp×Tmp)
 | [⟨some a,.next (.tmp it) false,_,_,_,none⟩,⟨some b,.extract (.tmp a') 0,_,_,_,none⟩]=> bif Nat.beq a a' then some (it,a,b) else none
 | _=> none
def KJ (c:Code):Option (Tmp×Tmp×Tmp×Code):=match c with
 | .seq (.region _ ops false) rest=> ob (wR ops.toList) fun q=> some (q.1,q.2.1,q.2.2,rest)
 | _=> none
def PY {α:Type} (l:List α):Bool:= @List.rec α (fun _=> Bool) false (fun _ r _=> Bool.not (kD r)) l
def Ar (it a b:Tmp) (f g:dY→Run) (n:Nat):dY→Run:= @Nat.rec (fun _=> dY→Run) (fun _=> .no) (fun _ ih st=> @Option.rec Ch (fun _=> Run) (lW (f st) ih) (fun c=> bG (PY c.lf) (qw (fun p=> lW (g (force st a b c p)) ih) c.lf) (lW (f st) ih)) (choices st it)) n
def abT (P:Program) (C:Callee) (n:Nat) (c:Code) (f:dY→Run):dY→Run:= @Option.rec (Tmp×Tmp×Tmp×Code) (fun _=> dY→Run) (PU f n) (fun q=> Ar q.1 q.2.1 q.2.2.1 f (evC P C n q.2.2.2) n) (KJ c)
def afo (P:Program) (C:Callee) (n:Nat) (c:Code):dY→Run:=evG P C (fun c x=> abT P C n c x) c
def Du (l:List CV):Nat→Tr CV→Tr CV:= @List.rec CV (fun _=> Nat→Tr CV→Tr CV) (fun _ E=> E) (fun v _ ih i E=> ih (Nat.succ i) (E.put i v)) l
def res1 (P:Program) (st:dY) (r:ResultVar):Option CV:= @ResultVar.rec (fun _=> Option CV) (fun t=> st.env.get t) (fun a t=> ob (st.env.get a) fun v=> isP v fun l o=> ob (ql st.h l o) fun cs=> ld P t cs) r
def anO (P:Program) (st:dY) (l:List ResultVar):Option (List CV):= @List.rec ResultVar (fun _=> Option (List CV)) (some []) (fun r _ ih=> ob (res1 P st r) fun v=> ob ih fun vs=> some (v::vs)) l
def anP (vs:List CV):CV:= @List.rec CV (fun _=> CV) (.bH []) (fun v l _=> @List.rec CV (fun _=> CV) v (fun _ _ _=> .bH vs) l) vs
def abU (P:Program) (rs:List ResultVar) (st:dY):dG:=oR (anO P st rs) fun vs=> .ok (anP vs) st.h st.nx
def Tq (nt:Nat) (l:List Oper):Bool:= @List.rec Oper (fun _=> Bool) true (fun o _ ih=> @Option.rec Tmp (fun _=> Bool) ih (fun d=> bG (Nat.ble (Nat.succ d) nt) ih false) o.dst) l
def Ht (nt:Nat) (c:Code):Bool:= @Code.rec (fun _=> Bool) true (fun _ ops _=> Tq nt ops.toList) (fun _ _ x y=> bG x y false) (fun _ _ _ x y=> bG x y false) (fun _ _ x=> x) (fun _ x=> x) (fun _ _ _ _ _ _=> false) (fun _=> true) (fun _ _=> false) (fun _=> false) (fun _=> false) true (fun _=> false) c
def abV (P:Program) (f:FuncId):Option (Code×List ResultVar):=ob (P.funcs[f]?) fun fn=> ob fn.body fun c=> fP (Bool.and (Bool.not (fn.name== "runtime.NumGoroutine")) (Ht fn.ntmps c)) (some (c,fn.results.toList))
def aqV (P:Program) (rs:List ResultVar) (r:Run):dG:= @Run.rec (fun _=> dG) .no (fun e st=> @Ec.rec (fun _=> dG) (abU P rs st) (fun _=> .no) (abU P rs st) e) r
def abW (P:Program) (C:Callee) (k:Nat) (f:FuncId) (args:List CV) (h:Tr aP) (nx:Nat):dG:=oR (abV P f) fun b=> aqV P b.2 (afo P C k b.1 ⟨Du args 0 .e,h,nx⟩)
def rc (P:Program) (ext:FuncId→List CV→Tr aP→Nat→Option dG) (k n:Nat):Callee:= @Nat.rec (fun _=> Callee) (fun _ _ _ _=> .no) (fun _ ih f args h nx=> @Option.rec dG (fun _=> dG) (abW P ih k f args h nx) (fun r=> r) (ext f args h nx)) n
open Go.RowKit
theorem aj {α β:Type} {x:Option α} {f:α→Option β} {r:β} (h:ob x f=some r):∃a,x=some a∧f a=some r:=by
 cases x with
 | none=> cases h
 | some a=> exact ⟨a,rfl,h⟩
theorem aC {β:Type} {b:Bool} {x:Option β} {r:β} (h:fP b x=some r):b=true∧x=some r:=by
 cases b with
 | false=> cases h
 | true=> exact ⟨rfl,h⟩
theorem jf {α:Type} {b:Bool} {x y r:α} (h:bG b x y=r):(b=true∧x=r)∨(b=false∧y=r):=by
 cases b
 ·exact Or.inr ⟨rfl,h⟩
 ·exact Or.inl ⟨rfl,h⟩
theorem fA {α:Type} {x:Option α} {f:α→dG} {v:CV} {h':Tr aP} {nx:Nat} (h:oR x f= .ok v h' nx):∃a,x=some a∧f a= .ok v h' nx:=by
 cases x with
 | none=> cases h
 | some a=> exact ⟨a,rfl,h⟩
theorem jK {α β:Type} {x:Option α} {y:Option β} {r:β} (h:oC x y=some r):x=none∧y=some r:=by
 cases x with
 | none=> exact ⟨rfl,h⟩
 | some a=> cases h
theorem and_true {a b:Bool} (h:Bool.and a b=true):a=true∧b=true:=by
 cases a <;> cases b <;> first | exact ⟨rfl,rfl⟩ | cases h
theorem rG {β:Type} {x:CV} {f:Nat→Nat→Option β} {r:β} (h:isP x f=some r):∃l o,x= .p l o∧f l o=some r:=by
 cases x <;> first | exact ⟨_,_,rfl,h⟩ | cases h
theorem rH {β:Type} {x:CV} {f:Value→Option β} {r:β} (h:isV x f=some r):∃y,x= .v y∧f y=some r:=by
 cases x <;> first | exact ⟨_,rfl,h⟩ | cases h
theorem wS {β:Type} {x:CV} {f:Nat→Option β} {r:β} (h:isM x f=some r):∃l,x= .m l∧f l=some r:=by
 cases x <;> first | exact ⟨_,rfl,h⟩ | cases h
theorem mX {β:Type} {x:CV} {f:Nat→Option β} {r:β} (h:isNat x f=some r):∃k n,x= .v (.int k (Int.ofNat n))∧f n=some r:=by
 obtain ⟨y,rfl,h⟩:=rH h
 cases y with
 | int k n=>
  cases n with
  | ofNat n=> exact ⟨k,n,rfl,h⟩
  | negSucc n=> cases h
 | _=> cases h
theorem rJ {β:Type} {x:CV} {f:Bool→Option β} {r:β} (h:isBool x f=some r):∃b,x= .v (.bool b)∧f b=some r:=by
 obtain ⟨y,rfl,h⟩:=rH h
 cases y with
 | bool b=> exact ⟨b,rfl,h⟩
 | _=> cases h
theorem iE {α:Type}:∀(l:List α) (i:Nat),nth l i=l[i]?
 | [],_=> rfl
 | x::l,0=> rfl
 | x::l,i + 1=> by
  show nth l i=_
  rw [iE l i,List.getElem?_cons_succ]
theorem lM {α:Type}:∀(n:Nat) (l:List α),oz n l=l.drop n
 | 0,l=> rfl
 | n + 1,[]=> rfl
 | n + 1,x::l=> lM n l
theorem kF {α:Type}:∀(n:Nat) (l:List α),takeN n l=l.take n
 | 0,l=> rfl
 | n + 1,[]=> rfl
 | n + 1,x::l=> by
  show x::takeN n l=_
  rw [kF n l,List.take_succ_cons]
theorem VW {α:Type}:∀(vs l:List α),vs.length≤l.length→onto vs l=vs ++ l.drop vs.length
 | [],l,_=> rfl
 | v::vs,[],h=> by simp at h
 | v::vs,x::l,h=> by
  show v::onto vs l=_
  rw [VW vs l (by simpa using h)]
  rfl
def over {α:Type} (cs:List α) (o:Nat) (vs:List α):List α:=cs.take o ++ vs ++ cs.drop (o + vs.length)
theorem KL {α:Type} (vs:List α):∀(o:Nat) (l:List α),o + vs.length≤l.length→wrt vs o l=over l o vs
 | 0,l,h=> by
  show onto vs l=_
  rw [VW vs l (by omega)]
  simp [over]
 | o + 1,[],h=> by simp at h
 | o + 1,x::l,h=> by
  show x::wrt vs o l=_
  rw [KL vs o l (by simp at h;omega)]
  simp only [over,List.take_succ_cons,List.cons_append]
  rw [show o + 1 + vs.length=(o + vs.length) + 1 by omega,List.drop_succ_cons]
theorem len_eq {α:Type}:∀(l:List α),len l=l.length
 | []=> rfl
 | x::l=> by
  show Nat.succ (len l)=_
  rw [len_eq l]
  rfl
theorem kU {α:Type}:∀(l r:List α),app l r=l ++ r
 | [],r=> rfl
 | x::l,r=> by
  show x::app l r=_
  rw [kU l r]
  rfl
theorem aN {a b:Nat} (h:Nat.ble a b=true):a≤b:=Nat.le_of_ble_eq_true h
theorem ay {a b:Nat} (h:Nat.beq a b=true):a=b:=Nat.eq_of_beq_eq_true h
theorem BO {α:Type} (cs:List α) (o:Nat):over cs o []=cs:=by simp [over]
theorem iV {α:Type} (cs:List α) (o:Nat) (vs:List α) (h:o + vs.length≤cs.length) (i:Nat):(over cs o vs)[i]? =if i < o then cs[i]? else if i < o + vs.length then vs[i - o]? else cs[i]? :=by
 unfold over
 rw [List.getElem?_append,List.getElem?_append]
 simp only [List.length_append,List.length_take]
 have e:min o cs.length=o:=by omega
 rw [e]
 by_cases h1:i < o
 ·rw [if_pos (by omega),if_pos h1,if_pos h1,List.getElem?_take_of_lt h1]
 ·by_cases h2:i < o + vs.length
  ·rw [if_pos h2,if_neg h1,if_neg h1,if_pos h2]
  ·rw [if_neg h2,if_neg h1,if_neg h2,List.getElem?_drop]
   congr 1
   omega
theorem yJ {α:Type} (cs:List α) (o:Nat) (v:α) (vs:List α) (h:o + (vs.length + 1)≤cs.length):over (cs.set o v) (o + 1) vs=over cs o (v::vs):=by
 apply List.ext_getElem?
 intro i
 rw [iV _ _ _ (by simp;omega),iV _ _ _ (by simpa using h),List.getElem?_set,List.length_cons]
 by_cases h1:i < o
 ·rw [if_pos (by omega),if_pos h1,if_neg (by omega)]
 ·by_cases h2:i=o
  ·subst h2
   rw [if_pos (by omega),if_pos rfl,if_pos (by omega),if_neg (by omega),if_pos (by omega)]
   simp
  ·rw [if_neg (by omega),if_neg h1]
   by_cases h3:i < o + 1 + vs.length
   ·rw [if_pos h3,if_pos (by omega)]
    obtain ⟨k,hk⟩:∃k,i - o=k + 1:=⟨i - o - 1,by omega⟩
    rw [hk,List.getElem?_cons_succ]
    congr 1
    omega
   ·rw [if_neg h3,if_neg (by omega),if_neg (by omega)]
theorem dX {α:Type} (cs:List α) (o:Nat) (vs:List α) (h:o + vs.length≤cs.length):(over cs o vs).length=cs.length:=by
 unfold over
 simp
 omega
theorem oQ (off:Nat):∀(vs:List Value) (k:Nat) (cells:Array Value),off + k + vs.length≤cells.size→
  ((vs.zipIdx k).foldl (fun cs (p:Value×Nat)=> cs.setIfInBounds (off + p.2) p.1) cells).toList=over cells.toList (off + k) vs
 | [],k,cells,_=> by simp [BO]
 | v::vs,k,cells,h=> by
  rw [List.zipIdx_cons,List.foldl_cons,oQ off vs (k + 1) _ (by simp at h ⊢;omega),Array.toList_setIfInBounds]
  rw [←Nat.add_assoc]
  exact yJ _ _ _ _ (by simp at h ⊢;omega)
theorem yK (place:Nat→Option (Nat×Nat)) (cells:Array Value) (i:Nat) (x:Value) (r:List (Nat×Value)) {off n:Nat} (hp:place i=some (off,n)) (hn:x.cells.size=n) (hl:off + n≤cells.size):
  Instr.fill place cells ((i,x)::r)=Instr.fill place (over cells.toList off x.cells.toList).toArray r:=by
 rw [Instr.fill,hp]
 have h1:(decide (x.cells.size≠n) || decide (off + x.cells.size > cells.size))=false:=by simp [hn];omega
 simp only [h1,Bool.false_eq_true,if_false]
 congr 1
 apply Array.ext'
 have:=oQ off x.cells.toList 0 cells (by simp [hn];omega)
 simp only [Nat.add_zero] at this
 rw [List.toList_toArray,←this,←Array.foldl_toList]
 simp
theorem add_eq (b o j:Nat):(⟨b,o,none⟩:Addr).add j=⟨b,o + j,none⟩:=by
 unfold Addr.add
 by_cases hj:j=0
 ·subst hj;rfl
 ·simp [hj]
section
variable {α : Type}
theorem Jb (k:Nat):(Tr.e:Tr α).get k=none:=rfl
theorem wU (v:Option α) (l r:Tr α) (k:Nat):(Tr.n v l r).get k=if k=0 then v else if k % 2=1 then l.get ((k - 1) / 2) else r.get ((k - 1) / 2):=by
 show ajS v l.get r.get k=_
 unfold ajS
 cases h1:Nat.beq k 0 with
 | true=> rw [if_pos (ay h1)]
 | false=>
  rw [if_neg (fun e=> by subst e;cases h1)]
  cases h2:Nat.beq (Nat.mod k 2) 1 with
  | true=> rw [if_pos (show k % 2=1 from ay h2)];rfl
  | false=> rw [if_neg (show ¬k % 2=1 from fun e=> Nat.ne_of_beq_eq_false h2 e)];rfl
theorem X8 (v:Option α) (f k:Nat) (t:Tr α):Tr.Dh v (f + 1) k t=(match t with
  | .e=> if k=0 then .n v .e .e else if k % 2=1 then .n none (Tr.Dh v f ((k - 1) / 2) .e) .e else .n none .e (Tr.Dh v f ((k - 1) / 2) .e)
  | .n w l r=> if k=0 then .n v l r else if k % 2=1 then .n w (Tr.Dh v f ((k - 1) / 2) l) r else .n w l (Tr.Dh v f ((k - 1) / 2) r)):=by
 cases t with
 | e=>
  show abx v (Tr.Dh v f) k=_
  unfold abx
  cases h1:Nat.beq k 0 with
  | true=> simp only [if_pos (ay h1)]
  | false=>
   simp only [if_neg (fun e=> Nat.ne_of_beq_eq_false h1 e:¬k=0)]
   cases h2:Nat.beq (Nat.mod k 2) 1 with
   | true=> simp only [if_pos (show k % 2=1 from ay h2)];rfl
   | false=> simp only [if_neg (fun e=> Nat.ne_of_beq_eq_false h2 e:¬k % 2=1)];rfl
 | n w l r=>
  show aby v (Tr.Dh v f) k w l r=_
  unfold aby
  cases h1:Nat.beq k 0 with
  | true=> simp only [if_pos (ay h1)]
  | false=>
   simp only [if_neg (fun e=> Nat.ne_of_beq_eq_false h1 e:¬k=0)]
   cases h2:Nat.beq (Nat.mod k 2) 1 with
   | true=> simp only [if_pos (show k % 2=1 from ay h2)];rfl
   | false=> simp only [if_neg (fun e=> Nat.ne_of_beq_eq_false h2 e:¬k % 2=1)];rfl
theorem Dv (v:Option α):∀(f k j:Nat) (t:Tr α),k < f→(Tr.Dh v f k t).get j=if j=k then v else t.get j
 | 0,k,j,t,h=> by omega
 | f + 1,k,j,t,h=> by
  rw [X8]
  by_cases h0:k=0
  ·subst h0
   cases t with
   | e=>
    simp only [if_true,wU,Jb]
    by_cases hj:j=0
    ·simp [hj]
    ·simp [hj]
   | n w l r=>
    simp only [if_true,wU]
    by_cases hj:j=0
    ·simp [hj]
    ·simp [hj]
  ·have ih:∀(j:Nat) (t:Tr α),(Tr.Dh v f ((k - 1) / 2) t).get j=if j=(k - 1) / 2 then v else t.get j:=fun j t=> Dv v f _ j t (by omega)
   by_cases h1:k % 2=1
   ·cases t with
    | e=>
     simp only [h0,h1,if_true,if_false,wU,Jb,ih]
     by_cases hj:j=0
     ·rw [if_pos hj,if_neg (by omega)]
     ·rw [if_neg hj]
      by_cases h2:j % 2=1
      ·rw [if_pos h2]
       by_cases h3:j=k
       ·rw [if_pos (by omega),if_pos h3]
       ·rw [if_neg (by omega),if_neg h3]
      ·rw [if_neg h2,if_neg (by omega)]
    | n w l r=>
     simp only [h0,h1,if_true,if_false,wU,ih]
     by_cases hj:j=0
     ·rw [if_pos hj,if_neg (by omega),if_pos hj]
     ·rw [if_neg hj,if_neg hj]
      by_cases h2:j % 2=1
      ·rw [if_pos h2,if_pos h2]
       by_cases h3:j=k
       ·rw [if_pos (by omega),if_pos h3]
       ·rw [if_neg (by omega),if_neg h3]
      ·rw [if_neg h2,if_neg h2,if_neg (by omega)]
   ·cases t with
    | e=>
     simp only [h0,h1,if_false,wU,Jb,ih]
     by_cases hj:j=0
     ·rw [if_pos hj,if_neg (by omega)]
     ·rw [if_neg hj]
      by_cases h2:j % 2=1
      ·rw [if_pos h2,if_neg (by omega)]
      ·rw [if_neg h2]
       by_cases h3:j=k
       ·rw [if_pos (by omega),if_pos h3]
       ·rw [if_neg (by omega),if_neg h3]
    | n w l r=>
     simp only [h0,h1,if_false,wU,ih]
     by_cases hj:j=0
     ·rw [if_pos hj,if_neg (by omega),if_pos hj]
     ·rw [if_neg hj,if_neg hj]
      by_cases h2:j % 2=1
      ·rw [if_pos h2,if_pos h2,if_neg (by omega)]
      ·rw [if_neg h2,if_neg h2]
       by_cases h3:j=k
       ·rw [if_pos (by omega),if_pos h3]
       ·rw [if_neg (by omega),if_neg h3]
theorem get_put (t:Tr α) (k j:Nat) (v:α):(t.put k v).get j=if j=k then some v else t.get j:=Dv (some v) (k + 1) k j t (by omega)
theorem AP (t:Tr α) (k j:Nat):(t.del k).get j=if j=k then none else t.get j:=Dv none (k + 1) k j t (by omega)
theorem dR (t:Tr α) (k:Nat) (v:α):(t.put k v).get k=some v:=by rw [get_put,if_pos rfl]
theorem dK (t:Tr α) {k j:Nat} (v:α) (h:j≠k):(t.put k v).get j=t.get j:=by rw [get_put,if_neg h]
end
theorem oZ {α:Type} {P:Program}:∀(s:Sem α) {a:α},qj P s=some a→∀w,s.run P w= .ok a w:=by
 intro s
 induction s with
 | pure x=>
  intro a h w
  injection h with h
  subst h
  rfl
 | program k ih=> intro a h w;exact ih P h w
 | mark m k ih=> intro a h w;exact ih h w
 | _=> intro a h;cases h
structure Loc where
 blk:Nat
 off:Nat
 room:Nat
abbrev Nm:=Nat→Option Loc
def iQ:CV→Bool
 | .agg _=> false
 | .bH _=> false
 | _=> true
def opI (op:BinOp) (a b:Int):Option Value:=match op with
 | .eql=> some (.bool (a==b))
 | .neq=> some (.bool (a !=b))
 | .lss=> some (.bool (decide (a < b)))
 | .leq=> some (.bool (decide (a≤b)))
 | .gtr=> some (.bool (decide (a > b)))
 | .geq=> some (.bool (decide (a≥b)))
 | .rem=> if b=0 then none else some (.int .i64 (a.tmod b))
 | _=> none
def akk (val:Nat→Value):UA→Value
 | .b b=> .bool b
 | .n n=> .int .i64 n
 | .u i=> val i
def anQ (live:Nat→Bool):UA→Bool
 | .u i=> live i
 | _=> true
class fE where
 live:Nat→Bool
 val:Nat→Value
 one:∀i,live i=true→(val i).oneCell'=true
 c:∀i op left n r,live i=true→abv i op left n=some r→anQ live r=true∧∃m:Int,val i= .int .i64 m∧opI op (bif left then m else n) (bif left then n else m)=some (akk val r)
 u:∀op i j b,live i=true→live j=true→abw op i j=some b→(∃m n:Int,val i= .int .i64 m∧val j= .int .i64 n∧opI op m n=some (.bool b))∨∃s,val i= .string s∧val j= .string s∧(op= .eql∧b=true∨op= .neq∧b=false)
 l:∀i j,live i=true→ae9 i=some j→live j=true∧∃s,val i= .string s∧val j= .int .i64 (s.size:Int)
 P:World→Prop
 base:Nat
 st:∀w w',P w→(∀b,b < base→w'.heap[b]? =w.heap[b]?)→P w'
 a:∀i j k,live i=true→afb i j=some k→live k=true∧∃b q n c,val i= .slice (some ⟨b,q,none⟩) n c∧j < n∧val k= .pointer (some ⟨b,q + j,none⟩)
 p:∀i x,live i=true→wL i=some x→∃b q,val i= .pointer (some ⟨b,q,none⟩)∧∀w,P w→w.cell? ⟨b,q,none⟩=some (.bool x)
 n:∀i j,live i=true→afa i=some j→live j=true∧∃a n c,val i= .slice a n c∧val j= .int .i64 (n:Int)
variable [fE]
def OkW (w:World):Prop:=fE.P w∧fE.base≤w.heap.size
inductive VR (σ:Nm):CV→Value→Prop
 | v (x:Value) (h:x.oneCell'=true):VR σ (.v x) x
 | u (i:Nat) (h:fE.live i=true):VR σ (.u i) (fE.val i)
 | t (bs:List Nat) (h:∀b∈bs,b < 256):VR σ (.t bs) (oW bs)
 | p {l:Nat} {c:Loc} (o:Nat) (h:σ l=some c):VR σ (.p l o) (.pointer (some ⟨c.blk,c.off + o,none⟩))
 | sk {l:Nat} {c:Loc} (o n k:Nat) (h:σ l=some c) (hn:n≤k):VR σ (.s l o n (.kn k)) (.slice (some ⟨c.blk,c.off + o,none⟩) n k)
 | so {l:Nat} {c:Loc} (o n z q k:Nat) (h:σ l=some c) (hn:n≤k) (hq:q≤k) (hk:o + k * z≤c.room) (hm:k≤maxLen):VR σ (.s l o n (.op z q)) (.slice (some ⟨c.blk,c.off + o,none⟩) n k)
 | s0 {l:Nat} {c:Loc} (o:Nat) (k:Cp) (A:Addr) (h:σ l=some c) (hk:∀n,k= .kn n→n=0) (hz:∀z q,k= .op z q→q=0):VR σ (.s l o 0 k) (.slice (some A) 0 0)
 | m {l:Nat} {c:Loc} (h:σ l=some c):VR σ (.m l) (.map (some c.blk))
 | fn (f:FuncId) (fs cs:List CV) (us vs:Array Value) (hl:us.size=fs.length) (hl2:vs.size=cs.length) (h:∀(j:Nat) (c:CV) (u:Value),fs[j]? =some c→us[j]? =some u→VR σ c u) (h2:∀(j:Nat) (c:CV) (u:Value),cs[j]? =some c→vs[j]? =some u→VR σ c u):VR σ (.fn f fs cs) (.func (.func f) us vs)
 | agg (cs:List CV) (vs:Array Value) (h1:∀c∈cs,iQ c=true) (hl:vs.size=cs.length) (h:∀(j:Nat) (c:CV) (u:Value),cs[j]? =some c→vs[j]? =some u→VR σ c u):VR σ (.agg cs) (.agg vs)
 | bH (cs:List CV) (vs:Array Value) (hl:vs.size=cs.length) (h:∀(j:Nat) (c:CV) (u:Value),cs[j]? =some c→vs[j]? =some u→VR σ c u):VR σ (.bH cs) (.tuple vs)
def Le (σ σ':Nm):Prop:=∀l c,σ l=some c→σ' l=some c
theorem Le.refl (σ:Nm):Le σ σ:=fun _ _ h=> h
theorem Le.trans {a b c:Nm} (h:Le a b) (k:Le b c):Le a c:=fun l x e=> k l x (h l x e)
theorem VR.mono {σ σ':Nm} (hs:Le σ σ') {c:CV} {v:Value} (h:VR σ c v):VR σ' c v:=by
 induction h with
 | v x h=> exact .v x h
 | u i h=> exact .u i h
 | t bs h=> exact .t bs h
 | p o h=> exact .p o (hs _ _ h)
 | sk o n k h hn=> exact .sk o n k (hs _ _ h) hn
 | so o n z q k h hn hq hk hm=> exact .so o n z q k (hs _ _ h) hn hq hk hm
 | s0 o z A h hk hz=> exact .s0 o z A (hs _ _ h) hk hz
 | m h=> exact .m (hs _ _ h)
 | fn f fs cs us vs hl hl2 _ _ ih ih2=> exact .fn f fs cs us vs hl hl2 ih ih2
 | agg cs vs h1 hl _ ih=> exact .agg cs vs h1 hl ih
 | bH cs vs hl _ ih=> exact .bH cs vs hl ih
def fU (σ:Nm) (cs:List CV) (vs:List Value):Prop:=vs.length=cs.length∧∀(j:Nat) (c:CV) (v:Value),cs[j]? =some c→vs[j]? =some v→VR σ c v
theorem fU.mono {σ σ':Nm} (hs:Le σ σ') {cs:List CV} {vs:List Value} (h:fU σ cs vs):fU σ' cs vs:=⟨h.1,fun j c v hc hv=> (h.2 j c v hc hv).mono hs⟩
theorem fU.nil (σ:Nm):fU σ [] []:=⟨rfl,fun j c v h=> by simp at h⟩
theorem fU.cons {σ:Nm} {c:CV} {cs:List CV} {v:Value} {vs:List Value} (h:VR σ c v) (hs:fU σ cs vs):fU σ (c::cs) (v::vs):=
 ⟨by simp [hs.1],fun j x y hx hy=> by
  cases j with
  | zero=> simp at hx hy;subst hx hy;exact h
  | succ j=> exact hs.2 j x y (by simpa using hx) (by simpa using hy)⟩
theorem fU.cons_inv {σ:Nm} {c:CV} {cs:List CV} {vs:List Value} (h:fU σ (c::cs) vs):∃v vs',vs=v::vs'∧VR σ c v∧fU σ cs vs':=by
 cases vs with
 | nil=> have:=h.1;simp at this
 | cons v vs'=> exact ⟨v,vs',rfl,h.2 0 c v rfl rfl,by have:=h.1;simpa using this,fun j x y hx hy=> h.2 (j + 1) x y (by simpa using hx) (by simpa using hy)⟩
theorem fU.bg {σ:Nm} {vs:List Value} (h:fU σ [] vs):vs= []:=List.eq_nil_of_length_eq_zero h.1
theorem fU.get {σ:Nm} {cs:List CV} {vs:List Value} (h:fU σ cs vs) {j:Nat} {c:CV} (hc:cs[j]? =some c):∃v,vs[j]? =some v∧VR σ c v:=by
 have hj:j < vs.length:=by rw [h.1];exact (List.getElem?_eq_some_iff.1 hc).1
 exact ⟨vs[j],List.getElem?_eq_getElem hj,h.2 j c _ hc (List.getElem?_eq_getElem hj)⟩
theorem fU.take {σ:Nm} {cs:List CV} {vs:List Value} (h:fU σ cs vs) (n:Nat):fU σ (cs.take n) (vs.take n):=⟨by simp [h.1],fun j c v hc hv=> by
 rw [List.getElem?_take] at hc hv
 split at hc
 ·rename_i hj
  rw [if_pos hj] at hv
  exact h.2 j c v hc hv
 ·cases hc⟩
theorem fU.drop {σ:Nm} {cs:List CV} {vs:List Value} (h:fU σ cs vs) (n:Nat):fU σ (cs.drop n) (vs.drop n):=⟨by simp [h.1],fun j c v hc hv=> by
 rw [List.getElem?_drop] at hc hv
 exact h.2 _ c v hc hv⟩
theorem fU.append {σ:Nm} {cs cs':List CV} {vs vs':List Value} (h:fU σ cs vs) (h':fU σ cs' vs'):fU σ (cs ++ cs') (vs ++ vs'):=by
 induction cs generalizing vs with
 | nil=> rw [h.bg];exact h'
 | cons c cs ih=>
  obtain ⟨v,vs2,rfl,h1,h2⟩:=h.cons_inv
  exact .cons h1 (ih h2)
theorem fU.over {σ:Nm} {cs cs':List CV} {vs vs':List Value} (h:fU σ cs vs) (h':fU σ cs' vs') (o:Nat):fU σ (over cs o cs') (over vs o vs'):=by
 unfold Ci.over
 rw [h'.1]
 exact ((h.take o).append h').append (h.drop _)
theorem VR.Dw {σ:Nm} {cs:List CV} {v:Value} (h:VR σ (.agg cs) v):∃vs:Array Value,v= .agg vs∧fU σ cs vs.toList∧∀c∈cs,iQ c=true:=by
 cases h with
 | agg _ vs h1 hl h=> exact ⟨vs,rfl,⟨by simpa using hl,fun j c u hc hu=> h j c u hc (by simpa using hu)⟩,h1⟩
theorem VR.abX {σ:Nm} {cs:List CV} {v:Value} (h:VR σ (.bH cs) v):∃vs:Array Value,v= .tuple vs∧fU σ cs vs.toList:=by
 cases h with
 | bH _ vs hl h=> exact ⟨vs,rfl,by simpa using hl,fun j c u hc hu=> h j c u hc (by simpa using hu)⟩
theorem VR.fnL {σ:Nm} {f:FuncId} {fs cs:List CV} {v:Value} (h:VR σ (.fn f fs cs) v):∃us vs:Array Value,v= .func (.func f) us vs∧fU σ fs us.toList∧fU σ cs vs.toList:=by
 cases h with
 | fn _ _ _ us vs hl hl2 h h2=> exact ⟨us,vs,rfl,⟨by simpa using hl,fun j c u hc hu=> h j c u hc (by simpa using hu)⟩,⟨by simpa using hl2,fun j c u hc hu=> h2 j c u hc (by simpa using hu)⟩⟩
theorem VR.KN {σ:Nm} {cs:List CV} {vs:List Value} (h:fU σ cs vs) (h1:∀c∈cs,iQ c=true):VR σ (.agg cs) (.agg vs.toArray):= .agg cs _ h1 (by simpa using h.1) fun j c u hc hu=> h.2 j c u hc (by simpa using hu)
theorem VR.mY {σ:Nm} {cs:List CV} {vs:List Value} (h:fU σ cs vs):VR σ (.bH cs) (.tuple vs.toArray):= .bH cs _ (by simpa using h.1) fun j c u hc hu=> h.2 j c u hc (by simpa using hu)
theorem VR.one {σ:Nm} {c:CV} {v:Value} (h:VR σ c v) (hc:iQ c=true):v.oneCell'=true:=by
 cases h <;> first | rfl | assumption | exact fE.one _ (by assumption) | cases hc
theorem VR.uv {σ:Nm} {i:Nat} {v:Value} (h:VR σ (.u i) v):v=fE.val i∧fE.live i=true:=by
 cases h with
 | u _ h=> exact ⟨rfl,h⟩
theorem VR.val {σ:Nm} {x v:Value} (h:VR σ (.v x) v):v=x:=by
 cases h
 rfl
theorem VR.unit (σ:Nm):VR σ (.bH []) (.tuple #[]):= .bH [] #[] rfl fun j c u hc=> by simp at hc
theorem VR.cells {σ:Nm} {c:CV} {v:Value} (h:VR σ c v) (hc:nt c=true):fU σ (cells c) v.cells.toList∧∀x∈cells c,iQ x=true:=by
 have one:∀{c:CV} {v:Value},iQ c=true→VR σ c v→fU σ [c] [v]∧∀x∈ [c],iQ x=true:=fun h1 h=> ⟨.cons h (.nil σ),fun x hx=> by
  rw [List.mem_singleton.1 hx]
  exact h1⟩
 cases h with
 | agg cs vs h1 hl h=>
  show fU σ cs vs.toList∧_
  exact ⟨⟨by simpa using hl,fun j c u hc hu=> h j c u hc (by simpa using hu)⟩,h1⟩
 | bH cs vs hl h=> cases hc
 | v _ h=>
  cases v with
  | agg=> cases h
  | _=> exact one rfl (.v _ h)
 | u i h=>
  have e:(fE.val i).cells.toList= [fE.val i]:=by
   have h1:=fE.one i h
   cases hv:fE.val i with
   | agg=> rw [hv] at h1;cases h1
   | _=> rfl
  rw [e]
  exact one rfl (.u i h)
 | t bs h=> exact one rfl (.t bs h)
 | p o h=> exact one rfl (.p o h)
 | sk o n k h hn=> exact one rfl (.sk o n k h hn)
 | so o n z q k h hn hq hk hm=> exact one rfl (.so o n z q k h hn hq hk hm)
 | s0 o z A h hk hz=> exact one rfl (.s0 o z A h hk hz)
 | m h=> exact one rfl (.m h)
 | fn f fs cs us vs hl hl2 h h2=> exact one rfl (.fn f fs cs us vs hl hl2 h h2)
theorem PZ (σ:Nm) {x:Value} (h:x.oneCell'=true):VR σ (ajU x) x:=by
 cases x with
 | string s=>
  have e:oW (s.data.toList.map UInt8.toNat)= .string s:=by
   unfold oW
   rw [List.map_map]
   have:(UInt8.ofNat∘UInt8.toNat)=id:=by
    funext b
    simp
   rw [this,List.map_id]
  show VR σ (.t (s.data.toList.map UInt8.toNat)) (.string s)
  rw [←e]
  refine .t _ fun b hb=> ?_
  obtain ⟨u,_,rfl⟩:=List.mem_map.1 hb
  exact u.toNat_lt
 | _=> exact .v _ h
theorem lX (σ:Nm) {x:Value} {c:CV} (h:Y4 x=some c):VR σ c x:=by
 cases x with
 | agg cs=>
  simp only [Y4] at h
  cases hb:cs.toList.all Value.oneCell'
  ·rw [hb] at h;cases h
  ·rw [hb] at h
   injection h with h
   subst h
   refine .agg _ cs (fun c hc=> ?_) (by simp) fun j c u hc hu=> ?_
   ·obtain ⟨x,_,rfl⟩:=List.mem_map.1 hc
    cases x <;> rfl
   rw [List.getElem?_map] at hc
   have hu':cs.toList[j]? =some u:=by simpa using hu
   rw [hu'] at hc
   injection hc with hc
   subst hc
   exact PZ σ (List.all_eq_true.1 hb u (List.mem_of_getElem? hu'))
 | tuple=> cases h
 | _=>
  injection h with h
  subst h
  exact PZ σ rfl
theorem akl {x:Value} {c:CV} (h:Y4 x=some c):nt c=true:=by
 cases c with
 | bH cs=>
  have:=lX (fun _=> none) h
  cases this
  cases h
 | _=> rfl
theorem toV1_rel {σ:Nm} {c:CV} {v u:Value} (h:VR σ c v) (hc:toV1 c=some u):v=u:=by
 cases h <;> first | (injection hc with hc;done) | cases hc
theorem toVs_rel {σ:Nm}:∀{cs:List CV} {vs us:List Value},fU σ cs vs→toVs cs=some us→vs=us
 | [],vs,us,h,hc=> by
  injection hc with hc
  subst hc
  exact h.bg
 | c::cs,vs,us,h,hc=> by
  obtain ⟨v,vs',rfl,h1,h2⟩:=h.cons_inv
  unfold toVs at hc
  split at hc
  ·rename_i u us' e1 e2
   injection hc with hc
   subst hc
   rw [toV1_rel h1 e1,toVs_rel h2 e2]
  ·cases hc
theorem toV_rel {σ:Nm} {c:CV} {v u:Value} (h:VR σ c v) (hc:toV c=some u):v=u:=by
 cases c with
 | agg cs=>
  obtain ⟨vs,rfl,hL,_⟩:=h.Dw
  simp only [toV] at hc
  cases e:toVs cs with
  | none=> rw [e] at hc;cases hc
  | some us=>
   rw [e] at hc
   injection hc with hc
   subst hc
   rw [←toVs_rel hL e]
 | bH=> cases hc
 | _=> exact toV1_rel h hc
def bM (σ:Nm) (E:Tr CV) (tmps:Array Value):Prop:=∀t c,E.get t=some c→∃v,tmps[t]? =some v∧VR σ c v
theorem bM.mono {σ σ':Nm} (hs:Le σ σ') {E:Tr CV} {tmps:Array Value} (h:bM σ E tmps):bM σ' E tmps:=fun t c hc=> let ⟨v,h1,h2⟩:=h t c hc;⟨v,h1,h2.mono hs⟩
theorem bI {σ:Nm} {E:Tr CV} {a:Act} {x:Operand} {c:CV} (h:∀t,x= .tmp t→∀c,E.get t=some c→∃v,a.tmps[t]? =some v∧VR σ c v) (hx:ev E x=some c):VR σ c (a.eval x):=by
 cases x with
 | tmp t=>
  obtain ⟨y,hy,hr⟩:=h t rfl c hx
  have:a.eval (.tmp t)=y:=by
   show a.tmps.getD t undef=y
   rw [Array.getD_eq_getD_getElem?,hy]
   rfl
  rw [this]
  exact hr
 | const y=> exact lX σ hx
 | func f=>
  injection hx with hx
  subst hx
  exact .fn f [] [] #[] #[] rfl rfl (fun j c u hc=> by simp at hc) (fun j c u hc=> by simp at hc)
 | global g=> cases hx
end Go.Proofs.YtnegekppaoedgaaGreatDoor.Ci
end

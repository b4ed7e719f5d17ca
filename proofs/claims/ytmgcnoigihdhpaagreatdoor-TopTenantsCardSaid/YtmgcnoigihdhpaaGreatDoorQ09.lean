/-
Evaluation of Go code on plain data: values, memory of a call's own, what each operation does. Over any program.
-/
import Derived.Test.YtmgcnoigihdhpaaGreatDoorQ01
import Derived.Lib.ItoaNum
import Derived.Orders
import Derived.MapKept
namespace Go.Proofs.YtmgcnoigihdhpaaGreatDoor
open Go.RowKit
structure BelowD (dr:Prop) (B:Nat) (w w':World):Prop extends Below B w w' where
 drawn:dr→w.drawn≤w'.drawn
theorem BelowD.refl {dr:Prop} (B:Nat) (w:World):BelowD dr B w w:=⟨Below.refl B w,fun _=> Nat.le_refl _⟩
theorem BelowD.drew {dr:Prop} {B:Nat} {a w:World} (h:BelowD dr B a w):BelowD dr B a w.drew:=⟨h.toBelow.drew,fun d=> Nat.le_succ_of_le (h.drawn d)⟩
theorem BelowD.alloc {dr:Prop} {B:Nat} {a w:World} (h:BelowD dr B a w) (hB:B≤w.heap.size) (o:Obj):BelowD dr B a (w.alloc o):=⟨h.toBelow.alloc hB o,h.drawn⟩
theorem belowD_alloc {dr:Prop} (w:World) (o:Obj):BelowD dr w.heap.size w (w.alloc o):=(BelowD.refl _ _).alloc (Nat.le_refl _) _
def tabs:List (Nat×(Obj→Prop)):= [(1,fun o=> ∃T s,o= .cells (Lib.pow10Tab.map fun z=> Value.int .u64 z).toArray T s),(0,fun o=> ∃cs T s m,o= .cells cs T s∧cs[0]? =some (.int .i64 m))]
def Tab (b:Nat):Prop:=∃q∈tabs,q.1=b
def Inv (w:World):Prop:=∀q∈tabs,∃o,w.heap[q.1]? =some o∧q.2 o
theorem Inv.lt {w:World} (h:Inv w) {b:Nat} (hb:Tab b):b < w.heap.size:=by
 obtain ⟨q,hq,rfl⟩:=hb
 obtain ⟨o,ho,_⟩:=h q hq
 exact (Array.getElem?_eq_some_iff.1 ho).1
theorem Inv.keep {w w':World} (h:Inv w) (k:∀b,Tab b→w'.heap[b]? =w.heap[b]?):Inv w':=fun q hq=> by
 rw [k q.1 ⟨q,hq,rfl⟩]
 exact h q hq
inductive CK where
 | i (k:IntKind) | b | s | st (n:Nat)
inductive D where
 | v (x:Value)
 | fz (es:List (List D))
 | mz (ck:CK) (es:List (Value×D))
 | ag (cs:List D)
 | pz (cs:List D)
inductive AV where
 | d (x:D)
 | agg (cs:List AV)
 | tup (vs:List AV)
 | nl
 | fp (cs:List D)
 | lp (s g o:Nat)
 | rp (s g i o:Nat)
 | row (s g n:Nat)
 | sub (s g o n:Nat)
 | ow (sz:Nat) (es:List (List D))
 | mp (s g:Nat)
 | fn (f:FuncId) (cap:List AV)
 | kb (b:Bool)
 | hp (is:List AV)
 | ib (cs:List AV)
 | im (ck:CK) (es:List (Value×D))
inductive Inst where
 | box (cs:List AV)
 | rows (sz:Nat) (es:List (List D)) (ro:Bool)
 | mapi (ck:CK) (es:List (Value×D))
structure Mem where
 at_:Nat→Nat→Option Inst
 gen:Nat→Nat
structure ASt where
 env:Nat→Option AV
 m:Mem
inductive Step where
 | ret (v:AV)
 | rdb (s g:Nat) (k:List AV→Step)
 | rdr (s g:Nat) (k:List (List D)→Step)
 | rdm (s g:Nat) (k:CK→List (Value×D)→Step)
 | rww (s g:Nat) (k:Nat→List (List D)→Step)
 | rdz (s g z:Nat) (k:Step)
 | wr (s g:Nat) (i:Inst) (k:Step)
 | new (s:Nat) (i:Inst) (k:Nat→Step)
 | app (s g sz:Nat) (xs:List (List D)) (k:Nat→Step)
 | frz (s g:Nat) (k:Step)
 | elem (es:List (List D)) (i:Nat) (k:List D→Step)
 | call (f:FuncId) (args:List AV) (k:AV→Step)
 | chk (p:Prop) (k:Step)
 | br (b:Bool) (x y:Step)
 | fail
inductive TK where
 | int (k:IntKind) | bool | str | slice (e sz:Nat) | array (n e sz:Nat) | struct (fs:List (Nat×Nat×Nat)) | map (kt et:Nat) | ptr | other | none_
structure TI where
 size:Nat
 agg:Bool
 bytes:Nat
 ek:List CK
 zero:Value
 cz:List Nat
 k:TK
def TI.eqs (t:TI):Bool:=match t.ek with
 | []=> false
 | _=> true
def TI.known (t:TI):Bool:=match t.k with
 | .none_=> false
 | _=> true
def const1:Value→AV
 | .slice none 0 0=> .nl
 | .bool b=> .kb b
 | x=> .d (.v x)
def ofConst:Value→AV
 | .agg cs=> .agg (cs.toList.map const1)
 | x=> const1 x
def okConst:Value→Bool
 | .agg cs=> cs.toList.all Value.oneCell'
 | x=> x.oneCell'
def cellsOf:AV→List AV
 | .agg cs=> cs
 | v=> [v]
def isOne:AV→Bool
 | .agg _=> false
 | .tup _=> false
 | .ow _ _=> false
 | _=> true
def updT {α:Type} (f:Nat→α) (t:Nat) (v:α):Nat→α:=fun x=> bif Nat.beq x t then v else f x
def Mem.set (m:Mem) (s g:Nat) (i:Option Inst):Mem:={m with at_:=fun x y=> bif Nat.beq x s && Nat.beq y g then i else m.at_ x y}
def Mem.add (m:Mem) (s:Nat) (i:Inst):Mem:={at_:=fun x y=> bif Nat.beq x s && Nat.beq y (m.gen s + 1) then some i else m.at_ x y,gen:=updT m.gen s (m.gen s + 1)}
def unk1:AV→AV
 | .kb b=> .d (.v (.bool b))
 | v=> v
def unk:AV→AV
 | .agg cs=> .agg (cs.map unk1)
 | v=> unk1 v
def unkO:Option AV→Option AV
 | some v=> some (unk v)
 | none=> none
def rawOf (env:Nat→Option AV):Operand→Option AV
 | .tmp t=> env t
 | .const x=> bif okConst x then some (ofConst x) else none
 | .func f=> some (.fn f [])
 | .global _=> none
def rhoOf (env:Nat→Option AV) (x:Operand):Option AV:=unkO (rawOf env x)
def retO:Option AV→Step
 | some v=> .ret v
 | none=> .fail
def settle (s:Nat) (cz:List Nat):Nat→List AV→(List AV→Step)→Step
 | _,[],k=> k []
 | j,.nl::cs,k=> .new (s + 65536 * (j + 1)) (.rows (cz.getD j 0) [] false) fun g=> settle s cz (j + 1) cs fun r=> k (.row (s + 65536 * (j + 1)) g 0::r)
 | j,c::cs,k=> settle s cz (j + 1) cs fun r=> k (c::r)
def dataOf:AV→(D→Step)→Step
 | .d x,k=> k x
 | .nl,k=> k (.fz [])
 | .row s g _,k=> .rdr s g fun es=> .frz s g (k (.fz es))
 | .sub s g o n,k=> .rdr s g fun es=> .frz s g (k (.fz ((es.drop o).take n)))
 | _,_=> .fail
def dataList:List AV→(List D→Step)→Step
 | [],k=> k []
 | v::vs,k=> dataOf v fun x=> dataList vs fun xs=> k (x::xs)
def elemsOf:AV→(List (List D)→Step)→Step
 | .d (.fz es),k=> k es
 | .d (.v (.slice _ 0 _)),k=> k []
 | .nl,k=> k []
 | .row s g _,k=> .rdr s g fun es=> k es
 | .sub s g o n,k=> .rdr s g fun es=> k ((es.drop o).take n)
 | _,_=> .fail
def ldA (t:TI) (cs:List AV):Step:=bif !t.known then .fail else
 bif t.agg then (bif Nat.ble t.size cs.length then .ret (.agg (cs.take t.size)) else .fail) else match cs with
 | c::_=> .ret c
 | []=> .fail
def dv:D→AV
 | .pz cs=> .fp cs
 | x=> .d x
def ldD (t:TI) (cs:List D):Step:=bif !t.known then .fail else
 bif t.agg then (bif Nat.ble t.size cs.length then .ret (.agg ((cs.take t.size).map dv)) else .fail) else match cs with
 | c::_=> .ret (dv c)
 | []=> .fail
def over {α:Type} (cs:List α) (o:Nat) (vs:List α):List α:=cs.take o ++ vs ++ cs.drop (o + vs.length)
def overF {α:Type}:List α→Nat→List α→List α
 | [],_,_=> []
 | c::cs,0,[]=> c::cs
 | _::cs,0,v::vs=> v::overF cs 0 vs
 | c::cs,o + 1,vs=> c::overF cs o vs
theorem overF_eq {α:Type}:∀(cs:List α) (o:Nat) (vs:List α),o + vs.length≤cs.length→overF cs o vs=over cs o vs
 | [],o,vs,h=> by
  have h1:vs= []:=List.eq_nil_of_length_eq_zero (by have:=h;simp only [List.length_nil] at this;omega)
  subst h1
  simp [overF,over]
 | c::cs,0,[],_=> by simp [overF,over]
 | c::cs,0,v::vs,h=> by
  have:=overF_eq cs 0 vs (by simp only [List.length_cons] at h;omega)
  simp only [overF,this,over,List.take_zero,List.nil_append,List.length_cons,Nat.zero_add,List.drop_succ_cons,List.cons_append]
 | c::cs,o + 1,vs,h=> by
  have:=overF_eq cs o vs (by simp only [List.length_cons] at h;omega)
  simp only [overF,this,over,List.take_succ_cons,List.cons_append]
  rw [show o + 1 + vs.length=(o + vs.length) + 1 by omega,List.drop_succ_cons]
def fillA (place:Nat→Option (Nat×Nat)):List AV→List (Nat×Option AV)→Option (List AV)
 | cs,[]=> some cs
 | cs,(i,some v)::r=> match place i with
  | some (o,n)=> bif Nat.beq (cellsOf v).length n && Nat.ble (o + n) cs.length && (cellsOf v).all isOne then fillA place (overF cs o (cellsOf v)) r else none
  | none=> none
 | _,(_,none)::_=> none
def B (b:Bool):AV:= .d (.v (.bool b))
def I (n:Int):AV:= .d (.v (.int .i64 n))
def eqCell:CK→AV→AV→Option Bool
 | .i k0,.d (.v (.int k a)),.d (.v (.int k' b))=> if k=k0∧k'=k0 then some (a==b) else none
 | .b,.d (.v (.bool a)),.d (.v (.bool b))=> some (a==b)
 | .s,.d (.v (.string a)),.d (.v (.string b))=> some (a==b)
 | _,_,_=> none
def eqCells:List CK→List AV→List AV→Option Bool
 | [],[],[]=> some true
 | c::ks,x::r,y::r'=> match eqCell c x y with
  | some t=> match eqCells ks r r' with
   | some u=> some (t && u)
   | none=> none
  | none=> none
 | _,_,_=> none
def intF (op:BinOp) (k k':IntKind) (a b:Int):Step:=
  if k≠k' then .fail else match op with
  | .add=> .ret (.d (.v (.int k (k.wrap (a + b)))))
  | .sub=> .ret (.d (.v (.int k (k.wrap (a - b)))))
  | .mul=> .ret (.d (.v (.int k (k.wrap (a * b)))))
  | .quo=> .chk (b≠0) (.ret (.d (.v (.int k (k.wrap (a.tdiv b))))))
  | .rem=> .chk (b≠0) (.ret (.d (.v (.int k (a.tmod b)))))
  | .eql=> .ret (B (a==b))
  | .neq=> .ret (B (a !=b))
  | .lss=> .ret (B (decide (a < b)))
  | .leq=> .ret (B (decide (a≤b)))
  | .gtr=> .ret (B (decide (b < a)))
  | .geq=> .ret (B (decide (b≤a)))
  | _=> .fail
def binF (tk:TK) (op:BinOp) (x y:AV):Step:=
 match x,y with
 | .d (.v (.int k a)),.d (.v (.int k' b))=> match op with
  | .shr=> .chk (0≤b) (.ret (.d (.v (.int k (a.fdiv (2 ^ (min b.toNat k.bits)))))))
  | _=> intF op k k' a b
 | .d (.v (.string a)),.d (.v (.string b))=>
  match op with
  | .add=> .chk (a.size + b.size≤1000000000) (.ret (.d (.v (.string (a ++ b)))))
  | .eql=> .ret (B (a.toList==b.toList))
  | .neq=> .ret (B (!(a.toList==b.toList)))
  | .lss=> .ret (B (Op.bytesLess a.toList b.toList))
  | .leq=> .ret (B (Op.bytesLess a.toList b.toList || a.toList==b.toList))
  | .gtr=> .ret (B (!(Op.bytesLess a.toList b.toList || a.toList==b.toList)))
  | .geq=> .ret (B (!Op.bytesLess a.toList b.toList))
  | _=> .fail
 | .d (.v (.bool a)),.d (.v (.bool b))=>
  match tk with
  | .bool=> match op with
   | .eql=> .ret (B (a==b))
   | .neq=> .ret (B (!(a==b)))
   | _=> .fail
  | _=> .fail
 | _,_=> .fail
def boundO:Option (Option AV)→Int→Option Int
 | none,n=> some n
 | some (some (.d (.v (.int _ i)))),_=> some i
 | _,_=> none
def scalar:AV→Bool
 | .d (.v _)=> true
 | .tup vs=> vs.all fun v=> match v with | .d (.v _)=> true | _=> false
 | .agg vs=> vs.all fun v=> match v with | .d (.v _)=> true | _=> false
 | _=> false
def recv1 (s:Nat) (v:AV) (k:AV→Step):Step:=
 match v with
 | .ow sz es=> .new s (.rows sz es false) fun g=> k (.row s g es.length)
 | .d x=> k (.d x)
 | _=> .fail
def recvL (s:Nat):Nat→List AV→(List AV→Step)→Step
 | _,[],k=> k []
 | j,v::vs,k=> recv1 (s + 65536 * (j + 1)) v fun x=> recvL s (j + 1) vs fun r=> k (x::r)
def recvC (s:Nat):AV→(AV→Step)→Step
 | .agg cs,k=> recvL s 0 cs fun r=> k (.agg r)
 | v,k=> recv1 s v k
def recvT (s:Nat):Nat→List AV→(List AV→Step)→Step
 | _,[],k=> k []
 | j,v::vs,k=> recvC (s + 1048576 * (j + 1)) v fun x=> recvT s (j + 1) vs fun r=> k (x::r)
def recv (s:Nat):AV→(AV→Step)→Step
 | .tup vs,k=> recvT s 0 vs fun r=> k (.tup r)
 | v,k=> recvC s v k
def datasOf:List AV→Option (List D)
 | []=> some []
 | .d x::r=> match datasOf r with
  | some l=> some (x::l)
  | none=> none
 | _::_=> none
def cellL0:List AV→(List D→List (Nat×Nat)→Step)→Step
 | [],k=> k [] []
 | .d x::r,k=> cellL0 r fun ds l=> k (x::ds) l
 | .mp s g::r,k=> .rdm s g fun ck es=> cellL0 r fun ds l=> k (.mz ck es::ds) ((s,g)::l)
 | .row s g _::r,k=> .rdr s g fun es=> cellL0 r fun ds l=> k (.fz es::ds) ((s,g)::l)
 | _::_,_=> .fail
def cellL:List AV→(List D→List (Nat×Nat)→Step)→Step
 | [],k=> k [] []
 | .d x::r,k=> cellL r fun ds l=> k (x::ds) l
 | .mp s g::r,k=> .rdm s g fun ck es=> cellL r fun ds l=> k (.mz ck es::ds) ((s,g)::l)
 | .row s g _::r,k=> .rdr s g fun es=> cellL r fun ds l=> k (.fz es::ds) ((s,g)::l)
 | .lp s g o::r,k=> .rdb s g fun cs=> cellL0 (cs.drop o) fun ds0 l0=> cellL r fun ds l=> k (.pz ds0::ds) ((s,g)::(l0 ++ l))
 | .fp cs::r,k=> cellL r fun ds l=> k (.pz cs::ds) l
 | _::_,_=> .fail
def arg0:AV→(AV→List (Nat×Nat)→Step)→Step
 | .d x,k=> k (.d x) []
 | .nl,k=> k (.d (.fz [])) []
 | .row s g _,k=> .rdr s g fun es=> k (.d (.fz es)) [(s,g)]
 | .sub s g o n,k=> .rdr s g fun es=> k (.d (.fz ((es.drop o).take n))) [(s,g)]
 | .lp s g o,k=> .rdb s g fun cs=> cellL (cs.drop o) fun ds l=> k (.fp ds) ((s,g)::l)
 | .fp ds,k=> k (.fp ds) []
 | _,_=> .fail
def argL:List AV→(List AV→List (Nat×Nat)→Step)→Step
 | [],k=> k [] []
 | v::vs,k=> arg0 v fun x l=> argL vs fun xs m=> k (x::xs) (l ++ m)
def arg1 (v:AV) (k:AV→List (Nat×Nat)→Step):Step:=match v with
 | .fn f cs=> argL cs fun ys l=> k (.fn f ys) l
 | v=> arg0 v k
def argT:List (Option AV)→(List AV→List (Nat×Nat)→Step)→Step
 | [],k=> k [] []
 | some (.agg cs)::vs,k=> argL cs fun x l=> argT vs fun xs m=> k (.agg x::xs) (l ++ m)
 | some v::vs,k=> arg1 v fun x l=> argT vs fun xs m=> k (x::xs) (l ++ m)
 | none::_,_=> .fail
def arg0W:AV→(AV→List (Nat×Nat)→Step)→Step
 | .lp s g o,k=> .rdb s g fun cs=> cellL (cs.drop o) fun ds l=> k (.fp ds) ((s,g)::l)
 | v,k=> arg0 v k
def argLW:List AV→(List AV→List (Nat×Nat)→Step)→Step
 | [],k=> k [] []
 | v::vs,k=> arg0W v fun x l=> argLW vs fun xs m=> k (x::xs) (l ++ m)
def arg1W (v:AV) (k:AV→List (Nat×Nat)→Step):Step:=match v with
 | .fn f cs=> argLW cs fun ys l=> k (.fn f ys) l
 | v=> arg0 v k
def argTW:List (Option AV)→(List AV→List (Nat×Nat)→Step)→Step
 | [],k=> k [] []
 | some (.agg cs)::vs,k=> argL cs fun x l=> argTW vs fun xs m=> k (.agg x::xs) (l ++ m)
 | some v::vs,k=> arg1W v fun x l=> argTW vs fun xs m=> k (x::xs) (l ++ m)
 | none::_,_=> .fail
def frzL:List (Nat×Nat)→Step→Step
 | [],k=> k
 | (s,g)::l,k=> .frz s g (frzL l k)
def callF (s:Nat) (f:FuncId) (args:List (Option AV)):Step:=
 argT args fun xs l=> .call f xs fun r=> bif scalar r then recv s r .ret else frzL l (recv s r .ret)
def mvF (s sz:Nat):Option AV→Step
 | some .nl=> .new s (.rows sz [] false) fun g=> .ret (.row s g 0)
 | v=> retO v
def pickF:Option AV→Option AV→Option AV→Step
 | some (.kb true),a,_=> retO a
 | some (.kb false),_,b=> retO b
 | some (.d (.v (.bool t))),a,b=> .br t (retO a) (retO b)
 | _,_,_=> .fail
def boxF (t:TI) (s:Nat) (v:AV):Step:=bif (cellsOf v).all isOne then settle s t.cz 0 (cellsOf v) fun cs=> .new s (.box cs) fun g=> .ret (.lp s g 0) else .fail
def allocF (t:TI) (s:Nat):Step:=bif t.known then boxF t s (unk (ofConst t.zero)) else .fail
def boxO (t:TI) (s:Nat):Option AV→Step
 | some v=> boxF t s v
 | none=> .fail
def retA:Option (List AV)→Step
 | some cs=> .ret (.agg cs)
 | none=> .fail
def buildF (t:TI) (parts:List (Nat×Option AV)):Step:=match t.k with
 | .struct fs=> retA (fillA (fun i=> (fs[i]?).map fun f=> (f.1,f.2.2)) (cellsOf (unk (ofConst t.zero))) parts)
 | .array _ _ z=> retA (fillA (fun i=> some (i * z,z)) (cellsOf (unk (ofConst t.zero))) parts)
 | _=> .fail
def buildEs (sz n:Nat):Nat→List (Nat×Option AV)→(List (List D)→Step)→Step
 | i,[],k=> bif Nat.beq i n then k [] else .fail
 | i,(j,some v)::r,k=> bif Nat.beq i j && Nat.beq (cellsOf v).length sz && (cellsOf v).all isOne then dataList (cellsOf v) fun ds=> buildEs sz n (i + 1) r fun es=> k (ds::es) else .fail
 | _,(_,none)::_,_=> .fail
def bsliceF (te:TI) (s n:Nat) (parts:List (Nat×Option AV)):Step:=bif te.known && Nat.ble (n * te.size) 1000000 && Nat.blt 0 te.size then buildEs te.size n 0 parts fun es=> .new s (.rows te.size es false) fun g=> .ret (.row s g n) else .fail
def loadF (t:TI):Option AV→Step
 | some (.fp cs)=> ldD t cs
 | some (.lp s g o)=> .rdb s g fun cs=> ldA t (cs.drop o)
 | some (.rp s g i o)=> .rdr s g fun es=> .elem es i fun c=> ldD t (c.drop o)
 | _=> .fail
def storeF (t:TI):Option AV→Option AV→Step
 | some (.lp s g o),some v=> bif t.known && (cellsOf v).all isOne && Nat.beq (cellsOf v).length t.size then
    settle (s + 1048576 * (o + 1)) t.cz 0 (cellsOf v) fun vs=> .rdb s g fun cs=> bif Nat.ble (o + vs.length) cs.length then .wr s g (.box (over cs o vs)) (.ret (.tup [])) else .fail
   else .fail
 | some (.rp s g i o),some v=> bif t.known && (cellsOf v).all isOne && Nat.beq (cellsOf v).length t.size then
    dataList (cellsOf v) fun vs=> .rww s g fun sz es=> .elem es i fun c=> bif Nat.ble (o + vs.length) sz then .wr s g (.rows sz (es.set i (over c o vs)) false) (.ret (.tup [])) else .fail
   else .fail
 | _,_=> .fail
def bopF (t:TI) (op:BinOp):Option AV→Option AV→Step
 | some (.agg xs),some (.agg ys)=> match op,eqCells t.ek xs ys,t.eqs with
   | .eql,some b,true=> .ret (B b)
   | .neq,some b,true=> .ret (B (!b))
   | _,_,_=> .fail
 | some a,some b=> binF t.k op a b
 | _,_=> .fail
def isNilC:Operand→Bool
 | .const (.slice none 0 0)=> true
 | _=> false
def isNilP:Operand→Bool
 | .const (.pointer none)=> true
 | _=> false
def nilpF (k:TK) (op:BinOp) (x:Option AV):Step:=match k,x,op with
 | .ptr,some (.lp _ _ _),.eql=> .ret (B false)
 | .ptr,some (.lp _ _ _),.neq=> .ret (B true)
 | .ptr,some (.fp _),.eql=> .ret (B false)
 | .ptr,some (.fp _),.neq=> .ret (B true)
 | .ptr,some (.d (.v (.pointer none))),.eql=> .ret (B true)
 | .ptr,some (.d (.v (.pointer none))),.neq=> .ret (B false)
 | _,_,_=> .fail
def nilckF (x:Option AV):Step:=match x with
 | some (.lp s g o)=> .ret (.lp s g o)
 | some (.fp cs)=> .ret (.fp cs)
 | _=> .fail
def nilF (k:TK) (op:BinOp) (x:Option AV):Step:=match k,x,op with
 | .slice _ _,some (.d (.fz (_::_))),.eql=> .ret (B false)
 | .slice _ _,some (.d (.fz (_::_))),.neq=> .ret (B true)
 | .slice _ _,some (.d (.v (.slice a 0 _))),.eql=> .ret (B a.isNone)
 | .slice _ _,some (.d (.v (.slice a 0 _))),.neq=> .ret (B (!a.isNone))
 | _,_,_=> .fail
def unF:UnOp→Option AV→Step
 | .not,some (.d (.v (.bool b)))=> .ret (B (!b))
 | .neg,some (.d (.v (.int k n)))=> .ret (.d (.v (.int k (k.wrap (0 - n)))))
 | _,_=> .fail
def convF:TK→TK→Option AV→Step
 | .int _,.int k,some (.d (.v (.int _ n)))=> .ret (.d (.v (.int k (k.wrap n))))
 | .str,.str,some (.d (.v (.string a)))=> .ret (.d (.v (.string a)))
 | _,_,_=> .fail
def mfuncF (f:FuncId):List (Option AV)→Option (List AV)→Step
 | [],some cs=> .ret (.fn f cs)
 | _,_=> .fail
def sliceF (k:TK) (x:Option AV) (lo hi:Option (Option AV)):Step:=match k,x with
 | .str,some (.d (.v (.string a)))=> match boundO lo 0,boundO hi a.size with
  | some l,some h=> .chk (0≤l∧l≤h∧h≤a.size) (.ret (.d (.v (.string (a.extract l.toNat h.toNat)))))
  | _,_=> .fail
 | .slice _ z,some (.d (.fz es))=> match boundO lo 0,boundO hi es.length with
  | some l,some h=> .chk (0≤l∧l≤h∧h≤es.length∧∀c∈es,c.length=z) (.ret (.d (.fz ((es.take h.toNat).drop l.toNat))))
  | _,_=> .fail
 | .slice _ z,some (.row s g n)=> match boundO lo 0,boundO hi n with
  | some l,some h=> .chk (0≤l∧l≤h∧h≤n) (.rdz s g z (.ret (.sub s g l.toNat (h - l).toNat)))
  | _,_=> .fail
 | .slice _ z,some (.sub s g o n)=> match boundO lo 0,boundO hi n with
  | some l,some h=> .chk (0≤l∧l≤h∧h≤n) (.rdz s g z (.ret (.sub s g (o + l.toNat) (h - l).toNat)))
  | _,_=> .fail
 | _,_=> .fail
def faddrF (k:TK) (f:Nat) (x:Option AV):Step:=match k with
 | .struct fs=> match fs[f]?,x with
  | some (o',_,_ + 1),some (.lp s g o)=> .ret (.lp s g (o + o'))
  | some (o',_,_ + 1),some (.fp cs)=> .ret (.fp (cs.drop o'))
  | some (o',_,_ + 1),some (.rp s g i o)=> .ret (.rp s g i (o + o'))
  | _,_=> .fail
 | _=> .fail
def fieldF (T:Nat→TI) (k:TK) (f:Nat) (x:Option AV):Step:=match k with
 | .struct fs=> match fs[f]?,x with
  | some (o,ft,_),some (.agg cs)=> ldA (T ft) (cs.drop o)
  | _,_=> .fail
 | _=> .fail
def iaddrF (k:TK) (x ix:Option AV):Step:=match k,x,ix with
 | .array n _ z,some (.lp s g o),some (.d (.v (.int _ i)))=> .chk (0≤i∧i < n) (.ret (.lp s g (o + i.toNat * z)))
 | .array n _ z,some (.fp cs),some (.d (.v (.int _ i)))=> .chk (0≤i∧i < n) (.ret (.fp (cs.drop (i.toNat * z))))
 | .array n _ z,some (.rp s g j o),some (.d (.v (.int _ i)))=> .chk (0≤i∧i < n) (.ret (.rp s g j (o + i.toNat * z)))
 | .slice _ z,some (.d (.fz es)),some (.d (.v (.int _ i)))=> .chk (0≤i∧i < es.length) (.elem es i.toNat fun c=> .chk (c.length=z) (.ret (.fp c)))
 | .slice _ z,some (.row s g n),some (.d (.v (.int _ i)))=> .chk (0≤i∧i < n) (.rdz s g z (.ret (.rp s g i.toNat 0)))
 | .slice _ z,some (.sub s g o n),some (.d (.v (.int _ i)))=> .chk (0≤i∧i < n) (.rdz s g z (.ret (.rp s g (o + i.toNat) 0)))
 | _,_,_=> .fail
def indexF (T:Nat→TI) (k:TK) (x ix:Option AV):Step:=match k,x,ix with
 | .str,some (.d (.v (.string a))),some (.d (.v (.int _ i)))=> .chk (0≤i∧i < a.size) (.ret (.d (.v (.int .u8 (a.data.toList.getD i.toNat 0).toNat))))
 | .array n e z,some (.agg cs),some (.d (.v (.int _ i)))=> .chk (0≤i∧i < n) (ldA (T e) (cs.drop (i.toNat * z)))
 | _,_,_=> .fail
def extractF (i:Nat):Option AV→Step
 | some (.tup vs)=> retO vs[i]?
 | _=> .fail
def lenF:TK→Option AV→Step
 | .str,some (.d (.v (.string a)))=> .ret (I a.size)
 | .slice _ _,some (.d (.fz es))=> .ret (I es.length)
 | .slice _ _,some .nl=> .ret (I 0)
 | .slice _ _,some (.row _ _ n)=> .ret (I n)
 | .slice _ _,some (.sub _ _ _ n)=> .ret (I n)
 | .array n _ _,some _=> .ret (I n)
 | .map _ _,some (.mp s g)=> .rdm s g fun _ es=> .ret (I es.length)
 | .map _ _,some (.d (.mz _ es))=> .ret (I es.length)
 | _,_=> .fail
def appendF (te:TI) (s:Nat) (x y:Option AV):Step:=bif te.known && Nat.blt 0 te.size && Nat.ble te.bytes 1000 then (match x,y with
 | some .nl,some y=> elemsOf y fun es=> .chk ((∀c∈es,c.length=te.size)∧es.length≤1000000) (.new s (.rows te.size es false) fun g=> .ret (.row s g es.length))
 | some (.row s g n),some y=> elemsOf y fun es=> .chk ((∀c∈es,c.length=te.size)∧n + es.length≤1000000) (.app s g te.size es fun g'=> .ret (.row s g' (n + es.length)))
 | some (.sub s g 0 n),some y=> elemsOf y fun es=> .chk ((∀c∈es,c.length=te.size)∧n + es.length≤1000000) (.rww s g fun sz l=> .wr s g (.rows sz (l.take n) false) (.app s g te.size es fun g'=> .ret (.sub s g' 0 (n + es.length))))
 | _,_=> .fail) else .fail
def minF:Option AV→Option AV→Step
 | some (.d (.v (.int k a))),some (.d (.v (.int _ b)))=> .ret (.d (.v (.int k (if b < a then b else a))))
 | _,_=> .fail
def maxF:Option AV→Option AV→Step
 | some (.d (.v (.int k a))),some (.d (.v (.int _ b)))=> .ret (.d (.v (.int k (if a < b then b else a))))
 | _,_=> .fail
def cap1:AV→Bool
 | .d _=> true
 | .lp _ _ _=> true
 | .fp _=> true
 | _=> false
def fcallF (s:Nat) (fv:Option AV) (xs:List (Option AV)):Step:=match fv with
 | some (.fn f cs)=> bif cs.all cap1 then callF s f (xs ++ cs.map some) else .fail
 | _=> .fail
def keyEq1:Value→Value→Bool
 | .int _ a,.int _ b=> a==b
 | .string a,.string b=> a==b
 | .bool a,.bool b=> a==b
 | _,_=> false
def keyEqL:List Value→List Value→Bool
 | [],[]=> true
 | x::r,y::r'=> keyEq1 x y && keyEqL r r'
 | _,_=> false
def keyEq:Value→Value→Bool
 | .agg a,.agg b=> keyEqL a.toList b.toList
 | .int _ a,.int _ b=> a==b
 | .string a,.string b=> a==b
 | .bool a,.bool b=> a==b
 | _,_=> false
def mget (k:Value):List (Value×D)→Option D
 | []=> none
 | p::r=> bif keyEq k p.1 then some p.2 else mget k r
def mput (k:Value) (v:D):List (Value×D)→List (Value×D)
 | []=> [(k,v)]
 | p::r=> bif keyEq k p.1 then (k,v)::r else p::mput k v r
def mdel (k:Value):List (Value×D)→List (Value×D)
 | []=> []
 | p::r=> bif keyEq k p.1 then r else p::mdel k r
def ckOf:TK→Option CK
 | .int k=> some (.i k)
 | .bool=> some .b
 | .str=> some .s
 | _=> none
def isI64:CK→Bool
 | .i .i64=> true
 | _=> false
def ckOfT (T:Nat→TI) (kt:Nat):Option CK:=match (T kt).k with
 | .struct _=> bif (T kt).eqs && (T kt).ek.all isI64 then some (.st (T kt).ek.length) else none
 | k=> ckOf k
def plainL:List AV→Option (List Value)
 | []=> some []
 | .d (.v x)::r=> match plainL r with
  | some l=> some (x::l)
  | none=> none
 | _=> none
def keyV:Option AV→Option Value
 | some (.d (.v x))=> some x
 | some (.agg cs)=> match plainL cs with
  | some l=> some (.agg ⟨l⟩)
  | none=> none
 | _=> none
def i64V:Value→Bool
 | .int .i64 _=> true
 | _=> false
def ckSame:CK→CK→Bool
 | .st a,.st b=> decide (a=b)
 | .i a,.i b=> decide (a=b)
 | .b,.b=> true
 | .s,.s=> true
 | _,_=> false
def ckHas:CK→Value→Bool
 | .st n,.agg cs=> decide (cs.toList.length=n) && cs.toList.all i64V
 | .i a,.int b _=> decide (b=a)
 | .b,.bool _=> true
 | .s,.string _=> true
 | _,_=> false
def mcell:D→AV
 | .ag cs=> .agg (cs.map dv)
 | x=> dv x
def mres (ok:Bool) (x:Option D) (z:D):AV:=bif ok then .tup [mcell (x.getD z),B x.isSome] else mcell (x.getD z)
def mkmapF (T:Nat→TI) (k:TK) (s:Nat):Step:=match k with
 | .map kt _=> match ckOfT T kt with
  | some ck=> .new s (.mapi ck []) fun g=> .ret (.mp s g)
  | none=> .fail
 | _=> .fail
def zero1:Value→Option D
 | .slice none 0 0=> some (.fz [])
 | .agg _=> none
 | .tuple _=> none
 | x=> bif x.oneCell' then some (.v x) else none
def zeroC:List Value→Option (List D)
 | []=> some []
 | x::r=> match zero1 x,zeroC r with
  | some d,some ds=> some (d::ds)
  | _,_=> none
def elemD:AV→(D→Step)→Step
 | .agg cs,k=> dataList cs fun ds=> k (.ag ds)
 | v,k=> dataOf v k
def zeroO (te:TI):Option D:=match te.zero with
 | .agg cs=> (zeroC cs.toList).map .ag
 | x=> zero1 x
def lookupF (T:Nat→TI) (k:TK) (ok:Bool) (x ix:Option AV):Step:=match k,x,keyV ix with
 | .map kt et,some (.mp s g),some kv=> match ckOfT T kt,zeroO (T et) with
  | some ck,some z=> bif (T et).known && ckHas ck kv then .rdm s g fun ck' es=> bif ckSame ck ck' then .ret (mres ok (mget kv es) z) else .fail else .fail
  | _,_=> .fail
 | .map kt et,some (.d (.mz ck' es)),some kv=> match ckOfT T kt,zeroO (T et) with
  | some ck,some z=> bif (T et).known && ckHas ck kv && ckSame ck ck' then .ret (mres ok (mget kv es) z) else .fail
  | _,_=> .fail
 | _,_,_=> .fail
def mupdF (T:Nat→TI) (k:TK) (x ix v:Option AV):Step:=match k,x,keyV ix,v with
 | .map kt _,some (.mp s g),some kv,some v=> match ckOfT T kt with
  | some ck=> bif ckHas ck kv then elemD v fun d=> .rdm s g fun ck' es=> bif ckSame ck ck' then .wr s g (.mapi ck (mput kv d es)) (.ret (.tup [])) else .fail else .fail
  | none=> .fail
 | _,_,_,_=> .fail
def mdelF (T:Nat→TI) (k:TK) (x ix:Option AV):Step:=match k,x,keyV ix with
 | .map kt _,some (.mp s g),some kv=> match ckOfT T kt with
  | some ck=> bif ckHas ck kv then .rdm s g fun ck' es=> bif ckSame ck ck' then .wr s g (.mapi ck (mdel kv es)) (.ret (.tup [])) else .fail else .fail
  | none=> .fail
 | _,_,_=> .fail
def keysF (s:Nat) (f:FuncId):List (Option AV)→Step
 | [some (.mp a g)]=> .call f [.tup [.ow 0 []]] fun r=> match r with
  | .fn kf []=> .new s (.box [.mp a g]) fun g'=> .ret (.fn kf [.lp s g' 0])
  | _=> .fail
 | [some .nl,some (.d (.v (.int .i64 n)))]=> .call f [.tup [.ow 0 []],.d (.v (.int .i64 n))] fun r=> recv s r .ret
 | [some (.d (.mz ck es))]=> .call f [.tup [.ow 0 []]] fun r=> match r with
  | .fn kf []=> .new s (.box [.d (.mz ck es)]) fun g'=> .ret (.fn kf [.lp s g' 0])
  | _=> .fail
 | _=> .fail
def skeysF (s:Nat) (f:FuncId):List (Option AV)→Step
 | [some (.fn kf [.lp b g' 0])]=> .rdb b g' fun cs=> match cs with
  | [.mp a g]=> .rdm a g fun _ es=> .call f [.fn kf [.ow 1 (es.map fun p=> [.v p.1])]] fun r=> recv s r .ret
  | [.d (.mz _ es)]=> .call f [.fn kf [.ow 1 (es.map fun p=> [.v p.1])]] fun r=> recv s r .ret
  | _=> .fail
 | [some (.fn kf [.lp b g' 0]),some (.fn cf [])]=> .rdb b g' fun cs=> match cs with
  | [.mp a g]=> .rdm a g fun _ es=> .call f [.fn kf [.ow 1 (es.map fun p=> [.v p.1])],.fn cf []] fun r=> recv s r .ret
  | _=> .fail
 | _=> .fail
def ownF (T:Nat→TI) (f:Nat):Nat:=(T (1000000 + f)).bytes
def ownOf (T:Nat→TI):Operand→Nat
 | .func f=> ownF T f
 | _=> 0
def notIn (l:List (Nat×Nat)) (s g:Nat):Bool:=l.all fun p=> !(Nat.beq p.1 s && Nat.beq p.2 g)
def ownR1 (a g sz:Nat) (es:List (List D)):AV→Step
 | .ow sz' es'=> bif Nat.beq sz sz' then .chk (es'.length=es.length) (.wr a g (.rows sz es' false) (.ret (.tup []))) else .fail
 | _=> .fail
def PlainL (es:List (List D)):Prop:=∀e∈es,∀d∈e,∃x:Value,d= .v x
def ownR2 (a g sz:Nat):AV→Step
 | .tup [.ow sz' es']=> bif Nat.beq sz sz' then .chk (PlainL es') (.wr a g (.rows sz es' false) (.app a g sz [] fun g'=> .ret (.row a g' es'.length))) else .fail
 | _=> .fail
def ownCF (f:FuncId) (way:Nat):List (Option AV)→Step
 | some (.row a g _)::vs=> argTW vs fun xs l=> bif notIn l a g then (bif Nat.beq way 1 then .rww a g fun sz es=> .call f (.ow sz es::xs) (ownR1 a g sz es) else .rww a g fun sz es=> .call f (.ow sz es::xs) (ownR2 a g sz)) else .fail
 | _=> .fail
def isRowA:AV→Bool
 | .row _ _ _=> true
 | _=> false
def isNlA:AV→Bool
 | .nl=> true
 | _=> false
def boxD:List AV→(List AV→Step)→Step
 | [],k=> k []
 | .row s g _::r,k=> .rdr s g fun es=> .frz s g (boxD r fun cs=> k (.d (.fz es)::cs))
 | c::r,k=> boxD r fun cs=> k (c::cs)
def objC:List AV→Nat→(List AV→List (Nat×Nat)→List AV→Step)→Step
 | [],_,k=> k [] [] []
 | .d x::r,n,k=> objC r n fun cs l is=> k (.d x::cs) l is
 | .mp s g::r,n,k=> .rdm s g fun ck es=> objC r (n + 1) fun cs l is=> k (.mp (1000001 + n) 1::cs) ((s,g)::l) (.im ck es::is)
 | _::_,_,_=> .fail
def argS1:AV→(AV→Step)→Step
 | .lp s g o,k=> k (.lp s g o)
 | .mp s g,k=> k (.mp s g)
 | .fp cs,k=> k (.fp cs)
 | .agg cs,k=> dataList cs fun ds=> k (.agg (ds.map .d))
 | v,k=> dataOf v fun d=> k (.d d)
def argS:List (Option AV)→(List AV→Step)→Step
 | [],k=> k []
 | some v::r,k=> argS1 v fun x=> argS r fun xs=> k (x::xs)
 | none::_,_=> .fail
def isDatA:AV→Bool
 | .d _=> true
 | _=> false
def datA:AV→Bool
 | .d _=> true
 | .fp _=> true
 | .agg cs=> cs.all isDatA
 | _=> false
def objL:List AV→Nat→(List AV→List (Nat×Nat)→List AV→Step)→Step
 | [],_,k=> k [] [] []
 | .lp s g o::r,n,k=> .rdb s g fun cs=> objC cs (n + 1) fun cs' l is=> objL r (n + 1 + l.length) fun zs l' is'=> k (.lp (1000001 + n) 1 o::zs) ((s,g)::(l ++ l')) (.ib cs'::(is ++ is'))
 | .mp s g::r,n,k=> .rdm s g fun ck es=> objL r (n + 1) fun zs l' is'=> k (.mp (1000001 + n) 1::zs) ((s,g)::l') (.im ck es::is')
 | v::r,n,k=> bif datA v then objL r n fun zs l' is'=> k (v::zs) l' is' else .fail
def nodupL:List (Nat×Nat)→Bool
 | []=> true
 | p::l=> notIn l p.1 p.2 && nodupL l
def ofC (L:List (Nat×Nat)):AV→Option AV
 | .lp s g o=> bif Nat.beq g 1 && Nat.ble 1000001 s then (L[s - 1000001]?).map fun p=> .lp p.1 p.2 o else none
 | .mp s g=> bif Nat.beq g 1 && Nat.ble 1000001 s then (L[s - 1000001]?).map fun p=> .mp p.1 p.2 else none
 | .d x=> some (.d x)
 | _=> none
def ofCL (L:List (Nat×Nat)):List AV→Option (List AV)
 | []=> some []
 | a::r=> match ofC L a,ofCL L r with
  | some c,some cs=> some (c::cs)
  | _,_=> none
def instO (L:List (Nat×Nat)):AV→Option Inst
 | .ib cs=> (ofCL L cs).map .box
 | .im ck es=> some (.mapi ck es)
 | _=> none
def objN (s:Nat):Nat→List (Nat×Nat)→List AV→(List (Nat×Nat)→Step)→Step
 | _,L,[],k=> k L
 | j,L,a::r,k=> match instO L a with
  | some i=> .new (s + 268435456 * (j + 1)) i fun g=> objN s (j + 1) (L ++ [(s + 268435456 * (j + 1),g)]) r k
  | none=> .fail
def objW (L:List (Nat×Nat)):List (Nat×Nat)→List AV→Step→Step
 | [],_,k=> k
 | _::_,[],_=> .fail
 | p::l,a::is,k=> bif isNlA a then objW L l is k else match instO L a with
  | some i=> .wr p.1 p.2 i (objW L l is k)
  | none=> .fail
def objV (s:Nat) (L:List (Nat×Nat)):AV→Step
 | .lp s' g o=> retO (ofC L (.lp s' g o))
 | .mp s' g=> retO (ofC L (.mp s' g))
 | v=> recv s v .ret
def objR (s way:Nat) (l:List (Nat×Nat)):AV→Step
 | .hp (v::is)=> bif Nat.beq way 7 then (bif (is.take l.length).all isNlA then objN s 0 l (is.drop l.length) fun L=> objV s L v else .fail) else objW l l (is.take l.length) (objN s 0 l (is.drop l.length) fun L=> objV s L v)
 | _=> .fail
def objP:List (Option AV)→Step→Step
 | [],k=> k
 | some (.lp s g _)::r,k=> .rdb s g fun cs=> bif cs.any isRowA then boxD cs fun cs'=> .wr s g (.box cs') (objP r k) else objP r k
 | _::r,k=> objP r k
def objCall (s way:Nat) (f:FuncId) (xs:List (Option AV)):Step:=argS xs fun ys=> objL ys 0 fun zs l is=> bif nodupL l then .call f (.hp is::zs) (objR s way l) else .fail
def ocallF (T:Nat→TI) (s:Nat) (fv:Operand) (xs:List (Option AV)):Step:=match fv with
 | .func f=> bif Nat.beq (ownF T f) 3 then keysF s f xs else bif Nat.beq (ownF T f) 4 then skeysF s f xs else bif Nat.beq (ownF T f) 7 then objCall s 7 f xs else bif Nat.beq (ownF T f) 6 then objP xs (objCall s 6 f xs) else ownCF f (ownF T f) xs
 | _=> .fail
def datasZ:List AV→Option (List D)
 | []=> some []
 | .d x::r=> match datasZ r with
  | some l=> some (x::l)
  | none=> none
 | .nl::r=> match datasZ r with
  | some l=> some (.fz []::l)
  | none=> none
 | _::_=> none
def zeroD (te:TI):Option (List D):=datasZ (cellsOf (unk (ofConst te.zero)))
def makesF (te:TI) (s:Nat) (l c:Option AV):Step:=bif te.known && Nat.blt 0 te.size && Nat.ble te.size 16 && Nat.ble te.bytes 1000 then (match l,c,zeroD te with
 | some (.d (.v (.int _ n))),some (.d (.v (.int _ c))),some z=> .chk (0≤n∧n≤c∧c≤1000000) (.new s (.rows te.size (List.replicate n.toNat z) false) fun g=> .ret (.row s g n.toNat))
 | _,_,_=> .fail) else .fail
def copyF (te:TI) (x y:Option AV):Step:=bif te.known && Nat.blt 0 te.size then (match x,y with
 | some (.row s g _),some y=> elemsOf y fun xs=> .chk (∀c∈xs,c.length=te.size) (.rww s g fun sz es=> bif Nat.beq sz te.size then .wr s g (.rows sz (xs.take es.length ++ es.drop xs.length) false) (.ret (I (Nat.min xs.length es.length))) else .fail)
 | _,_=> .fail) else .fail
def clearF (te:TI) (x:Option AV):Step:=bif te.known && Nat.blt 0 te.size then (match x,zeroD te with
 | some (.row s g n),some z=> .rww s g fun sz _=> bif Nat.beq sz te.size then .wr s g (.rows sz (List.replicate n z) false) (.ret (.tup [])) else .fail
 | some (.sub s g q n),some z=> .rww s g fun sz es=> bif Nat.beq sz te.size then .wr s g (.rows sz (es.take q ++ List.replicate n z ++ es.drop (q + n)) false) (.ret (.tup [])) else .fail
 | _,_=> .fail) else .fail
def opF (T:Nat→TI) (base:Nat) (env:Nat→Option AV) (o:Oper):Step:=
 match o.op with
 | .move x=> mvF (base + o.dst.getD 0) ((T o.type).cz.getD 0 0) (rawOf env x)
 | .assign x=> mvF (base + o.dst.getD 0) ((T o.type).cz.getD 0 0) (rawOf env x)
 | .pick c a b=> pickF (rawOf env c) (rawOf env a) (rawOf env b)
 | .alloc e=> allocF (T e) (base + o.dst.getD 0)
 | .box e x=> boxO (T e) (base + o.dst.getD 0) (rhoOf env x)
 | .build t parts=> buildF (T t) (parts.toList.map fun p=> (p.1,rhoOf env p.2))
 | .buildSlice t n parts=> match (T t).k with
  | .slice e _=> bsliceF (T e) (base + o.dst.getD 0) n (parts.toList.map fun p=> (p.1,rhoOf env p.2))
  | _=> .fail
 | .load t a=> loadF (T t) (rhoOf env a)
 | .store t a x=> storeF (T t) (rhoOf env a) (rhoOf env x)
 | .nilCheck x=> nilckF (rhoOf env x)
 | .binOp op t x y _=> bif isNilP y then nilpF (T t).k op (rhoOf env x) else bif isNilC y then nilF (T t).k op (rhoOf env x) else bopF (T t) op (rhoOf env x) (rhoOf env y)
 | .unOp op _ x=> unF op (rhoOf env x)
 | .convert src dst x=> convF (T src).k (T dst).k (rhoOf env x)
 | .makeFunc (.func f) first cap=> mfuncF f (first.toList.map (rhoOf env)) (cap.toList.mapM (rhoOf env))
 | .slice t x lo hi none=> sliceF (T t).k (rhoOf env x) (lo.map (rhoOf env)) (hi.map (rhoOf env))
 | .fieldAddr t x f=> faddrF (T t).k f (rhoOf env x)
 | .field t x f=> fieldF T (T t).k f (rhoOf env x)
 | .indexAddr t x ix=> iaddrF (T t).k (rhoOf env x) (rhoOf env ix)
 | .index t x ix=> indexF T (T t).k (rhoOf env x) (rhoOf env ix)
 | .extract x i=> extractF i (rhoOf env x)
 | .call {callee:= .builtin .len,args:=⟨[x]⟩,argTypes:=⟨[t]⟩}=> lenF (T t).k (rhoOf env x)
 | .call {callee:= .builtin .append,args:=⟨[x,y]⟩,argTypes:=⟨[t,t']⟩}=> match (T t).k with
  | .slice e _=> bif Nat.beq t t' then appendF (T e) (base + o.dst.getD 0) (rhoOf env x) (rhoOf env y) else .fail
  | _=> .fail
 | .call {callee:= .builtin .copy,args:=⟨[x,y]⟩,argTypes:=⟨[t,t']⟩}=> match (T t).k with
  | .slice e _=> bif Nat.beq t t' then copyF (T e) (rhoOf env x) (rhoOf env y) else .fail
  | _=> .fail
 | .call {callee:= .builtin .clear,args:=⟨[x]⟩,argTypes:=⟨[t]⟩}=> match (T t).k with
  | .slice e _=> clearF (T e) (rhoOf env x)
  | _=> .fail
 | .makeSlice t l c=> match (T t).k with
  | .slice e _=> makesF (T e) (base + o.dst.getD 0) (rhoOf env l) (rhoOf env c)
  | _=> .fail
 | .makeMap t none=> mkmapF T (T t).k (base + o.dst.getD 0)
 | .lookup t x k ok=> lookupF T (T t).k ok (rhoOf env x) (rhoOf env k)
 | .mapUpdate t m k x=> mupdF T (T t).k (rhoOf env m) (rhoOf env k) (rhoOf env x)
 | .insert t m k x=> mupdF T (T t).k (rhoOf env m) (rhoOf env k) (rhoOf env x)
 | .call {callee:= .builtin .delete,args:=⟨[x,k]⟩,argTypes:=⟨[t,_]⟩}=> mdelF T (T t).k (rhoOf env x) (rhoOf env k)
 | .call {callee:= .builtin .min,args:=⟨[x,y]⟩,.. }=> minF (rhoOf env x) (rhoOf env y)
 | .call {callee:= .builtin .max,args:=⟨[x,y]⟩,.. }=> maxF (rhoOf env x) (rhoOf env y)
 | .call {callee:= .value fv,args:=xs,.. }=> bif Nat.beq (ownOf T fv) 0 then fcallF (base + o.dst.getD 0) (rhoOf env fv) (xs.toList.map (rhoOf env)) else ocallF T (base + o.dst.getD 0) fv (xs.toList.map (rhoOf env))
 | _=> .fail
structure IFp (b:Bool) (X Y:Prop):Prop where
 t:b=true→X
 f:b=false→Y
def Step.wp (F:FuncId→List AV→AV→Prop):Step→Mem→(AV→Mem→Prop)→Prop
 | .ret v,m,K=> K v m
 | .rdb s g k,m,K=> match m.at_ s g with
  | some (.box cs)=> (k cs).wp F m K
  | _=> False
 | .rdr s g k,m,K=> match m.at_ s g with
  | some (.rows _ es _)=> (k es).wp F m K
  | _=> False
 | .rdm s g k,m,K=> match m.at_ s g with
  | some (.mapi ck es)=> (k ck es).wp F m K
  | _=> False
 | .rww s g k,m,K=> match m.at_ s g with
  | some (.rows sz es false)=> (k sz es).wp F m K
  | _=> False
 | .rdz s g z k,m,K=> match m.at_ s g with
  | some (.rows sz _ _)=> bif Nat.beq sz z then k.wp F m K else False
  | _=> False
 | .wr s g i k,m,K=> k.wp F (m.set s g (some i)) K
 | .new s i k,m,K=> (k (m.gen s + 1)).wp F (m.add s i) K
 | .app s g sz xs k,m,K=> match m.at_ s g with
  | some (.rows sz' es false)=> bif Nat.beq sz sz' then (k (m.gen s + 1)).wp F ((m.set s g none).add s (.rows sz (es ++ xs) false)) K else False
  | _=> False
 | .frz s g k,m,K=> match m.at_ s g with
  | some (.rows sz es _)=> k.wp F (m.set s g (some (.rows sz es true))) K
  | _=> False
 | .elem es i k,m,K=> ∃c,es[i]? =some c∧(k c).wp F m K
 | .call f args k,m,K=> ∃r,F f args r∧(k r).wp F m K
 | .chk p k,m,K=> p∧k.wp F m K
 | .br b x y,m,K=> IFp b (x.wp F m K) (y.wp F m K)
 | .fail,_,_=> False
open Go.RowKit
def putE (env:Nat→Option AV) (dst:Option Tmp) (v:AV):Nat→Option AV:=
 match dst with
 | some d=> updT env d (some v)
 | none=> env
def gdst (ops:List Oper) (j:Nat):Option Tmp:=match ops[j]? with
 | some o=> o.dst
 | none=> none
def TK.isMap:TK→Bool
 | .map _ _=> true
 | _=> false
def opKind (T:Nat→TI):Op→Nat
 | .pick .. => 0
 | .build .. => 0
 | .binOp .. => 0
 | .unOp .. => 0
 | .nilCheck .. => 0
 | .convert .. => 0
 | .makeFunc .. => 0
 | .fieldAddr .. => 0
 | .field .. => 0
 | .index .. => 0
 | .extract .. => 0
 | .call {callee:= .builtin .len,argTypes:=ts,.. }=> bif ts.toList.any fun t=> (T t).k.isMap then 1 else 0
 | .call {callee:= .builtin .min,.. }=> 0
 | .call {callee:= .builtin .max,.. }=> 0
 | .move .. => 1
 | .assign .. => 1
 | .load .. => 1
 | .alloc .. => 1
 | .box .. => 1
 | .buildSlice .. => 1
 | .slice .. => 1
 | .indexAddr .. => 1
 | .lookup .. => 1
 | .makeMap _ none=> 1
 | .call {callee:= .value fv,.. }=> bif Nat.beq (ownOf T fv) 0 || Nat.beq (ownOf T fv) 7 then 1 else 2
 | _=> 2
def smallDst (o:Oper):Bool:=match o.dst with
 | some d=> Nat.blt d 65536
 | none=> true
def pairOk (T:Nat→TI) (ops:Array Oper) (b:Array Nat) (i j:Nat):Bool:=
 (b.getD j 0).testBit i || match ops[i]?,ops[j]? with
  | some x,some y=> x.apart ops y && (Nat.beq (opKind T x.op) 0 || Nat.beq (opKind T y.op) 0 || (Nat.beq (opKind T x.op) 1 && Nat.beq (opKind T y.op) 1 && x.dst.isSome && y.dst.isSome && smallDst x && smallDst y))
  | _,_=> false
def drawOk (T:Nat→TI) (ops:Array Oper):Bool:=let b:=Region.before ops
 (List.range ops.size).all fun j=> ((ops[j]?).any fun o=> o.after.all fun e=> !Region.binds .any e || Nat.blt e.on j) && (List.range j).all fun i=> pairOk T ops b i j
def isApp:Op→Bool
 | .call {callee:= .builtin .append,.. }=> true
 | _=> false
def appTmp (o:Oper):Option Operand:=match o.op with
 | .call {callee:= .builtin .append,args:=⟨x::_⟩,.. }=> some x
 | _=> none
def rootOf (ops:List Oper):Nat→Tmp→Option Nat
 | 0,_=> none
 | n + 1,t=> match ops.find? (fun o=> match o.dst with
   | some d=> Nat.beq d t
   | none=> false) with
  | none=> none
  | some o=> match o.op with
   | .buildSlice .. => some t
   | _=> match appTmp o with
    | some (.tmp u)=> rootOf ops n u
    | _=> none
def appRoot (ops:List Oper) (o:Oper):Option Nat:=match appTmp o with
 | some (.tmp u)=> rootOf ops ops.length u
 | _=> none
def isSt:Op→Bool
 | .store .. => true
 | _=> false
def hasSt (ops:List Oper):Bool:=ops.dropLast.any fun o=> isSt o.op
def isMvLd:Op→Bool
 | .move .. => true
 | .assign .. => true
 | .load .. => true
 | _=> false
def isDat:AV→Bool
 | .d _=> true
 | _=> false
def isRp:AV→Bool
 | .rp _ _ _ _=> true
 | _=> false
def isBx:AV→Bool
 | .lp _ _ _=> true
 | .fp _=> true
 | _=> false
def addrRoot (ops:List Oper):Nat→Tmp→Tmp
 | 0,t=> t
 | n + 1,t=> match ops.find? (fun o=> match o.dst with
   | some d=> Nat.beq d t
   | none=> false) with
  | none=> t
  | some o=> match o.op with
   | .fieldAddr _ (.tmp u) _=> addrRoot ops n u
   | .move (.tmp u)=> addrRoot ops n u
   | .nilCheck (.tmp u)=> addrRoot ops n u
   | _=> t
def stRoots (ops:List Oper):List Tmp:=ops.filterMap fun o=> match o.op with
 | .store _ (.tmp u) _=> some (addrRoot ops ops.length u)
 | _=> none
def lpIn (R:List Nat):AV→Bool
 | .lp s _ _=> R.any fun r=> Nat.beq r s
 | _=> false
def siteL (ops:List Oper) (env:Nat→Option AV) (o:Oper):Bool:=bif hasSt ops then (match o.op with
 | .store _ a x=> (rhoOf env a).any (fun v=> isRp v || lpIn (stRoots ops) v) && (rhoOf env x).any fun v=> (cellsOf v).all isDat
 | .load _ a=> (rhoOf env a).any fun v=> isBx v && !lpIn (stRoots ops) v
 | _=> true) else true
def siteA (base:Nat) (ops:List Oper) (env:Nat→Option AV) (o:Oper):Bool:=bif isApp o.op then (match appTmp o with
 | some x=> match rhoOf env x with
  | some (.row s _ _)=> (match appRoot ops o with
   | some d=> Nat.beq s (base + d)
   | none=> true)
  | some .nl=> false
  | some (.sub _ _ _ _)=> false
  | _=> true
 | none=> false) else true
def quiet (ops:List Oper):Bool:= !(ops.any fun o=> isApp o.op) && !(hasSt ops)
def isPu:Op→Bool
 | .move _=> true
 | .assign _=> true
 | .load .. => true
 | .indexAddr .. => true
 | _=> false
def isTm:Op→Bool
 | .move (.tmp _)=> true
 | _=> false
def quietP (ops:List Oper) (o:Oper):Bool:=(quiet ops && isPu o.op || isTm o.op) && o.guard.isNone
def notNl:AV→Bool
 | .nl=> false
 | _=> true
def isFp:AV→Bool
 | .fp _=> true
 | _=> false
def isFz:AV→Bool
 | .d (.fz _)=> true
 | _=> false
def pureAt (env:Nat→Option AV) (o:Oper):Bool:=match o.op with
 | .move x=> (rawOf env x).any notNl
 | .assign x=> (rawOf env x).any notNl
 | .load _ a=> (rhoOf env a).any isFp
 | .indexAddr _ x _=> (rhoOf env x).any isFz
 | _=> false
def siteQ (ops:List Oper) (env:Nat→Option AV) (o:Oper):Bool:=bif quietP ops o then pureAt env o else true
def siteB (base:Nat) (ops:List Oper) (env:Nat→Option AV) (o:Oper):Bool:=siteL ops env o && siteA base ops env o && siteQ ops env o
def pairC (T:Nat→TI) (ops:Array Oper) (b:Array Nat) (i j:Nat):Bool:=
 pairOk T ops b i j || match ops[i]?,ops[j]? with
  | some x,some y=> x.apart ops y && isApp x.op && Nat.beq (opKind T y.op) 1 && (match appRoot ops.toList x,y.dst with
   | some d,some e=> Nat.blt d 65536 && Nat.blt e 65536 && !Nat.beq d e
   | _,_=> false) || (x.apart ops y && isSt x.op && isMvLd y.op && hasSt ops.toList) || (x.apart ops y && quietP ops.toList y)
  | _,_=> false
def pairsC (T:Nat→TI) (ops:Array Oper) (b:Array Nat):List Nat→Bool
 | []=> true
 | i::r=> Nat.blt i ops.size && (r.all fun j=> !Nat.beq i j && pairC T ops b i j) && pairsC T ops b r
def drawOkC (T:Nat→TI) (ops:Array Oper) (c:List Nat):Bool:=let b:=Region.before ops
 ((List.range ops.size).all fun j=> ((ops[j]?).any fun o=> o.after.all fun e=> !Region.binds .any e || Nat.blt e.on j) && c.contains j) && (Nat.ble c.length ops.size && pairsC T ops b c)
section
variable (T : Nat → TI) (base nt : Nat) (F : FuncId → List AV → AV → Prop)
def dstOk (o:Oper):Bool:=match o.dst with
 | some d=> Nat.blt d nt
 | none=> true
def runL (ops:List Oper):List Oper→ASt→(ASt→Prop)→Prop
 | [],st,K=> K st
 | o::r,st,K=> bif !dstOk nt o then False else match o.guard with
  | none=> (opF T base st.env o).wp F st.m fun v m=> runL ops r ⟨putE st.env o.dst v,m⟩ K
  | some (j,want)=> match gdst ops j with
   | none=> False
   | some t=> match st.env t with
    | some (.kb true)=> bif want then (opF T base st.env o).wp F st.m fun v m=> runL ops r ⟨putE st.env o.dst v,m⟩ K else runL ops r ⟨putE st.env o.dst (.tup []),st.m⟩ K
    | some (.kb false)=> bif want then runL ops r ⟨putE st.env o.dst (.tup []),st.m⟩ K else (opF T base st.env o).wp F st.m fun v m=> runL ops r ⟨putE st.env o.dst v,m⟩ K
    | some (.d (.v (.bool b)))=> bif want
     then IFp b ((opF T base (updT st.env t (some (.kb true))) o).wp F st.m fun v m=> runL ops r ⟨putE (updT st.env t (some (.kb true))) o.dst v,m⟩ K) (runL ops r ⟨putE (updT st.env t (some (.kb false))) o.dst (.tup []),st.m⟩ K)
     else IFp b (runL ops r ⟨putE (updT st.env t (some (.kb true))) o.dst (.tup []),st.m⟩ K) ((opF T base (updT st.env t (some (.kb false))) o).wp F st.m fun v m=> runL ops r ⟨putE (updT st.env t (some (.kb false))) o.dst v,m⟩ K)
    | some (.tup [])=> runL ops r ⟨putE st.env o.dst (.tup []),st.m⟩ K
    | _=> False
def runC (ops:Array Oper):List Nat→ASt→(ASt→Prop)→Prop
 | [],st,K=> K st
 | i::r,st,K=> match ops[i]? with
  | none=> False
  | some o=> siteB base ops.toList st.env o=true∧runL T base nt F ops.toList [o] st fun st'=> runC ops r st' K
inductive Ex where
 | normal | exit (id:Nat) | ret
def lookE:List (Nat×AV)→Nat→Option AV
 | [],_=> none
 | (t,v)::r,x=> bif Nat.beq x t then some v else lookE r x
def lookM:List (Nat×Inst)→Nat→Option Inst
 | [],_=> none
 | (t,v)::r,x=> bif Nat.beq x t then some v else lookM r x
def mkSt (E:List (Nat×AV)) (M:List (Nat×Inst)):ASt:=⟨lookE E,fun s g=> bif Nat.beq g 1 then lookM M s else none,fun _=> 1⟩
def sig:List (Nat×Nat×Nat)→Nat→Nat×Nat
 | [],x=> (x,1)
 | (l,p)::r,x=> bif Nat.beq x l then p else sig r x
def ren1 (σ:List (Nat×Nat×Nat)):AV→AV
 | .lp s _ o=> .lp (sig σ s).1 (sig σ s).2 o
 | .rp s _ i o=> .rp (sig σ s).1 (sig σ s).2 i o
 | .row s _ n=> .row (sig σ s).1 (sig σ s).2 n
 | .sub s _ o n=> .sub (sig σ s).1 (sig σ s).2 o n
 | .mp s _=> .mp (sig σ s).1 (sig σ s).2
 | v=> v
def low1:AV→Bool
 | .lp _ g _=> Nat.beq g 1
 | .rp _ g _ _=> Nat.beq g 1
 | .row _ g _=> Nat.beq g 1
 | .sub _ g _ _=> Nat.beq g 1
 | .mp _ g=> Nat.beq g 1
 | .d _=> true
 | .nl=> true
 | .fp _=> true
 | _=> false
def lowV:AV→Bool
 | .agg cs=> cs.all low1
 | .tup cs=> cs.all low1
 | .fn _ cs=> cs.all low1
 | v=> low1 v
def renV (σ:List (Nat×Nat×Nat)):AV→AV
 | .agg cs=> .agg (cs.map (ren1 σ))
 | .tup cs=> .tup (cs.map (ren1 σ))
 | .fn f cs=> .fn f (cs.map (ren1 σ))
 | v=> ren1 σ v
def renI (σ:List (Nat×Nat×Nat)):Inst→Inst
 | .box cs=> .box (cs.map (ren1 σ))
 | i=> i
def lowI:Inst→Bool
 | .box cs=> cs.all low1
 | _=> true
def viewA (m:Mem) (v x:AV):AV:=match v with
 | .sub _ _ _ _=> match x with
  | .row s g n=> .sub s g 0 n
  | x=> x
 | .d (.fz _)=> match x with
  | .row s g n=> match m.at_ s g with
   | some (.rows _ es true)=> .d (.fz es)
   | _=> .row s g n
  | .sub s g o n=> match m.at_ s g with
   | some (.rows _ es true)=> .d (.fz ((es.drop o).take n))
   | _=> .sub s g o n
  | .nl=> .d (.fz [])
  | x=> x
 | _=> x
def viewL (m:Mem):List AV→List AV→List AV
 | v::vs,x::xs=> viewA m v x::viewL m vs xs
 | _,xs=> xs
def viewV (m:Mem) (v x:AV):AV:=match v with
 | .agg vs=> match x with
  | .agg xs=> .agg (viewL m vs xs)
  | x=> x
 | v=> viewA m v x
def viewI (m:Mem) (v x:Inst):Inst:=match v with
 | .box vs=> match x with
  | .box xs=> .box (viewL m vs xs)
  | x=> x
 | _=> x
def mapO {α β:Type} (f:α→β):Option α→Option β
 | some x=> some (f x)
 | none=> none
def chkE (σ:List (Nat×Nat×Nat)) (st:ASt):List (Nat×AV)→Prop
 | []=> True
 | (t,v)::r=> bif lowV v then mapO (viewV st.m v) (unkO (st.env t))=some (renV σ v)∧chkE σ st r else False
def chkM (σ:List (Nat×Nat×Nat)) (st:ASt):List (Nat×Inst)→Prop
 | []=> True
 | (s,i)::r=> bif lowI i then mapO (viewI st.m i) (st.m.at_ (sig σ s).1 (sig σ s).2)=some (renI σ i)∧chkM σ st r else False
def pinS (σ:List (Nat×Nat×Nat)):Bool:=σ.all fun p=> Nat.ble p.1 1000000
def sepM (σ:List (Nat×Nat×Nat)):List (Nat×Inst)→Bool
 | []=> pinS σ
 | (l,_)::r=> r.all (fun q=> !(Nat.beq (sig σ l).1 (sig σ q.1).1 && Nat.beq (sig σ l).2 (sig σ q.1).2)) && sepM σ r
def frzM (m:Mem):List (Nat×Nat)→Option Mem
 | []=> some m
 | (s,g)::r=> match m.at_ s g with
  | some (.rows sz es _)=> frzM (m.set s g (some (.rows sz es true))) r
  | _=> none
def Enters (st:ASt) (E:List (Nat×AV)) (M:List (Nat×Inst)):Prop:=∃fl σ,match frzM st.m fl with
 | some m=> sepM σ M=true∧chkE σ ⟨st.env,m⟩ E∧chkM σ ⟨st.env,m⟩ M
 | none=> False
structure LoopP (body:ASt→(Ex→ASt→Prop)→Prop) (st:ASt) (Q:Ex→ASt→Prop):Prop where
 h:∃(X:Type) (E:X→List (Nat×AV)) (M:X→List (Nat×Inst)) (J:Nat→X→Prop),
  (∃n x,J n x∧Enters st (E x) (M x))∧
  ∀n x,J n x→body (mkSt (E x) (M x)) fun e st'=> match e with
   | .normal=> ∃x',(∃m,m < n∧J m x')∧Enters st' (E x') (M x')
   | e=> Q e st'
structure SeqP (x:(Ex→ASt→Prop)→Prop) (y:ASt→(Ex→ASt→Prop)→Prop) (Q:Ex→ASt→Prop):Prop where
 h:∃(X:Type) (E:X→List (Nat×AV)) (M:X→List (Nat×Inst)) (J:X→Prop),
  (x fun e st'=> match e with
   | .normal=> ∃z,J z∧Enters st' (E z) (M z)
   | e=> Q e st')∧
  ∀z,J z→y (mkSt (E z) (M z)) Q
def firstR:Code→Option Nat
 | .region i _ _=> some i
 | .seq a b=> match firstR a with
  | some i=> some i
  | none=> firstR b
 | .cond _ a b=> match firstR a with
  | some i=> some i
  | none=> firstR b
 | .block _ c=> firstR c
 | .loop c=> firstR c
 | _=> none
def memN:List Nat→Nat→Bool
 | [],_=> false
 | a::r,x=> bif Nat.beq a x then true else memN r x
def joinAt (js:List Nat) (c:Code):Bool:=match firstR c with
 | some i=> memN js i
 | none=> false
variable (js : List Nat)
def AW:Code→ASt→(Ex→ASt→Prop)→Prop
 | .skip,st,Q=> Q .normal st
 | .region _ ops false,st,Q=> runL T base nt F ops.toList ops.toList st (Q .normal)
 | .region _ ops true,st,Q=> (drawOk T ops=true∧runL T base nt F ops.toList ops.toList st (Q .normal))∨∃c,drawOkC T ops c=true∧runC T base nt F ops c st (Q .normal)
 | .seq a b,st,Q=> bif joinAt js b then SeqP (AW a st) (AW b) Q else AW a st fun e st'=> match e with
  | .normal=> AW b st' Q
  | e=> Q e st'
 | .cond c x y,st,Q=> match rawOf st.env c with
  | some (.kb true)=> AW x st Q
  | some (.kb false)=> AW y st Q
  | some (.d (.v (.bool b)))=> IFp b (AW x st Q) (AW y st Q)
  | _=> False
 | .block id c,st,Q=> AW c st fun e st'=> match e with
  | .exit i=> bif Nat.beq i id then Q .normal st' else Q (.exit i) st'
  | e=> Q e st'
 | .loop c,st,Q=> LoopP (AW c) st Q
 | .exit id,st,Q=> Q (.exit id) st
 | .ret,st,Q=> Q .ret st
 | _,_,_=> False
end
def unused (used:List (Nat×Nat)) (s g:Nat):Bool:=used.all fun p=> !(Nat.beq p.1 s && Nat.beq p.2 g)
def ret1 (m:Mem) (used:List (Nat×Nat)) (v r:AV) (K:List (Nat×Nat)→Prop):Prop:=
 match r with
 | .ow sz es=> match v with
  | .nl=> es= []∧K used
  | .row s g _=> match m.at_ s g with
   | some (.rows sz' es' false)=> bif unused used s g then es'=es∧sz'=sz∧K ((s,g)::used) else False
   | _=> False
  | _=> False
 | .d x=> match v with
  | .d y=> y=x∧K used
  | .nl=> x= .fz []∧K used
  | .row s g _=> match m.at_ s g with
   | some (.rows _ es' _)=> bif unused used s g then x= .fz es'∧K ((s,g)::used) else False
   | _=> False
  | .sub s g o n=> match m.at_ s g with
   | some (.rows _ es' _)=> bif unused used s g then x= .fz ((es'.drop o).take n)∧K ((s,g)::used) else False
   | _=> False
  | _=> False
 | _=> False
def retL (m:Mem):List (Nat×Nat)→List AV→List AV→(List (Nat×Nat)→Prop)→Prop
 | used,[],[],K=> K used
 | used,v::vs,r::rs,K=> ret1 m used v r fun used=> retL m used vs rs K
 | _,_,_,_=> False
def retC (m:Mem) (used:List (Nat×Nat)) (v r:AV) (K:List (Nat×Nat)→Prop):Prop:=
 match r with
 | .agg rs=> match v with
  | .agg vs=> retL m used vs rs K
  | _=> False
 | r=> ret1 m used v r K
def retT (m:Mem):List (Nat×Nat)→List AV→List AV→(List (Nat×Nat)→Prop)→Prop
 | used,[],[],K=> K used
 | used,v::vs,r::rs,K=> retC m used v r fun used=> retT m used vs rs K
 | _,_,_,_=> False
def valR (T:Nat→TI) (st:ASt):ResultVar→(AV→Prop)→Prop
 | .tmp t,K=> match st.env t with
  | some v=> K (unk v)
  | none=> False
 | .cell t ty,K=> match st.env t with
  | some (.lp s g o)=> match st.m.at_ s g with
   | some (.box cs)=> match ldA (T ty) (cs.drop o) with
    | .ret v=> K v
    | _=> False
   | _=> False
  | _=> False
def valL (T:Nat→TI) (st:ASt):List ResultVar→(List AV→Prop)→Prop
 | [],K=> K []
 | x::xs,K=> valR T st x fun v=> valL T st xs fun vs=> K (v::vs)
def RetP (T:Nat→TI) (rs:List ResultVar) (r:AV) (st:ASt):Prop:=valL T st rs fun vs=> match vs with
 | [v]=> retC st.m [] v r fun _=> True
 | vs=> match r with
  | .tup ps=> retT st.m [] vs ps fun _=> True
  | _=> False
def nthA:List AV→Nat→Option AV
 | [],_=> none
 | v::_,0=> some v
 | _::vs,n + 1=> nthA vs n
def st0 (args:List AV):ASt:=⟨nthA args,fun _ _=> none,fun _=> 0⟩
def EndP (T:Nat→TI) (rs:List ResultVar) (r:AV):Ex→ASt→Prop
 | .normal,st=> RetP T rs r st
 | .ret,st=> RetP T rs r st
 | .exit _,_=> False
end Go.Proofs.YtmgcnoigihdhpaaGreatDoor
namespace Go.Proofs.YtmgcnoigihdhpaaGreatDoor
open Go.RowKit
inductive RelD (S:Nat→Prop) (w:World):D→Value→Prop
 | v (x:Value) (h:x.oneCell'=true):RelD S w (.v x) x
 | fz0 (A:Option Addr) (c:Nat) (h:A=none→c=0):RelD S w (.fz []) (.slice A 0 c)
 | fz (es:List (List D)) (b o sz c:Nat) (vs:Nat→Value) (hs:∀e∈es,e.length=sz) (hb:S b) (hcap:es.length≤c)
   (hc:∀j,j < es.length * sz→w.cell? ⟨b,o + j,none⟩=some (vs j))
   (hr:∀(i j:Nat) (e:List D) (x:D),es[i]? =some e→e[j]? =some x→RelD S w x (vs (i * sz + j))):RelD S w (.fz es) (.slice (some ⟨b,o,none⟩) es.length c)
 | mz (ck:CK) (es:List (Value×D)) (b:Nat) (ents:Array MapEntry) (clock:Nat) (vs:Nat→Array Value) (hb:S b) (hh:w.heap[b]? =some (.map ents clock)) (hst:MapKept.Stamped ents clock) (hl:ents.size=es.length)
   (hk:∀(j:Nat) (p:Value×D) (e:MapEntry),es[j]? =some p→ents[j]? =some e→e.key=p.1∧ckHas ck p.1=true)
   (h1:∀(j:Nat) (p:Value×D) (e:MapEntry),es[j]? =some p→ents[j]? =some e→(∀cs,p.2≠ .ag cs)→RelD S w p.2 e.val)
   (h2:∀(j:Nat) (p:Value×D) (e:MapEntry) (cs:List D),es[j]? =some p→ents[j]? =some e→p.2= .ag cs→e.val= .agg (vs j)∧(vs j).size=cs.length)
   (h3:∀(j:Nat) (p:Value×D) (cs:List D) (i:Nat) (x:D) (y:Value),es[j]? =some p→p.2= .ag cs→cs[i]? =some x→(vs j)[i]? =some y→RelD S w x y):RelD S w (.mz ck es) (.map (some b))
 | pz (cs:List D) (b o:Nat) (vs:Nat→Value) (hb:S b) (hc:∀j,j < cs.length→w.cell? ⟨b,o + j,none⟩=some (vs j)) (hr:∀(j:Nat) (x:D),cs[j]? =some x→RelD S w x (vs j)):RelD S w (.pz cs) (.pointer (some ⟨b,o,none⟩))
theorem RelD.one {S:Nat→Prop} {w:World} {x:D} {v:Value} (h:RelD S w x v):v.oneCell'=true:=by
 cases h with
 | v _ h=> exact h
 | fz0=> rfl
 | fz=> rfl
 | mz=> rfl
 | pz=> rfl
theorem RelD.mono {S S':Nat→Prop} {w w':World} (hS:∀b,S b→S' b) (hw:∀b,S b→w'.heap[b]? =w.heap[b]?) {x:D} {v:Value} (h:RelD S w x v):RelD S' w' x v:=by
 induction h with
 | v x h=> exact .v x h
 | fz0 A c h=> exact .fz0 A c h
 | fz es b o sz c vs hs hb hcap hc hr ih=> exact .fz es b o sz c vs hs (hS b hb) hcap (fun j hj=> by rw [World.cell?_of_block (w:=w) (hw b hb)];exact hc j hj) ih
 | mz ck es b ents clock vs hb hh hst hl hk h1 h2 h3 ih1 ih3=> exact .mz ck es b ents clock vs (hS b hb) (by rw [hw b hb];exact hh) hst hl hk ih1 h2 ih3
 | pz cs b o vs hb hc hr ih=> exact .pz cs b o vs (hS b hb) (fun j hj=> by rw [World.cell?_of_block (w:=w) (hw b hb)];exact hc j hj) ih
def RelE (S:Nat→Prop) (w:World) (d:D) (v:Value):Prop:=match d with
 | .ag cs=> ∃vs:Array Value,v= .agg vs∧vs.size=cs.length∧∀(j:Nat) (x:D) (y:Value),cs[j]? =some x→vs[j]? =some y→RelD S w x y
 | d=> RelD S w d v
theorem RelE.mono {S S':Nat→Prop} {w w':World} (hS:∀b,S b→S' b) (hw:∀b,S b→w'.heap[b]? =w.heap[b]?) {x:D} {v:Value} (h:RelE S w x v):RelE S' w' x v:=by
 cases x with
 | ag cs=>
  obtain ⟨vs,h1,h2,h3⟩:=h
  exact ⟨vs,h1,h2,fun j x y hx hy=> (h3 j x y hx hy).mono hS hw⟩
 | _=> exact RelD.mono hS hw h
theorem RelE.of {S:Nat→Prop} {w:World} {x:D} {v:Value} (h:RelD S w x v):RelE S w x v:=by
 cases x with
 | ag cs=> cases h
 | _=> exact h
theorem RelE.to {S:Nat→Prop} {w:World} {x:D} {v:Value} (hx:∀cs,x≠ .ag cs) (h:RelE S w x v):RelD S w x v:=by
 cases x with
 | ag cs=> exact absurd rfl (hx cs)
 | _=> exact h
structure Loc where
 blk:Option Nat
 cap:Nat
 sz:Nat
 len:Nat
structure Cx where
 φ:Nat→Nat→Loc
 gn:Nat→Nat
 S:Nat→Prop
 w:World
inductive Rel (κ:Cx):AV→Value→Prop
 | d {x:D} {v:Value} (h:RelD κ.S κ.w x v):Rel κ (.d x) v
 | agg {cs:List AV} {vs:Array Value} (hl:vs.size=cs.length) (h:∀(j:Nat) (c:AV) (v:Value),cs[j]? =some c→vs[j]? =some v→Rel κ c v):Rel κ (.agg cs) (.agg vs)
 | tup {cs:List AV} {vs:Array Value} (hl:vs.size=cs.length) (h:∀(j:Nat) (c:AV) (v:Value),cs[j]? =some c→vs[j]? =some v→Rel κ c v):Rel κ (.tup cs) (.tuple vs)
 | nl (A:Option Addr):Rel κ .nl (.slice A 0 0)
 | fp {cs:List D} {b o:Nat} (vs:Nat→Value) (hb:κ.S b) (hc:∀j,j < cs.length→κ.w.cell? ⟨b,o + j,none⟩=some (vs j)) (hr:∀(j:Nat) (x:D),cs[j]? =some x→RelD κ.S κ.w x (vs j)):Rel κ (.fp cs) (.pointer (some ⟨b,o,none⟩))
 | lp {s g o b:Nat} (hg:g≤κ.gn s) (hb:(κ.φ s g).blk=some b):Rel κ (.lp s g o) (.pointer (some ⟨b,o,none⟩))
 | rp {s g i o b:Nat} (hg:g≤κ.gn s) (hb:(κ.φ s g).blk=some b):Rel κ (.rp s g i o) (.pointer (some ⟨b,i * (κ.φ s g).sz + o,none⟩))
 | row0 {s g:Nat} (A:Option Addr) (hg:g≤κ.gn s) (hb:(κ.φ s g).blk=none) (hl:(κ.φ s g).len=0):Rel κ (.row s g 0) (.slice A 0 0)
 | row {s g b:Nat} (hg:g≤κ.gn s) (hb:(κ.φ s g).blk=some b):Rel κ (.row s g (κ.φ s g).len) (.slice (some ⟨b,0,none⟩) (κ.φ s g).len (κ.φ s g).cap)
 | sub0 {s g:Nat} (A:Option Addr) (hg:g≤κ.gn s) (hb:(κ.φ s g).blk=none) (hl:(κ.φ s g).len=0):Rel κ (.sub s g 0 0) (.slice A 0 0)
 | sub {s g o n b:Nat} (A:Option Addr) (hg:g≤κ.gn s) (hb:(κ.φ s g).blk=some b) (hA:(n=0∧(κ.φ s g).cap - o=0)∨A=some ⟨b,o * (κ.φ s g).sz,none⟩) (hn:o + n≤(κ.φ s g).len):Rel κ (.sub s g o n) (.slice A n ((κ.φ s g).cap - o))
 | mp {s g b:Nat} (hg:g≤κ.gn s) (hb:(κ.φ s g).blk=some b):Rel κ (.mp s g) (.map (some b))
 | fn {f:FuncId} {cs:List AV} {vs:Array Value} (hl:vs.size=cs.length) (h:∀(j:Nat) (c:AV) (v:Value),cs[j]? =some c→vs[j]? =some v→Rel κ c v):Rel κ (.fn f cs) (.func (.func f) #[] vs)
 | kb (b:Bool):Rel κ (.kb b) (.bool b)
structure Cx.Le (κ κ':Cx):Prop where
 gn:∀s,κ.gn s≤κ'.gn s
 φ:∀s g,g≤κ.gn s→κ'.φ s g=κ.φ s g
 S:∀b,κ.S b→κ'.S b
 w:∀b,κ.S b→κ'.w.heap[b]? =κ.w.heap[b]?
theorem Cx.Le.refl (κ:Cx):κ.Le κ:=⟨fun _=> Nat.le_refl _,fun _ _ _=> rfl,fun _ h=> h,fun _ _=> rfl⟩
theorem Cx.Le.trans {a b c:Cx} (h:a.Le b) (k:b.Le c):a.Le c:=
 ⟨fun s=> Nat.le_trans (h.gn s) (k.gn s),fun s g hg=> (k.φ s g (Nat.le_trans hg (h.gn s))).trans (h.φ s g hg),fun x hx=> k.S x (h.S x hx),fun x hx=> (k.w x (h.S x hx)).trans (h.w x hx)⟩
theorem Cx.Le.relD {κ κ':Cx} (h:κ.Le κ') {x:D} {v:Value} (hr:RelD κ.S κ.w x v):RelD κ'.S κ'.w x v:=hr.mono h.S h.w
theorem Cx.Le.relE {κ κ':Cx} (h:κ.Le κ') {x:D} {v:Value} (hr:RelE κ.S κ.w x v):RelE κ'.S κ'.w x v:=hr.mono h.S h.w
theorem Rel.mono {κ κ':Cx} (hl:κ.Le κ') {x:AV} {v:Value} (h:Rel κ x v):Rel κ' x v:=by
 induction h with
 | d h=> exact .d (hl.relD h)
 | agg hs _ ih=> exact .agg hs ih
 | tup hs _ ih=> exact .tup hs ih
 | nl A=> exact .nl A
 | fp vs hb hc hr=> exact .fp vs (hl.S _ hb) (fun j hj=> by rw [World.cell?_of_block (w:=κ.w) (hl.w _ hb)];exact hc j hj) (fun j x hx=> hl.relD (hr j x hx))
 | lp hg hb=> exact .lp (Nat.le_trans hg (hl.gn _)) (by rw [hl.φ _ _ hg];exact hb)
 | rp hg hb=> rw [←hl.φ _ _ hg];exact .rp (Nat.le_trans hg (hl.gn _)) (by rw [hl.φ _ _ hg];exact hb)
 | row0 A hg hb hz=> exact .row0 A (Nat.le_trans hg (hl.gn _)) (by rw [hl.φ _ _ hg];exact hb) (by rw [hl.φ _ _ hg];exact hz)
 | row hg hb=> rw [←hl.φ _ _ hg];exact .row (Nat.le_trans hg (hl.gn _)) (by rw [hl.φ _ _ hg];exact hb)
 | sub0 A hg hb hz=> exact .sub0 A (Nat.le_trans hg (hl.gn _)) (by rw [hl.φ _ _ hg];exact hb) (by rw [hl.φ _ _ hg];exact hz)
 | sub A hg hb hA hn=> rw [←hl.φ _ _ hg];exact .sub A (Nat.le_trans hg (hl.gn _)) (by rw [hl.φ _ _ hg];exact hb) (by rw [hl.φ _ _ hg];exact hA) (by rw [hl.φ _ _ hg];exact hn)
 | mp hg hb=> exact .mp (Nat.le_trans hg (hl.gn _)) (by rw [hl.φ _ _ hg];exact hb)
 | fn hs _ ih=> exact .fn hs ih
 | kb b=> exact .kb b
theorem Rel.ofD {κ:Cx} {x:D} {v:Value} (h:RelD κ.S κ.w x v):Rel κ (dv x) v:=by
 cases h with
 | v _ h=> exact .d (.v _ h)
 | fz0 A c h=> exact .d (.fz0 A c h)
 | fz es b o sz c vs hs hb hcap hc hr=> exact .d (.fz es b o sz c vs hs hb hcap hc hr)
 | mz ck es b ents clock vs hb hh hst hl hk h1 h2 h3=> exact .d (.mz ck es b ents clock vs hb hh hst hl hk h1 h2 h3)
 | pz cs b o vs hb hc hr=> exact .fp vs hb hc hr
theorem Rel.ofE {κ:Cx} {x:D} {v:Value} (h:RelE κ.S κ.w x v):Rel κ (mcell x) v:=by
 cases x with
 | ag cs=>
  obtain ⟨vs,rfl,h2,h3⟩:=h
  refine .agg (by simp [h2]) fun j c v hc hv=> ?_
  rw [List.getElem?_map] at hc
  cases hq:cs[j]? with
  | none=> rw [hq] at hc;cases hc
  | some x=>
   rw [hq] at hc
   injection hc with hc
   subst hc
   exact .ofD (h3 j x v hq hv)
 | _=> exact .ofD (RelE.to (fun cs e=> by cases e) h)
theorem Rel.unk1 {κ:Cx} {x:AV} {v:Value} (h:Rel κ x v):Rel κ (unk1 x) v:=by
 cases h with
 | kb b=> exact .d (.v _ rfl)
 | d h=> exact .d h
 | agg hl h=> exact .agg hl h
 | tup hl h=> exact .tup hl h
 | nl A=> exact .nl A
 | fp vs hb hc hr=> exact .fp vs hb hc hr
 | lp hg hb=> exact .lp hg hb
 | rp hg hb=> exact .rp hg hb
 | row0 A hg hb hz=> exact .row0 A hg hb hz
 | row hg hb=> exact .row hg hb
 | sub0 A hg hb hz=> exact .sub0 A hg hb hz
 | sub A hg hb hA hn=> exact .sub A hg hb hA hn
 | mp hg hb=> exact .mp hg hb
 | fn hl h=> exact .fn hl h
theorem Rel.unk {κ:Cx} {x:AV} {v:Value} (h:Rel κ x v):Rel κ (unk x) v:=by
 have h1:=h.unk1
 cases x with
 | agg cs=>
  cases h with
  | agg hl h=>
   refine .agg (by simpa using hl) fun j c v hc hv=> ?_
   rw [List.getElem?_map] at hc
   cases hq:cs[j]? with
   | none=> rw [hq] at hc;cases hc
   | some q=>
    rw [hq] at hc
    injection hc with hc
    subst hc
    exact (h j q v hq hv).unk1
 | _=> exact h1
theorem Rel.one {κ:Cx} {x:AV} {v:Value} (h:Rel κ x v) (h1:isOne x=true):v.oneCell'=true:=by
 cases h with
 | d h=> exact h.one
 | agg=> cases h1
 | tup=> cases h1
 | _=> rfl
def RowAt (κ:Cx) (cur:Array Value) (sz:Nat) (es:List (List D)):Prop:=∀(i j:Nat) (e:List D) (x:D),es[i]? =some e→e[j]? =some x→∃v,cur[i * sz + j]? =some v∧RelD κ.S κ.w x v
def MapIn (S:Nat→Prop) (w:World) (ck:CK) (ents:Array MapEntry) (es:List (Value×D)):Prop:=ents.size=es.length∧∀(j:Nat) (p:Value×D) (e:MapEntry),es[j]? =some p→ents[j]? =some e→e.key=p.1∧RelE S w p.2 e.val∧ckHas ck p.1=true
def MapAt (κ:Cx) (ck:CK) (ents:Array MapEntry) (es:List (Value×D)):Prop:=MapIn κ.S κ.w ck ents es
theorem RelD.map_mk {S:Nat→Prop} {w:World} {ck:CK} {ents:Array MapEntry} {es:List (Value×D)} {b clock:Nat} (hb:S b) (hh:w.heap[b]? =some (.map ents clock)) (hst:MapKept.Stamped ents clock) (h:MapIn S w ck ents es):RelD S w (.mz ck es) (.map (some b)):=by
 refine .mz ck es b ents clock (fun j=> match ents[j]? with | some e=> (match e.val with | .agg vs=> vs | _=> #[]) | none=> #[]) hb hh hst h.1 (fun j p e hp he=> ⟨(h.2 j p e hp he).1,(h.2 j p e hp he).2.2⟩) (fun j p e hp he hn=> (h.2 j p e hp he).2.1.to hn) (fun j p e cs hp he hc=> ?_) (fun j p cs i x y hp hc hx hy=> ?_)
 ·have:=(h.2 j p e hp he).2.1
  rw [hc] at this
  obtain ⟨vs,h1,h2,_⟩:=this
  simp only [he,h1,h2,and_self]
 ·have hlt:j < ents.size:=by rw [h.1];exact (List.getElem?_eq_some_iff.1 hp).1
  have he:ents[j]? =some (ents[j]'hlt):=Array.getElem?_eq_getElem hlt
  have:=(h.2 j p _ hp he).2.1
  rw [hc] at this
  obtain ⟨vs,h1,h2,h3⟩:=this
  simp only [he,h1] at hy
  exact h3 i x y hx hy
theorem RelD.map_inv {S:Nat→Prop} {w:World} {ck:CK} {es:List (Value×D)} {v:Value} (h:RelD S w (.mz ck es) v):∃b ents clock,v= .map (some b)∧S b∧w.heap[b]? =some (.map ents clock)∧MapIn S w ck ents es∧MapKept.Stamped ents clock:=by
 cases h with
 | mz _ _ b ents clock vs hb hh hst hl hk h1 h2 h3=>
  refine ⟨b,ents,clock,rfl,hb,hh,⟨hl,fun j p e hp he=> ⟨(hk j p e hp he).1,?_,(hk j p e hp he).2⟩⟩,hst⟩
  by_cases hc:∃cs,p.2= .ag cs
  ·obtain ⟨cs,hc⟩:=hc
   obtain ⟨q1,q2⟩:=h2 j p e cs hp he hc
   rw [hc]
   exact ⟨vs j,q1,q2,fun i x y hx hy=> h3 j p cs i x y hp hc hx hy⟩
  ·exact .of (h1 j p e hp he fun cs e=> hc ⟨cs,e⟩)
def InstOk (κ:Cx) (l:Loc):Inst→Prop
 | .box cs=> ∃b T vs,l.blk=some b∧κ.w.heap[b]? =some (.cells vs T (0,0))∧vs.size=cs.length∧∀(j:Nat) (c:AV) (v:Value),cs[j]? =some c→vs[j]? =some v→Rel κ c v∧v.oneCell'=true
 | .rows sz es _=> es.length=l.len∧(∀e∈es,e.length=sz)∧((l.blk=none∧es= [])∨∃b T cur,l.blk=some b∧l.sz=sz∧κ.w.heap[b]? =some (.cells cur T (0,0))∧l.len≤l.cap∧l.cap≤maxLen∧cur.size=l.cap * sz∧RowAt κ cur sz es)
 | .mapi ck es=> ∃b ents clock,l.blk=some b∧κ.w.heap[b]? =some (.map ents clock)∧MapAt κ ck ents es∧MapKept.Stamped ents clock
def Inst.rw_:Inst→Bool
 | .mapi _ _=> true
 | .box _=> true
 | .rows _ _ ro=> !ro
structure BelowX (dr:Prop) (b:Nat→Prop) (w w':World):Prop where
 os:w'.os=w.os
 tape:w'.tape=w.tape
 output:w'.output=w.output
 size:w.heap.size≤w'.heap.size
 block:∀k,k < w.heap.size→¬b k→w'.heap[k]? =w.heap[k]?
 drawn:dr→w.drawn≤w'.drawn
theorem BelowX.refl {dr:Prop} (b:Nat→Prop) (w:World):BelowX dr b w w:=⟨rfl,rfl,rfl,Nat.le_refl _,fun _ _ _=> rfl,fun _=> Nat.le_refl _⟩
theorem BelowX.step {dr:Prop} {b:Nat→Prop} {w w1 w2:World} (h:BelowX dr b w w1) (ho:w2.os=w1.os) (ht:w2.tape=w1.tape) (hp:w2.output=w1.output) (hz:w1.heap.size≤w2.heap.size) (hd:dr→w1.drawn≤w2.drawn) (hk:∀k,k < w.heap.size→¬b k→w2.heap[k]? =w1.heap[k]?):BelowX dr b w w2:=
 ⟨ho.trans h.os,ht.trans h.tape,hp.trans h.output,Nat.le_trans h.size hz,fun k h1 h2=> (hk k h1 h2).trans (h.block k h1 h2),fun d=> Nat.le_trans (h.drawn d) (hd d)⟩
theorem BelowX.grow {dr:Prop} {b:Nat→Prop} {w w1 w2:World} (h:BelowX dr b w w1) (k:BelowD dr w1.heap.size w1 w2):BelowX dr b w w2:=h.step k.os k.tape k.output k.size k.drawn fun i h1 _=> k.block i (Nat.lt_of_lt_of_le h1 h.size)
theorem BelowX.toD {dr:Prop} {w w1:World} (h:BelowX dr (fun _=> False) w w1):BelowD dr w.heap.size w w1:=⟨⟨h.os,h.tape,h.output,h.size,fun k hk=> h.block k hk id⟩,h.drawn⟩
structure Start where
 w:World
 o:Nat→Prop
 dr:Prop
 inv:Inv w
 fr:∀b,o b→¬Tab b
 n:Nat
 loc:Nat→Loc
def Start.New (s:Start) (b:Nat):Prop:=s.w.heap.size≤b∨s.o b
structure Sim (w0:Start) (A:Nat→Prop) (m:Mem) (κ:Cx):Prop where
 below:BelowX w0.dr w0.o w0.w κ.w
 gn:κ.gn=m.gen
 ok:∀s g i,m.at_ s g=some i→InstOk κ (κ.φ s g) i
 gens:∀s g i,m.at_ s g=some i→g≤m.gen s
 own:∀s g i b,m.at_ s g=some i→(κ.φ s g).blk=some b→w0.New b∧b < κ.w.heap.size
 notS:∀s g i b,m.at_ s g=some i→(κ.φ s g).blk=some b→i.rw_=true→¬κ.S b
 isS:∀s g i b,m.at_ s g=some i→(κ.φ s g).blk=some b→i.rw_=false→κ.S b
 sep:∀s g i s' g' i' b,m.at_ s g=some i→m.at_ s' g'=some i'→(κ.φ s g).blk=some b→(κ.φ s' g').blk=some b→i.rw_=true→s=s'∧g=g'
 st:∀b,κ.S b→b < κ.w.heap.size∧(A b∨w0.New b)
 args:∀b,A b→κ.S b
 pin:∀i,i < w0.n→κ.φ (1000001 + i) 1=w0.loc i∧1≤κ.gn (1000001 + i)
theorem Sim.inv {w0:Start} {A:Nat→Prop} {m:Mem} {κ:Cx} (h:Sim w0 A m κ):Inv κ.w:=w0.inv.keep fun b hb=> h.below.block b (w0.inv.lt hb) fun e=> w0.fr b e hb
theorem Sim.noTab {w0:Start} {A:Nat→Prop} {m:Mem} {κ:Cx} (h:Sim w0 A m κ) {s g:Nat} {i:Inst} {b:Nat} (hi:m.at_ s g=some i) (hb:(κ.φ s g).blk=some b):¬Tab b:=fun hT=> by
 rcases (h.own s g i b hi hb).1 with h1 | h1
 ·exact absurd (w0.inv.lt hT) (by omega)
 ·exact w0.fr b h1 hT
def EnvOk (κ:Cx) (env:Nat→Option AV) (tmps:Array Value):Prop:=∀t v,env t=some v→∃x,tmps[t]? =some x∧Rel κ v x
theorem EnvOk.mono {κ κ':Cx} (h:κ.Le κ') {env:Nat→Option AV} {tmps:Array Value} (he:EnvOk κ env tmps):EnvOk κ' env tmps:=fun t v hv=>
 let ⟨x,hx,hr⟩:=he t v hv
 ⟨x,hx,hr.mono h⟩
theorem InstOk.mono {κ κ':Cx} (h:κ.Le κ') {l:Loc} {i:Inst} (hi:InstOk κ l i) (hw:∀b,l.blk=some b→κ'.w.heap[b]? =κ.w.heap[b]?):InstOk κ' l i:=by
 cases i with
 | box cs=>
  obtain ⟨b,T,vs,hb,hh,hs,hr⟩:=hi
  exact ⟨b,T,vs,hb,by rw [hw b hb];exact hh,hs,fun j c v hc hv=> ⟨(hr j c v hc hv).1.mono h,(hr j c v hc hv).2⟩⟩
 | rows sz es ro=>
  obtain ⟨h1,h2,h3⟩:=hi
  refine ⟨h1,h2,h3.imp id ?_⟩
  rintro ⟨b,T,cur,hb,hz,hh,hl,hm,hc,hr⟩
  exact ⟨b,T,cur,hb,hz,by rw [hw b hb];exact hh,hl,hm,hc,fun i j e x he hx=> let ⟨v,hv,hd⟩:=hr i j e x he hx;⟨v,hv,h.relD hd⟩⟩
 | mapi ck es=>
  obtain ⟨b,ents,clock,hb,hh,hm⟩:=hi
  exact ⟨b,ents,clock,hb,by rw [hw b hb];exact hh,⟨hm.1.1,fun j p e hp he=> ⟨(hm.1.2 j p e hp he).1,(hm.1.2 j p e hp he).2.1.mono h.S h.w,(hm.1.2 j p e hp he).2.2⟩⟩,hm.2⟩
theorem beq_dec (x y:Nat):Nat.beq x y=decide (x=y):=by
 by_cases h:x=y
 ·subst h;simp
 ·simp only [h,decide_false];exact Bool.eq_false_iff.2 fun e=> h (Nat.eq_of_beq_eq_true e)
theorem setAt {m:Mem} {s g x y:Nat} {i:Option Inst}:(m.set s g i).at_ x y=if x=s∧y=g then i else m.at_ x y:=by
 unfold Mem.set
 by_cases h1:x=s <;> by_cases h2:y=g <;> simp [beq_dec,h1,h2]
theorem addAt {m:Mem} {s x y:Nat} {i:Inst}:(m.add s i).at_ x y=if x=s∧y=m.gen s + 1 then some i else m.at_ x y:=by
 unfold Mem.add
 by_cases h1:x=s <;> by_cases h2:y=m.gen s + 1 <;> simp [beq_dec,h1,h2]
theorem addGen {m:Mem} {s x:Nat} {i:Inst}:(m.add s i).gen x=if x=s then m.gen s + 1 else m.gen x:=by
 unfold Mem.add updT
 by_cases h1:x=s <;> simp [beq_dec,h1]
theorem Sim.grow {w0:Start} {A:Nat→Prop} {m:Mem} {κ:Cx} (h:Sim w0 A m κ) {w':World} (hb:BelowD w0.dr κ.w.heap.size κ.w w') {S':Nat→Prop} (h1:∀b,κ.S b→S' b) (h2:∀b,S' b→κ.S b∨(κ.w.heap.size≤b∧b < w'.heap.size)):
  Sim w0 A m {κ with w:=w',S:=S'}∧κ.Le {κ with w:=w',S:=S'}:=by
 have hw:∀b,b < κ.w.heap.size→w'.heap[b]? =κ.w.heap[b]? :=hb.block
 have hz:=h.below.size
 have hle:κ.Le {κ with w:=w',S:=S'}:=⟨fun _=> Nat.le_refl _,fun _ _ _=> rfl,h1,fun b hS=> hw b (h.st b hS).1⟩
 refine ⟨⟨h.below.grow hb,h.gn,?_,h.gens,?_,?_,?_,h.sep,?_,fun b hA=> h1 b (h.args b hA),h.pin⟩,hle⟩
 ·intro s g i hi
  exact (h.ok s g i hi).mono hle fun b hbk=> hw b (h.own s g i b hi hbk).2
 ·intro s g i b hi hbk
  have:=h.own s g i b hi hbk
  exact ⟨this.1,Nat.lt_of_lt_of_le this.2 hb.size⟩
 ·intro s g i b hi hbk hrw hS
  rcases h2 b hS with hS | hS
  ·exact h.notS s g i b hi hbk hrw hS
  ·have:=(h.own s g i b hi hbk).2
   omega
 ·intro s g i b hi hbk hrw
  exact h1 b (h.isS s g i b hi hbk hrw)
 ·intro b hS
  rcases h2 b hS with hS | hS
  ·have:=h.st b hS
   exact ⟨Nat.lt_of_lt_of_le this.1 hb.size,this.2⟩
  ·exact ⟨hS.2,Or.inr (Or.inl (by omega))⟩
def Cx.put (κ:Cx) (s:Nat) (l:Loc) (w':World):Cx:={φ:=fun x y=> if x=s∧y=κ.gn s + 1 then l else κ.φ x y,gn:=fun x=> if x=s then κ.gn s + 1 else κ.gn x,S:=κ.S,w:=w'}
theorem Cx.put_le (κ:Cx) (s:Nat) (l:Loc) (w':World) (hw:∀b,κ.S b→w'.heap[b]? =κ.w.heap[b]?):κ.Le (κ.put s l w'):=by
 refine ⟨fun x=> ?_,fun x y hy=> ?_,fun _ h=> h,hw⟩
 ·show κ.gn x≤if x=s then κ.gn s + 1 else κ.gn x
  split
  ·rename_i h;subst h;omega
  ·omega
 ·show (if x=s∧y=κ.gn s + 1 then l else κ.φ x y)=_
  rw [if_neg]
  rintro ⟨rfl,rfl⟩
  omega
theorem Cx.put_new (κ:Cx) (s:Nat) (l:Loc) (w':World):(κ.put s l w').φ s (κ.gn s + 1)=l:=by simp [Cx.put]
theorem Cx.put_gn (κ:Cx) (s:Nat) (l:Loc) (w':World):(κ.put s l w').gn s=κ.gn s + 1:=by simp [Cx.put]
theorem Sim.add {w0:Start} {A:Nat→Prop} {m:Mem} {κ:Cx} (h:Sim w0 A m κ) {w':World} (hb:BelowD w0.dr κ.w.heap.size κ.w w') (s:Nat) (i:Inst) (l:Loc)
  (hl:∀b,l.blk=some b→w0.New b∧b < w'.heap.size∧¬κ.S b∧∀s g i,m.at_ s g=some i→(κ.φ s g).blk≠some b) (hrw:i.rw_=true) (hi:κ.Le (κ.put s l w')→InstOk (κ.put s l w') l i):
  Sim w0 A (m.add s i) (κ.put s l w')∧κ.Le (κ.put s l w'):=by
 have hw:∀b,b < κ.w.heap.size→w'.heap[b]? =κ.w.heap[b]? :=hb.block
 have hle:=κ.put_le s l w' fun b hS=> hw b (h.st b hS).1
 have hz:=h.below.size
 have hgn:=h.gn
 have hφ:∀x y i',m.at_ x y=some i'→(κ.put s l w').φ x y=κ.φ x y:=fun x y i' hx=> hle.φ x y (by rw [hgn];exact h.gens x y i' hx)
 have cases_:∀x y i',(m.add s i).at_ x y=some i'→(x=s∧y=κ.gn s + 1∧i'=i)∨m.at_ x y=some i':=by
  intro x y i' hx
  rw [addAt] at hx
  split at hx
  ·rename_i hxy
   exact Or.inl ⟨hxy.1,by rw [hgn];exact hxy.2,(Option.some.inj hx).symm⟩
  ·exact Or.inr hx
 refine ⟨⟨h.below.grow hb,?_,?_,?_,?_,?_,?_,?_,?_,h.args,fun i hi=> ⟨(hle.φ _ _ (h.pin i hi).2).trans (h.pin i hi).1,Nat.le_trans (h.pin i hi).2 (hle.gn _)⟩⟩,hle⟩
 ·funext x
  show (if x=s then κ.gn s + 1 else κ.gn x)=_
  rw [addGen,hgn]
 ·intro x y i' hx
  rcases cases_ x y i' hx with ⟨rfl,rfl,rfl⟩ | hx
  ·rw [Cx.put_new]
   exact hi hle
  ·rw [hφ x y i' hx]
   exact (h.ok x y i' hx).mono hle fun b hbk=> hw b (h.own x y i' b hx hbk).2
 ·intro x y i' hx
  rw [addGen]
  rcases cases_ x y i' hx with ⟨rfl,rfl,rfl⟩ | hx
  ·rw [if_pos rfl,hgn]
   exact Nat.le_refl _
  ·have:=h.gens x y i' hx
   split
   ·rename_i he
    rw [he] at this
    omega
   ·exact this
 ·intro x y i' b hx hbk
  rcases cases_ x y i' hx with ⟨rfl,rfl,rfl⟩ | hx
  ·rw [Cx.put_new] at hbk
   have:=hl b hbk
   exact ⟨this.1,this.2.1⟩
  ·rw [hφ x y i' hx] at hbk
   have:=h.own x y i' b hx hbk
   exact ⟨this.1,Nat.lt_of_lt_of_le this.2 hb.size⟩
 ·intro x y i' b hx hbk hr hS
  rcases cases_ x y i' hx with ⟨rfl,rfl,rfl⟩ | hx
  ·rw [Cx.put_new] at hbk
   exact (hl b hbk).2.2.1 hS
  ·rw [hφ x y i' hx] at hbk
   exact h.notS x y i' b hx hbk hr hS
 ·intro x y i' b hx hbk hr
  rcases cases_ x y i' hx with ⟨rfl,rfl,rfl⟩ | hx
  ·rw [hrw] at hr
   cases hr
  ·rw [hφ x y i' hx] at hbk
   exact h.isS x y i' b hx hbk hr
 ·intro x y i1 x' y' i2 b hx hx' hb1 hb2 hr
  have c1:=cases_ x y i1 hx
  have c2:=cases_ x' y' i2 hx'
  clear hx hx'
  rcases c1 with ⟨rfl,rfl,rfl⟩ | hx <;> rcases c2 with ⟨rfl,rfl,rfl⟩ | hx'
  ·exact ⟨rfl,rfl⟩
  ·rw [Cx.put_new] at hb1
   rw [hφ x' y' i2 hx'] at hb2
   exact absurd hb2 ((hl b hb1).2.2.2 x' y' i2 hx')
  ·rw [Cx.put_new] at hb2
   rw [hφ x y i1 hx] at hb1
   exact absurd hb1 ((hl b hb2).2.2.2 x y i1 hx)
  ·rw [hφ x y i1 hx] at hb1
   rw [hφ x' y' i2 hx'] at hb2
   exact h.sep x y i1 x' y' i2 b hx hx' hb1 hb2 hr
 ·intro b hS
  have:=h.st b hS
  exact ⟨Nat.lt_of_lt_of_le this.1 hb.size,this.2⟩
theorem Sim.fresh {w0:Start} {A:Nat→Prop} {m:Mem} {κ:Cx} (h:Sim w0 A m κ) {w':World} {b:Nat} (h1:κ.w.heap.size≤b) (h2:b < w'.heap.size):
  w0.New b∧b < w'.heap.size∧¬κ.S b∧∀s g i,m.at_ s g=some i→(κ.φ s g).blk≠some b:=
 ⟨Or.inl (Nat.le_trans h.below.size h1),h2,fun hS=> by have:=(h.st b hS).1;omega,fun s g i hi e=> by have:=(h.own s g i b hi e).2;omega⟩
theorem Sim.set {w0:Start} {A:Nat→Prop} {m:Mem} {κ:Cx} (h:Sim w0 A m κ) {w':World} {s g:Nat} {i i':Inst} (hi:m.at_ s g=some i) (hrw:i.rw_=true) (hrw':i'.rw_=true)
  (hdr:κ.w.drawn≤w'.drawn) (ho:w'.os=κ.w.os) (ht:w'.tape=κ.w.tape) (hp:w'.output=κ.w.output) (hsz:w'.heap.size=κ.w.heap.size) (hw:∀b,(κ.φ s g).blk≠some b→w'.heap[b]? =κ.w.heap[b]?)
  (hok:κ.Le {κ with w:=w'}→InstOk {κ with w:=w'} (κ.φ s g) i'):
  Sim w0 A (m.set s g (some i')) {κ with w:=w'}∧κ.Le {κ with w:=w'}:=by
 have hSw:∀b,κ.S b→w'.heap[b]? =κ.w.heap[b]? :=fun b hS=> hw b fun e=> h.notS s g i b hi e hrw hS
 have hle:κ.Le {κ with w:=w'}:=⟨fun _=> Nat.le_refl _,fun _ _ _=> rfl,fun _ h=> h,hSw⟩
 have hbel:BelowX w0.dr w0.o w0.w w':=h.below.step ho ht hp (by omega) (fun _=> hdr) fun k hk hne=> hw k fun e=> by
  rcases (h.own s g i k hi e).1 with h1 | h1
  ·omega
  ·exact hne h1
 have cases_:∀x y j,(m.set s g (some i')).at_ x y=some j→(x=s∧y=g∧j=i')∨(¬(x=s∧y=g)∧m.at_ x y=some j):=by
  intro x y j hx
  rw [setAt] at hx
  split at hx
  ·rename_i hxy
   exact Or.inl ⟨hxy.1,hxy.2,(Option.some.inj hx).symm⟩
  ·rename_i hxy
   exact Or.inr ⟨hxy,hx⟩
 refine ⟨⟨hbel,h.gn,?_,?_,?_,?_,?_,?_,?_,h.args,h.pin⟩,hle⟩
 ·intro x y j hx
  rcases cases_ x y j hx with ⟨rfl,rfl,rfl⟩ | ⟨hne,hx⟩
  ·exact hok hle
  ·exact (h.ok x y j hx).mono hle fun b hbk=> hw b fun e=> hne (by have:=h.sep s g i x y j b hi hx e hbk hrw;exact ⟨this.1.symm,this.2.symm⟩)
 ·intro x y j hx
  rcases cases_ x y j hx with ⟨rfl,rfl,rfl⟩ | ⟨hne,hx⟩
  ·exact h.gens x y i hi
  ·exact h.gens x y j hx
 ·intro x y j b hx hbk
  show _∧b < w'.heap.size
  rw [hsz]
  rcases cases_ x y j hx with ⟨rfl,rfl,rfl⟩ | ⟨hne,hx⟩
  ·exact h.own x y i b hi hbk
  ·exact h.own x y j b hx hbk
 ·intro x y j b hx hbk hr
  rcases cases_ x y j hx with ⟨rfl,rfl,rfl⟩ | ⟨hne,hx⟩
  ·exact h.notS x y i b hi hbk hrw
  ·exact h.notS x y j b hx hbk hr
 ·intro x y j b hx hbk hr
  rcases cases_ x y j hx with ⟨rfl,rfl,rfl⟩ | ⟨hne,hx⟩
  ·rw [hrw'] at hr
   cases hr
  ·exact h.isS x y j b hx hbk hr
 ·intro x y i1 x' y' i2 b hx hx' hb1 hb2 hr
  have c1:=cases_ x y i1 hx
  have c2:=cases_ x' y' i2 hx'
  clear hx hx'
  rcases c1 with ⟨rfl,rfl,rfl⟩ | ⟨hne,hx⟩ <;> rcases c2 with ⟨rfl,rfl,rfl⟩ | ⟨hne',hx'⟩
  ·exact ⟨rfl,rfl⟩
  ·exact h.sep x y i x' y' i2 b hi hx' hb1 hb2 hrw
  ·exact h.sep x y i1 x' y' i b hx hi hb1 hb2 hr
  ·exact h.sep x y i1 x' y' i2 b hx hx' hb1 hb2 hr
 ·intro b hS
  show b < w'.heap.size∧_
  rw [hsz]
  exact h.st b hS
theorem Sim.frz {w0:Start} {A:Nat→Prop} {m:Mem} {κ:Cx} (h:Sim w0 A m κ) {s g sz:Nat} {es:List (List D)} {ro:Bool} (hi:m.at_ s g=some (.rows sz es ro)):
  Sim w0 A (m.set s g (some (.rows sz es true))) {κ with S:=fun b=> κ.S b∨(κ.φ s g).blk=some b}∧κ.Le {κ with S:=fun b=> κ.S b∨(κ.φ s g).blk=some b}:=by
 have hle:κ.Le {κ with S:=fun b=> κ.S b∨(κ.φ s g).blk=some b}:=⟨fun _=> Nat.le_refl _,fun _ _ _=> rfl,fun _ h=> Or.inl h,fun _ _=> rfl⟩
 have cases_:∀x y j,(m.set s g (some (.rows sz es true))).at_ x y=some j→(x=s∧y=g∧j= .rows sz es true)∨(¬(x=s∧y=g)∧m.at_ x y=some j):=by
  intro x y j hx
  rw [setAt] at hx
  split at hx
  ·rename_i hxy
   exact Or.inl ⟨hxy.1,hxy.2,(Option.some.inj hx).symm⟩
  ·rename_i hxy
   exact Or.inr ⟨hxy,hx⟩
 refine ⟨⟨h.below,h.gn,?_,?_,?_,?_,?_,?_,?_,fun b hA=> Or.inl (h.args b hA),h.pin⟩,hle⟩
 ·intro x y j hx
  rcases cases_ x y j hx with ⟨rfl,rfl,rfl⟩ | ⟨hne,hx⟩
  ·exact (h.ok x y _ hi).mono hle fun _ _=> rfl
  ·exact (h.ok x y j hx).mono hle fun _ _=> rfl
 ·intro x y j hx
  rcases cases_ x y j hx with ⟨rfl,rfl,rfl⟩ | ⟨hne,hx⟩
  ·exact h.gens x y _ hi
  ·exact h.gens x y j hx
 ·intro x y j b hx hbk
  rcases cases_ x y j hx with ⟨rfl,rfl,rfl⟩ | ⟨hne,hx⟩
  ·exact h.own x y _ b hi hbk
  ·exact h.own x y j b hx hbk
 ·intro x y j b hx hbk hr hS
  rcases cases_ x y j hx with ⟨rfl,rfl,rfl⟩ | ⟨hne,hx⟩
  ·cases hr
  ·rcases hS with hS | hS
   ·exact h.notS x y j b hx hbk hr hS
   ·exact hne (h.sep x y j s g _ b hx hi hbk hS hr)
 ·intro x y j b hx hbk hr
  rcases cases_ x y j hx with ⟨rfl,rfl,rfl⟩ | ⟨hne,hx⟩
  ·exact Or.inr hbk
  ·exact Or.inl (h.isS x y j b hx hbk hr)
 ·intro x y i1 x' y' i2 b hx hx' hb1 hb2 hr
  have c1:=cases_ x y i1 hx
  have c2:=cases_ x' y' i2 hx'
  clear hx hx'
  rcases c1 with ⟨rfl,rfl,rfl⟩ | ⟨hne,hx⟩ <;> rcases c2 with ⟨rfl,rfl,rfl⟩ | ⟨hne',hx'⟩
  ·exact ⟨rfl,rfl⟩
  ·cases hr
  ·exact h.sep x y i1 x' y' _ b hx hi hb1 hb2 hr
  ·exact h.sep x y i1 x' y' i2 b hx hx' hb1 hb2 hr
 ·intro b hS
  rcases hS with hS | hS
  ·exact h.st b hS
  ·have:=h.own s g _ b hi hS
   exact ⟨this.2,Or.inr this.1⟩
theorem Sim.drop {w0:Start} {A:Nat→Prop} {m:Mem} {κ:Cx} (h:Sim w0 A m κ) (s g:Nat):Sim w0 A (m.set s g none) κ:=by
 have cases_:∀x y j,(m.set s g none).at_ x y=some j→¬(x=s∧y=g)∧m.at_ x y=some j:=by
  intro x y j hx
  rw [setAt] at hx
  split at hx
  ·cases hx
  ·rename_i hxy
   exact ⟨hxy,hx⟩
 exact ⟨h.below,h.gn,fun x y j hx=> h.ok x y j (cases_ x y j hx).2,fun x y j hx=> h.gens x y j (cases_ x y j hx).2,fun x y j b hx=> h.own x y j b (cases_ x y j hx).2,fun x y j b hx=> h.notS x y j b (cases_ x y j hx).2,
  fun x y j b hx=> h.isS x y j b (cases_ x y j hx).2,fun x y i1 x' y' i2 b hx hx'=> h.sep x y i1 x' y' i2 b (cases_ x y i1 hx).2 (cases_ x' y' i2 hx').2,h.st,h.args,h.pin⟩
theorem Sim.growX {w0:Start} {A:Nat→Prop} {m:Mem} {κ:Cx} (h:Sim w0 A m κ) {w':World} {b:Nat→Prop} (hb:BelowX w0.dr b κ.w w') (hf:∀c,b c→w0.New c∧¬κ.S c∧∀s g i,m.at_ s g=some i→(κ.φ s g).blk≠some c) {S':Nat→Prop} (h1:∀c,κ.S c→S' c) (h2:∀c,S' c→κ.S c∨(κ.w.heap.size≤c∧c < w'.heap.size)):
  Sim w0 A m {κ with w:=w',S:=S'}∧κ.Le {κ with w:=w',S:=S'}:=by
 have hz:=h.below.size
 have hle:κ.Le {κ with w:=w',S:=S'}:=⟨fun _=> Nat.le_refl _,fun _ _ _=> rfl,h1,fun c hS=> hb.block c (h.st c hS).1 fun e=> (hf c e).2.1 hS⟩
 have hbel:BelowX w0.dr w0.o w0.w w':=h.below.step hb.os hb.tape hb.output hb.size hb.drawn fun k hk hne=> hb.block k (by omega) fun e=> by
  rcases (hf k e).1 with h1 | h1
  ·omega
  ·exact hne h1
 refine ⟨⟨hbel,h.gn,?_,h.gens,?_,?_,?_,h.sep,?_,fun b hA=> h1 b (h.args b hA),h.pin⟩,hle⟩
 ·intro s g i hi
  exact (h.ok s g i hi).mono hle fun c hc=> hb.block c (h.own s g i c hi hc).2 fun e=> (hf c e).2.2 s g i hi hc
 ·intro s g i b hi hbk
  have:=h.own s g i b hi hbk
  exact ⟨this.1,Nat.lt_of_lt_of_le this.2 hb.size⟩
 ·intro s g i b hi hbk hrw hS
  rcases h2 b hS with hS | hS
  ·exact h.notS s g i b hi hbk hrw hS
  ·have:=(h.own s g i b hi hbk).2
   omega
 ·intro s g i b hi hbk hrw
  exact h1 b (h.isS s g i b hi hbk hrw)
 ·intro b hS
  rcases h2 b hS with hS | hS
  ·have:=h.st b hS
   exact ⟨Nat.lt_of_lt_of_le this.1 hb.size,this.2⟩
  ·exact ⟨hS.2,Or.inr (Or.inl (by omega))⟩
theorem Sim.back {w0:Start} {A:Nat→Prop} {m:Mem} {κ:Cx} {s g:Nat} (h:Sim w0 A (m.set s g none) κ) {i':Inst} (hg:g≤m.gen s) (hrw:i'.rw_=true) (hok:InstOk κ (κ.φ s g) i')
  (hf:∀c,(κ.φ s g).blk=some c→w0.New c∧c < κ.w.heap.size∧¬κ.S c∧∀x y i,(m.set s g none).at_ x y=some i→(κ.φ x y).blk≠some c):Sim w0 A (m.set s g (some i')) κ:=by
 have cases_:∀x y j,(m.set s g (some i')).at_ x y=some j→(x=s∧y=g∧j=i')∨(¬(x=s∧y=g)∧(m.set s g none).at_ x y=some j):=by
  intro x y j hx
  rw [setAt] at hx ⊢
  split at hx
  ·rename_i hxy
   exact Or.inl ⟨hxy.1,hxy.2,(Option.some.inj hx).symm⟩
  ·rename_i hxy
   exact Or.inr ⟨hxy,by rw [if_neg hxy];exact hx⟩
 refine ⟨h.below,h.gn,?_,?_,?_,?_,?_,?_,h.st,h.args,h.pin⟩
 ·intro x y j hx
  rcases cases_ x y j hx with ⟨rfl,rfl,rfl⟩ | ⟨hne,hx⟩
  ·exact hok
  ·exact h.ok x y j hx
 ·intro x y j hx
  rcases cases_ x y j hx with ⟨rfl,rfl,rfl⟩ | ⟨hne,hx⟩
  ·exact hg
  ·exact h.gens x y j hx
 ·intro x y j b hx hbk
  rcases cases_ x y j hx with ⟨rfl,rfl,rfl⟩ | ⟨hne,hx⟩
  ·exact ⟨(hf b hbk).1,(hf b hbk).2.1⟩
  ·exact h.own x y j b hx hbk
 ·intro x y j b hx hbk hr
  rcases cases_ x y j hx with ⟨rfl,rfl,rfl⟩ | ⟨hne,hx⟩
  ·exact (hf b hbk).2.2.1
  ·exact h.notS x y j b hx hbk hr
 ·intro x y j b hx hbk hr
  rcases cases_ x y j hx with ⟨rfl,rfl,rfl⟩ | ⟨hne,hx⟩
  ·rw [hrw] at hr
   cases hr
  ·exact h.isS x y j b hx hbk hr
 ·intro x y i1 x' y' i2 b hx hx' hb1 hb2 hr
  have c1:=cases_ x y i1 hx
  have c2:=cases_ x' y' i2 hx'
  clear hx hx'
  rcases c1 with ⟨rfl,rfl,rfl⟩ | ⟨hne,hx⟩ <;> rcases c2 with ⟨rfl,rfl,rfl⟩ | ⟨hne',hx'⟩
  ·exact ⟨rfl,rfl⟩
  ·exact absurd hb2 ((hf b hb1).2.2.2 x' y' i2 hx')
  ·exact absurd hb1 ((hf b hb2).2.2.2 x y i1 hx)
  ·exact h.sep x y i1 x' y' i2 b hx hx' hb1 hb2 hr
end Go.Proofs.YtmgcnoigihdhpaaGreatDoor

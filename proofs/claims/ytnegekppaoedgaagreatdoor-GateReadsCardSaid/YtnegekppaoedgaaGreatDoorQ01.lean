/-
Words for memory that all contracts of this seat use: strings as lists of bytes, slices that read as lists of cells, blocks that a call makes, and the row's last step for any law.
-/
import Derived.Test.YtnegekppaoedgaaGreatDoorRows
import Derived.WalkKit
import Derived.WalkSpells
import Derived.WalkLawsBesides
import Derived.Lib.Hide
import Derived.Deep.QuietTactic
import Derived.BigQuiet
import Derived.IntWalk
import Derived.ProofKit
import Derived.ChangeSame
import Derived.OpenShut
import Derived.Carry
import Derived.Deep.Slices
import Derived.Deep.Fields
import Derived.Lib.ItoaNum
import Derived.Orders
import Derived.MapKept
namespace Go.Proofs.YtnegekppaoedgaaGreatDoor
section
open Go.RowKit
theorem ah {p:Prop} (h:p):Hid p:=Lib.hid h
theorem uo (l:List UInt8) (i:Nat) (h:i < (⟨l.toArray⟩:ByteArray).size):(⟨l.toArray⟩:ByteArray)[i]=l[i]'h:=rfl
theorem lS (l:List UInt8) (a b:Nat):(⟨l.toArray⟩:ByteArray).extract a b=⟨((l.take b).drop a).toArray⟩:=by
 apply ByteArray.ext
 simp [ByteArray.data_extract,List.drop_take]
theorem GZ (l:List UInt8) (b:Nat):(⟨l.toArray⟩:ByteArray).extract 0 b=⟨(l.take b).toArray⟩:=by rw [lS];rfl
theorem GY (l:List UInt8) (a:Nat):(⟨l.toArray⟩:ByteArray).extract a l.length=⟨(l.drop a).toArray⟩:=by rw [lS,List.take_length]
theorem bC (w:World) (o:Obj):Below w.heap.size w (w.alloc o):=(Below.refl _ _).alloc (Nat.le_refl _) _
theorem add_eq (b o j:Nat):(⟨b,o,none⟩:Addr).add j=⟨b,o + j,none⟩:=by
 unfold Addr.add
 by_cases hj:j=0
 ·subst hj;rfl
 ·simp [hj]
theorem J4 {w:World} {a:Addr} {v:Value} (h:w.cell? a=some v):a=⟨a.block,a.off,none⟩∧a.block < w.heap.size:=by
 obtain ⟨b,o,s⟩:=a
 unfold World.cell? at h
 split at h
 ·rename_i c _ _ hh
  cases s with
  | none=> exact ⟨rfl,by
    rcases Nat.lt_or_ge b w.heap.size with hlt | hge
    ·exact hlt
    ·rw [Array.getElem?_eq_none hge] at hh;cases hh⟩
  | some s=> simp at h
 ·cases h
section
open Go.WideShapes Go.ChangeShapes
variable {H : Type} {enc : TypeId × Value → H} {P : Program}
theorem G7 {f:Func} {s:ChangeSpec} {apart fresh handsOn again:Bool} {W W':World} {args:Array Value} {v:Value} {ds gs:List (DataW H)} {before pa pv:List MemPlace}
  (hW:DataW.Whole enc P f.params.toList s.vars apart W args.toList ds gs before)
  (hres:∀(b:Nat) (sp:Nat→Bool) (hd:Bool),DataW.TrodAll enc P W' b sp hd f.resultTypes.toList (v.resultList f.resultTypes.size) (s.fn H (ds ++ gs)).results [])
  (hargs:∀sp:Nat→Bool,(∀p∈before,sp p.block=true)→DataW.TrodAll enc P W' 0 sp true f.params.toList args.toList (s.fn H (ds ++ gs)).args pa)
  (hvars:∀sp:Nat→Bool,(∀p∈before,sp p.block=true)→DataW.TrodVars enc P W' sp s.vars (s.fn H (ds ++ gs)).vars pv)
  (hps:before=pa ++ pv) (hb:Below W.heap.size W W')
  (hok:∀(j:Nat) (t:TypeId) (r:Value),f.resultTypes[j]? =some t→(v.resultList f.resultTypes.size)[j]? =some r→Value.okWide P W' .any 0 t r):
  s.post enc P f apart fresh handsOn again W args v W':=by
 have hlt:∀p∈before,p.block < W.heap.size:=fun p hp=> hW.lt p hp
 have hold:∀p∈before,(fun b=> decide (b < W.heap.size)) p.block=true:=fun p hp=> by simpa using hlt p hp
 refine ⟨ds,gs,before,[],pa,pv,hW,hres _ _ _,hargs _ hold,hvars _ hold,World.keptBut_mono (fun p hp=> ⟨hp,?_⟩) (hb.frame (·∈before)),fun _=> ?_⟩
 ·rw [hps,List.mem_append] at hp
  exact Or.inr hp
 ·obtain ⟨_,_,_,_,_,hz,hn⟩:=hW
  refine ⟨hok,_,_,([] ++ pa) ++ pv,⟨[] ++ pa,pv,trodAll_append (hargs _ (fun _ _=> rfl)) (hres _ _ _),hvars _ (fun _ _=> rfl),rfl,?_,?_⟩,?_⟩
  ·intro b off hp
   have hin:MemPlace.cell b off∈before:=by rw [hps];simpa using hp
   rw [hb.frozen (hlt _ hin)]
   exact hz b off hin
  ·intro ha
   have:=hn ha
   rw [hps] at this
   simpa using this
  ·intro p hp _
   rw [hps]
   simpa using hp
theorem uw {W W':World} (hl:laidOutB P=true) (hb:Below W.heap.size W W') (sp:Nat→Bool):∀(ts:List TypeId) (vs:List Value) (ds:List (DataW H)) (p:List MemPlace),
  (∀t∈ts,P.readableRec t=true∧t < P.types.size)→DataW.TrodAll enc P W 0 (fun _=> true) true ts vs ds p→(∀x∈p,x.block < W.heap.size)→(∀x∈p,sp x.block=true)→DataW.TrodAll enc P W' 0 sp true ts vs ds p
 | [],vs,ds,p,_,h,_,_=> by
  obtain ⟨rfl,rfl,rfl⟩:=trodAll_nil h
  exact trodAll_mk0
 | t::ts,vs,ds,p,hr,h,hlt,hsp=> by
  obtain ⟨v,vs',d,ds',p0,q0,rfl,rfl,rfl,h0,h1⟩:=trodAll_cons h
  have hr0:=hr t (by simp)
  refine trodAll_cons_mk (WideElems.Trod_stays hl hr0.1 hr0.2 h0 (fun x hx=> hb.same (hlt x (by simp [hx]))) (fun x hx=> hsp x (by simp [hx]))) ?_
  exact uw hl hb sp ts vs' ds' q0 (fun t ht=> hr t (by simp [ht])) h1 (fun x hx=> hlt x (by simp [hx])) (fun x hx=> hsp x (by simp [hx]))
theorem aaI {f:Func} {s:ChangeSpec} {again:Bool} {W W':World} {args:Array Value} {ds gs:List (DataW H)} {before p:List MemPlace} {tb:TypeId}
  (hl:laidOutB P=true) (hr:∀t∈f.params.toList,P.readableRec t=true∧t < P.types.size)
  (hW:DataW.Whole enc P f.params.toList s.vars false W args.toList ds gs before) (hA:DataW.TrodAll enc P W 0 (fun _=> true) true f.params.toList args.toList ds p) (hbp:before=p)
  (hvars:s.vars= []) (hres:f.resultTypes= #[tb]) (htb:P.underlying tb=some .bool)
  (hf1:(s.fn H (ds ++ gs)).results= [.lit (.bool true)]) (hf2:(s.fn H (ds ++ gs)).args=ds) (hf3:(s.fn H (ds ++ gs)).vars= []) (hb:Below W.heap.size W W')
  (hok:∀(j:Nat) (t:TypeId) (r:Value),f.resultTypes[j]? =some t→((Value.bool true).resultList f.resultTypes.size)[j]? =some r→Value.okWide P W' .any 0 t r):
  s.post enc P f false true false again W args (.bool true) W':=by
 have hlt:∀x∈before,x.block < W.heap.size:=fun x hx=> hW.lt x hx
 refine G7 (pa:=before) (pv:= []) hW ?_ ?_ ?_ (by simp) hb hok
 ·intro b sp hd
  rw [hf1,hres]
  exact trodAll_cons_mk (shut_bool htb true) trodAll_mk0
 ·intro sp hsp
  rw [hf2]
  subst hbp
  exact uw hl hb sp _ _ _ _ hr hA hlt hsp
 ·intro sp _
  rw [hf3,hvars]
  rfl
end
end
section
open Go.RowKit
structure gQ (dr:Prop) (B:Nat) (w w':World):Prop extends Below B w w' where
 drawn:dr→w.drawn≤w'.drawn
theorem gQ.refl {dr:Prop} (B:Nat) (w:World):gQ dr B w w:=⟨Below.refl B w,fun _=> Nat.le_refl _⟩
theorem gQ.alloc {dr:Prop} {B:Nat} {a w:World} (h:gQ dr B a w) (hB:B≤w.heap.size) (o:Obj):gQ dr B a (w.alloc o):=⟨h.toBelow.alloc hB o,h.drawn⟩
theorem vS {dr:Prop} (w:World) (o:Obj):gQ dr w.heap.size w (w.alloc o):=(gQ.refl _ _).alloc (Nat.le_refl _) _
def tabs:List (Nat×(Obj→Prop)):= [(0,fun o=> ∃T s,o= .cells (Lib.pow10Tab.map fun z=> Value.int .u64 z).toArray T s),(1,fun o=> ∃cs T s m,o= .cells cs T s∧cs[0]? =some (.int .i64 m)),(2,fun o=> ∃cs T s t p,o= .cells cs T s∧cs[0]? =some (.iface t p)),(3,fun o=> ∃cs T s t p,o= .cells cs T s∧cs[0]? =some (.iface t p))]
def Tab (b:Nat):Prop:=∃q∈tabs,q.1=b
def Inv (w:World):Prop:=∀q∈tabs,∃o,w.heap[q.1]? =some o∧q.2 o
theorem Inv.lt {w:World} (h:Inv w) {b:Nat} (hb:Tab b):b < w.heap.size:=by
 obtain ⟨q,hq,rfl⟩:=hb
 obtain ⟨o,ho,_⟩:=h q hq
 exact (Array.getElem?_eq_some_iff.1 ho).1
theorem Inv.keep {w w':World} (h:Inv w) (k:∀b,Tab b→w'.heap[b]? =w.heap[b]?):Inv w':=fun q hq=> by
 rw [k q.1 ⟨q,hq,rfl⟩]
 exact h q hq
inductive CK where
 | i (k:IntKind) | b | s | st (n:Nat)
inductive D where
 | v (x:Value)
 | fz (es:List (List D))
 | mz (ck:CK) (es:List (Value×D))
 | ag (cs:List D)
 | pz (cs:List D)
inductive AV where
 | d (x:D)
 | agg (cs:List AV)
 | bH (vs:List AV)
 | nl
 | fp (cs:List D)
 | lp (s g o:Nat)
 | rp (s g i o:Nat)
 | row (s g n:Nat)
 | sub (s g o n:Nat)
 | ow (sz:Nat) (es:List (List D))
 | mp (s g:Nat)
 | fn (f:FuncId) (cap:List AV)
 | kb (b:Bool)
 | hp (is:List AV)
 | ib (cs:List AV)
 | im (ck:CK) (es:List (Value×D))
inductive Inst where
 | box (cs:List AV)
 | rows (sz:Nat) (es:List (List D)) (ro:Bool)
 | qP (ck:CK) (es:List (Value×D))
structure Mem where
 at_:Nat→Nat→Option Inst
 gen:Nat→Nat
structure fJ where
 env:Nat→Option AV
 m:Mem
inductive Step where
 | ret (v:AV)
 | Am (s g:Nat) (k:List AV→Step)
 | yC (s g:Nat) (k:List (List D)→Step)
 | OO (s g:Nat) (k:CK→List (Value×D)→Step)
 | RZ (s g:Nat) (k:Nat→List (List D)→Step)
 | OQ (s g z:Nat) (k:Step)
 | wr (s g:Nat) (i:Inst) (k:Step)
 | new (s:Nat) (i:Inst) (k:Nat→Step)
 | app (s g sz:Nat) (xs:List (List D)) (k:Nat→Step)
 | nV (s g:Nat) (k:Step)
 | elem (es:List (List D)) (i:Nat) (k:List D→Step)
 | call (f:FuncId) (args:List AV) (k:AV→Step)
 | chk (p:Prop) (k:Step)
 | br (b:Bool) (x y:Step)
 | fail
inductive TK where
 | int (k:IntKind) | bool | str | slice (e sz:Nat) | array (n e sz:Nat) | struct (fs:List (Nat×Nat×Nat)) | map (kt et:Nat) | ptr | other | none_
structure TI where
 size:Nat
 agg:Bool
 bytes:Nat
 ek:List CK
 zero:Value
 cz:List Nat
 k:TK
def TI.eqs (t:TI):Bool:=match t.ek with
 | []=> false
 | _=> true
def TI.known (t:TI):Bool:=match t.k with
 | .none_=> false
 | _=> true
def J5:Value→AV
 | .slice none 0 0=> .nl
 | .bool b=> .kb b
 | x=> .d (.v x)
def ofConst:Value→AV
 | .agg cs=> .agg (cs.toList.map J5)
 | x=> J5 x
def vT:Value→Bool
 | .agg cs=> cs.toList.all Value.oneCell'
 | x=> x.oneCell'
def cellsOf:AV→List AV
 | .agg cs=> cs
 | v=> [v]
def jX:AV→Bool
 | .agg _=> false
 | .bH _=> false
 | .ow _ _=> false
 | _=> true
def jI {α:Type} (f:Nat→α) (t:Nat) (v:α):Nat→α:=fun x=> bif Nat.beq x t then v else f x
def Mem.set (m:Mem) (s g:Nat) (i:Option Inst):Mem:={m with at_:=fun x y=> bif Nat.beq x s && Nat.beq y g then i else m.at_ x y}
def Mem.add (m:Mem) (s:Nat) (i:Inst):Mem:={at_:=fun x y=> bif Nat.beq x s && Nat.beq y (m.gen s + 1) then some i else m.at_ x y,gen:=jI m.gen s (m.gen s + 1)}
def uJ:AV→AV
 | .kb b=> .d (.v (.bool b))
 | v=> v
def unk:AV→AV
 | .agg cs=> .agg (cs.map uJ)
 | v=> uJ v
def iD:Option AV→Option AV
 | some v=> some (unk v)
 | none=> none
def cO (env:Nat→Option AV):Operand→Option AV
 | .tmp t=> env t
 | .const x=> bif vT x then some (ofConst x) else none
 | .func f=> some (.fn f [])
 | .global _=> none
def aJ (env:Nat→Option AV) (x:Operand):Option AV:=iD (cO env x)
def uK:Option AV→Step
 | some v=> .ret v
 | none=> .fail
def settle (s:Nat) (cz:List Nat):Nat→List AV→(List AV→Step)→Step
 | _,[],k=> k []
 | j,.nl::cs,k=> .new (s + 65536 * (j + 1)) (.rows (cz.getD j 0) [] false) fun g=> settle s cz (j + 1) cs fun r=> k (.row (s + 65536 * (j + 1)) g 0::r)
 | j,c::cs,k=> settle s cz (j + 1) cs fun r=> k (c::r)
def dataOf:AV→(D→Step)→Step
 | .d x,k=> k x
 | .nl,k=> k (.fz [])
 | .row s g _,k=> .yC s g fun es=> .nV s g (k (.fz es))
 | .sub s g o n,k=> .yC s g fun es=> .nV s g (k (.fz ((es.drop o).take n)))
 | _,_=> .fail
def lI:List AV→(List D→Step)→Step
 | [],k=> k []
 | v::vs,k=> dataOf v fun x=> lI vs fun xs=> k (x::xs)
def elemsOf:AV→(List (List D)→Step)→Step
 | .d (.fz es),k=> k es
 | .d (.v (.slice _ 0 _)),k=> k []
 | .nl,k=> k []
 | .row s g _,k=> .yC s g fun es=> k es
 | .sub s g o n,k=> .yC s g fun es=> k ((es.drop o).take n)
 | _,_=> .fail
def ldA (t:TI) (cs:List AV):Step:=bif !t.known then .fail else
 bif t.agg then (bif Nat.ble t.size cs.length then .ret (.agg (cs.take t.size)) else .fail) else match cs with
 | c::_=> .ret c
 | []=> .fail
def dv:D→AV
 | .pz cs=> .fp cs
 | x=> .d x
def ldD (t:TI) (cs:List D):Step:=bif !t.known then .fail else
 bif t.agg then (bif Nat.ble t.size cs.length then .ret (.agg ((cs.take t.size).map dv)) else .fail) else match cs with
 | c::_=> .ret (dv c)
 | []=> .fail
def over {α:Type} (cs:List α) (o:Nat) (vs:List α):List α:=cs.take o ++ vs ++ cs.drop (o + vs.length)
def B (b:Bool):AV:= .d (.v (.bool b))
def I (n:Int):AV:= .d (.v (.int .i64 n))
def J6:CK→AV→AV→Option Bool
 | .i k0,.d (.v (.int k a)),.d (.v (.int k' b))=> if k=k0∧k'=k0 then some (a==b) else none
 | .b,.d (.v (.bool a)),.d (.v (.bool b))=> some (a==b)
 | .s,.d (.v (.string a)),.d (.v (.string b))=> some (a==b)
 | _,_,_=> none
def nY:List CK→List AV→List AV→Option Bool
 | [],[],[]=> some true
 | c::ks,x::r,y::r'=> match J6 c x y with
  | some t=> match nY ks r r' with
   | some u=> some (t && u)
   | none=> none
  | none=> none
 | _,_,_=> none
def aeM (op:BinOp) (k k':IntKind) (a b:Int):Step:=
  if k≠k' then .fail else match op with
  | .add=> .ret (.d (.v (.int k (k.wrap (a + b)))))
  | .sub=> .ret (.d (.v (.int k (k.wrap (a - b)))))
  | .mul=> .ret (.d (.v (.int k (k.wrap (a * b)))))
  | .quo=> .chk (b≠0) (.ret (.d (.v (.int k (k.wrap (a.tdiv b))))))
  | .rem=> .chk (b≠0) (.ret (.d (.v (.int k (a.tmod b)))))
  | .eql=> .ret (B (a==b))
  | .neq=> .ret (B (a !=b))
  | .lss=> .ret (B (decide (a < b)))
  | .leq=> .ret (B (decide (a≤b)))
  | .gtr=> .ret (B (decide (b < a)))
  | .geq=> .ret (B (decide (b≤a)))
  | _=> .fail
def aeN (tk:TK) (op:BinOp) (x y:AV):Step:=
 match x,y with
 | .d (.v (.int k a)),.d (.v (.int k' b))=> match op with
  | .shr=> .chk (0≤b) (.ret (.d (.v (.int k (a.fdiv (2 ^ (min b.toNat k.bits)))))))
  | _=> aeM op k k' a b
 | .d (.v (.string a)),.d (.v (.string b))=>
  match op with
  | .add=> .chk (a.size + b.size≤1000000000) (.ret (.d (.v (.string (a ++ b)))))
  | .eql=> .ret (B (a.toList==b.toList))
  | .neq=> .ret (B (!(a.toList==b.toList)))
  | .lss=> .ret (B (Op.bytesLess a.toList b.toList))
  | .leq=> .ret (B (Op.bytesLess a.toList b.toList || a.toList==b.toList))
  | .gtr=> .ret (B (!(Op.bytesLess a.toList b.toList || a.toList==b.toList)))
  | .geq=> .ret (B (!Op.bytesLess a.toList b.toList))
  | _=> .fail
 | .d (.v (.bool a)),.d (.v (.bool b))=>
  match tk with
  | .bool=> match op with
   | .eql=> .ret (B (a==b))
   | .neq=> .ret (B (!(a==b)))
   | _=> .fail
  | _=> .fail
 | _,_=> .fail
def qQ:Option (Option AV)→Int→Option Int
 | none,n=> some n
 | some (some (.d (.v (.int _ i)))),_=> some i
 | _,_=> none
def scalar:AV→Bool
 | .d (.v _)=> true
 | .bH vs=> vs.all fun v=> match v with | .d (.v _)=> true | _=> false
 | .agg vs=> vs.all fun v=> match v with | .d (.v _)=> true | _=> false
 | _=> false
def Ij (s:Nat) (v:AV) (k:AV→Step):Step:=
 match v with
 | .ow sz es=> .new s (.rows sz es false) fun g=> k (.row s g es.length)
 | .d x=> k (.d x)
 | _=> .fail
def Vt (s:Nat):Nat→List AV→(List AV→Step)→Step
 | _,[],k=> k []
 | j,v::vs,k=> Ij (s + 65536 * (j + 1)) v fun x=> Vt s (j + 1) vs fun r=> k (x::r)
def Ik (s:Nat):AV→(AV→Step)→Step
 | .agg cs,k=> Vt s 0 cs fun r=> k (.agg r)
 | v,k=> Ij s v k
def OT (s:Nat):Nat→List AV→(List AV→Step)→Step
 | _,[],k=> k []
 | j,v::vs,k=> Ik (s + 1048576 * (j + 1)) v fun x=> OT s (j + 1) vs fun r=> k (x::r)
def recv (s:Nat):AV→(AV→Step)→Step
 | .bH vs,k=> OT s 0 vs fun r=> k (.bH r)
 | v,k=> Ik s v k
def uM:List AV→(List D→List (Nat×Nat)→Step)→Step
 | [],k=> k [] []
 | .d x::r,k=> uM r fun ds l=> k (x::ds) l
 | .mp s g::r,k=> .OO s g fun ck es=> uM r fun ds l=> k (.mz ck es::ds) ((s,g)::l)
 | .row s g _::r,k=> .yC s g fun es=> uM r fun ds l=> k (.fz es::ds) ((s,g)::l)
 | _::_,_=> .fail
def cellL:List AV→(List D→List (Nat×Nat)→Step)→Step
 | [],k=> k [] []
 | .d x::r,k=> cellL r fun ds l=> k (x::ds) l
 | .mp s g::r,k=> .OO s g fun ck es=> cellL r fun ds l=> k (.mz ck es::ds) ((s,g)::l)
 | .row s g _::r,k=> .yC s g fun es=> cellL r fun ds l=> k (.fz es::ds) ((s,g)::l)
 | .lp s g o::r,k=> .Am s g fun cs=> uM (cs.drop o) fun ds0 l0=> cellL r fun ds l=> k (.pz ds0::ds) ((s,g)::(l0 ++ l))
 | .fp cs::r,k=> cellL r fun ds l=> k (.pz cs::ds) l
 | _::_,_=> .fail
def arg0:AV→(AV→List (Nat×Nat)→Step)→Step
 | .d x,k=> k (.d x) []
 | .nl,k=> k (.d (.fz [])) []
 | .row s g _,k=> .yC s g fun es=> k (.d (.fz es)) [(s,g)]
 | .sub s g o n,k=> .yC s g fun es=> k (.d (.fz ((es.drop o).take n))) [(s,g)]
 | .lp s g o,k=> .Am s g fun cs=> cellL (cs.drop o) fun ds l=> k (.fp ds) ((s,g)::l)
 | .fp ds,k=> k (.fp ds) []
 | _,_=> .fail
def OU:List AV→(List AV→List (Nat×Nat)→Step)→Step
 | [],k=> k [] []
 | v::vs,k=> arg0 v fun x l=> OU vs fun xs m=> k (x::xs) (l ++ m)
def arg1 (v:AV) (k:AV→List (Nat×Nat)→Step):Step:=match v with
 | .fn f cs=> OU cs fun ys l=> k (.fn f ys) l
 | v=> arg0 v k
def kJ:List (Option AV)→(List AV→List (Nat×Nat)→Step)→Step
 | [],k=> k [] []
 | some (.agg cs)::vs,k=> OU cs fun x l=> kJ vs fun xs m=> k (.agg x::xs) (l ++ m)
 | some v::vs,k=> arg1 v fun x l=> kJ vs fun xs m=> k (x::xs) (l ++ m)
 | none::_,_=> .fail
def Xr:List (Nat×Nat)→Step→Step
 | [],k=> k
 | (s,g)::l,k=> .nV s g (Xr l k)
def ahU (s:Nat) (f:FuncId) (args:List (Option AV)):Step:=
 kJ args fun xs l=> .call f xs fun r=> bif scalar r then recv s r .ret else Xr l (recv s r .ret)
def NQ (s sz:Nat):Option AV→Step
 | some .nl=> .new s (.rows sz [] false) fun g=> .ret (.row s g 0)
 | v=> uK v
def Bl:Option AV→Option AV→Option AV→Step
 | some (.kb true),a,_=> uK a
 | some (.kb false),_,b=> uK b
 | some (.d (.v (.bool t))),a,b=> .br t (uK a) (uK b)
 | _,_,_=> .fail
def Xt (t:TI) (s:Nat) (v:AV):Step:=bif (cellsOf v).all jX then settle s t.cz 0 (cellsOf v) fun cs=> .new s (.box cs) fun g=> .ret (.lp s g 0) else .fail
def J7 (t:TI) (s:Nat):Step:=bif t.known then Xt t s (unk (ofConst t.zero)) else .fail
def ajw (t:TI) (s:Nat):Option AV→Step
 | some v=> Xt t s v
 | none=> .fail
def nZ (sz n:Nat):Nat→List (Nat×Option AV)→(List (List D)→Step)→Step
 | i,[],k=> bif Nat.beq i n then k [] else .fail
 | i,(j,some v)::r,k=> bif Nat.beq i j && Nat.beq (cellsOf v).length sz && (cellsOf v).all jX then lI (cellsOf v) fun ds=> nZ sz n (i + 1) r fun es=> k (ds::es) else .fail
 | _,(_,none)::_,_=> .fail
def vU (te:TI) (s n:Nat) (parts:List (Nat×Option AV)):Step:=bif te.known && Nat.ble (n * te.size) 1000000 && Nat.blt 0 te.size then nZ te.size n 0 parts fun es=> .new s (.rows te.size es false) fun g=> .ret (.row s g n) else .fail
def zu (t:TI):Option AV→Step
 | some (.fp cs)=> ldD t cs
 | some (.lp s g o)=> .Am s g fun cs=> ldA t (cs.drop o)
 | some (.rp s g i o)=> .yC s g fun es=> .elem es i fun c=> ldD t (c.drop o)
 | _=> .fail
def uN (t:TI):Option AV→Option AV→Step
 | some (.lp s g o),some v=> bif t.known && (cellsOf v).all jX && Nat.beq (cellsOf v).length t.size then
    settle (s + 1048576 * (o + 1)) t.cz 0 (cellsOf v) fun vs=> .Am s g fun cs=> bif Nat.ble (o + vs.length) cs.length then .wr s g (.box (over cs o vs)) (.ret (.bH [])) else .fail
   else .fail
 | some (.rp s g i o),some v=> bif t.known && (cellsOf v).all jX && Nat.beq (cellsOf v).length t.size then
    lI (cellsOf v) fun vs=> .RZ s g fun sz es=> .elem es i fun c=> bif Nat.ble (o + vs.length) sz then .wr s g (.rows sz (es.set i (over c o vs)) false) (.ret (.bH [])) else .fail
   else .fail
 | _,_=> .fail
def Xu (t:TI) (op:BinOp):Option AV→Option AV→Step
 | some (.agg xs),some (.agg ys)=> match op,nY t.ek xs ys,t.eqs with
   | .eql,some b,true=> .ret (B b)
   | .neq,some b,true=> .ret (B (!b))
   | _,_,_=> .fail
 | some a,some b=> aeN t.k op a b
 | _,_=> .fail
def unF:UnOp→Option AV→Step
 | .not,some (.d (.v (.bool b)))=> .ret (B (!b))
 | .neg,some (.d (.v (.int k n)))=> .ret (.d (.v (.int k (k.wrap (0 - n)))))
 | _,_=> .fail
def aqm (k:TK) (x:Option AV) (lo hi:Option (Option AV)):Step:=match k,x with
 | .str,some (.d (.v (.string a)))=> match qQ lo 0,qQ hi a.size with
  | some l,some h=> .chk (0≤l∧l≤h∧h≤a.size) (.ret (.d (.v (.string (a.extract l.toNat h.toNat)))))
  | _,_=> .fail
 | .slice _ z,some (.d (.fz es))=> match qQ lo 0,qQ hi es.length with
  | some l,some h=> .chk (0≤l∧l≤h∧h≤es.length∧∀c∈es,c.length=z) (.ret (.d (.fz ((es.take h.toNat).drop l.toNat))))
  | _,_=> .fail
 | .slice _ z,some (.row s g n)=> match qQ lo 0,qQ hi n with
  | some l,some h=> .chk (0≤l∧l≤h∧h≤n) (.OQ s g z (.ret (.sub s g l.toNat (h - l).toNat)))
  | _,_=> .fail
 | .slice _ z,some (.sub s g o n)=> match qQ lo 0,qQ hi n with
  | some l,some h=> .chk (0≤l∧l≤h∧h≤n) (.OQ s g z (.ret (.sub s g (o + l.toNat) (h - l).toNat)))
  | _,_=> .fail
 | _,_=> .fail
def J8 (k:TK) (f:Nat) (x:Option AV):Step:=match k with
 | .struct fs=> match fs[f]?,x with
  | some (o',_,_ + 1),some (.lp s g o)=> .ret (.lp s g (o + o'))
  | some (o',_,_ + 1),some (.fp cs)=> .ret (.fp (cs.drop o'))
  | some (o',_,_ + 1),some (.rp s g i o)=> .ret (.rp s g i (o + o'))
  | _,_=> .fail
 | _=> .fail
def uO (k:TK) (x ix:Option AV):Step:=match k,x,ix with
 | .array n _ z,some (.lp s g o),some (.d (.v (.int _ i)))=> .chk (0≤i∧i < n) (.ret (.lp s g (o + i.toNat * z)))
 | .array n _ z,some (.fp cs),some (.d (.v (.int _ i)))=> .chk (0≤i∧i < n) (.ret (.fp (cs.drop (i.toNat * z))))
 | .array n _ z,some (.rp s g j o),some (.d (.v (.int _ i)))=> .chk (0≤i∧i < n) (.ret (.rp s g j (o + i.toNat * z)))
 | .slice _ z,some (.d (.fz es)),some (.d (.v (.int _ i)))=> .chk (0≤i∧i < es.length) (.elem es i.toNat fun c=> .chk (c.length=z) (.ret (.fp c)))
 | .slice _ z,some (.row s g n),some (.d (.v (.int _ i)))=> .chk (0≤i∧i < n) (.OQ s g z (.ret (.rp s g i.toNat 0)))
 | .slice _ z,some (.sub s g o n),some (.d (.v (.int _ i)))=> .chk (0≤i∧i < n) (.OQ s g z (.ret (.rp s g (o + i.toNat) 0)))
 | _,_,_=> .fail
def vV (i:Nat):Option AV→Step
 | some (.bH vs)=> uK vs[i]?
 | _=> .fail
def Si:TK→Option AV→Step
 | .str,some (.d (.v (.string a)))=> .ret (I a.size)
 | .slice _ _,some (.d (.fz es))=> .ret (I es.length)
 | .slice _ _,some .nl=> .ret (I 0)
 | .slice _ _,some (.row _ _ n)=> .ret (I n)
 | .slice _ _,some (.sub _ _ _ n)=> .ret (I n)
 | .array n _ _,some _=> .ret (I n)
 | .map _ _,some (.mp s g)=> .OO s g fun _ es=> .ret (I es.length)
 | .map _ _,some (.d (.mz _ es))=> .ret (I es.length)
 | _,_=> .fail
def cap1:AV→Bool
 | .d _=> true
 | .lp _ _ _=> true
 | .fp _=> true
 | _=> false
def uP (s:Nat) (fv:Option AV) (xs:List (Option AV)):Step:=match fv with
 | some (.fn f cs)=> bif cs.all cap1 then ahU s f (xs ++ cs.map some) else .fail
 | _=> .fail
def Il:CK→Bool
 | .i .i64=> true
 | _=> false
def aeO:Value→Bool
 | .int .i64 _=> true
 | _=> false
def ahV:CK→Value→Bool
 | .st n,.agg cs=> decide (cs.toList.length=n) && cs.toList.all aeO
 | .i a,.int b _=> decide (b=a)
 | .b,.bool _=> true
 | .s,.string _=> true
 | _,_=> false
def aqn (T:Nat→TI) (f:Nat):Nat:=(T (1000000 + f)).bytes
def qI (T:Nat→TI):Operand→Nat
 | .func f=> aqn T f
 | _=> 0
def iL (T:Nat→TI) (base:Nat) (env:Nat→Option AV) (o:Oper):Step:=
 match o.op with
 | .move x=> NQ (base + o.dst.getD 0) ((T o.type).cz.getD 0 0) (cO env x)
 | .assign x=> NQ (base + o.dst.getD 0) ((T o.type).cz.getD 0 0) (cO env x)
 | .pick c a b=> Bl (cO env c) (cO env a) (cO env b)
 | .alloc e=> J7 (T e) (base + o.dst.getD 0)
 | .box e x=> ajw (T e) (base + o.dst.getD 0) (aJ env x)
 | .buildSlice t n parts=> match (T t).k with
  | .slice e _=> vU (T e) (base + o.dst.getD 0) n (parts.toList.map fun p=> (p.1,aJ env p.2))
  | _=> .fail
 | .load t a=> zu (T t) (aJ env a)
 | .store t a x=> uN (T t) (aJ env a) (aJ env x)
 | .binOp op t x y _=> Xu (T t) op (aJ env x) (aJ env y)
 | .unOp op _ x=> unF op (aJ env x)
 | .fieldAddr t x f=> J8 (T t).k f (aJ env x)
 | .indexAddr t x ix=> uO (T t).k (aJ env x) (aJ env ix)
 | .extract x i=> vV i (aJ env x)
 | .call {callee:= .builtin .len,args:=⟨[x]⟩,argTypes:=⟨[t]⟩}=> Si (T t).k (aJ env x)
 | .call {callee:= .value fv,args:=xs,.. }=> bif Nat.beq (qI T fv) 0 then uP (base + o.dst.getD 0) (aJ env fv) (xs.toList.map (aJ env)) else .fail
 | _=> .fail
structure IFp (b:Bool) (X Y:Prop):Prop where
 t:b=true→X
 f:b=false→Y
def Step.wp (F:FuncId→List AV→AV→Prop):Step→Mem→(AV→Mem→Prop)→Prop
 | .ret v,m,K=> K v m
 | .Am s g k,m,K=> match m.at_ s g with
  | some (.box cs)=> (k cs).wp F m K
  | _=> False
 | .yC s g k,m,K=> match m.at_ s g with
  | some (.rows _ es _)=> (k es).wp F m K
  | _=> False
 | .OO s g k,m,K=> match m.at_ s g with
  | some (.qP ck es)=> (k ck es).wp F m K
  | _=> False
 | .RZ s g k,m,K=> match m.at_ s g with
  | some (.rows sz es false)=> (k sz es).wp F m K
  | _=> False
 | .OQ s g z k,m,K=> match m.at_ s g with
  | some (.rows sz _ _)=> bif Nat.beq sz z then k.wp F m K else False
  | _=> False
 | .wr s g i k,m,K=> k.wp F (m.set s g (some i)) K
 | .new s i k,m,K=> (k (m.gen s + 1)).wp F (m.add s i) K
 | .app s g sz xs k,m,K=> match m.at_ s g with
  | some (.rows sz' es false)=> bif Nat.beq sz sz' then (k (m.gen s + 1)).wp F ((m.set s g none).add s (.rows sz (es ++ xs) false)) K else False
  | _=> False
 | .nV s g k,m,K=> match m.at_ s g with
  | some (.rows sz es _)=> k.wp F (m.set s g (some (.rows sz es true))) K
  | _=> False
 | .elem es i k,m,K=> ∃c,es[i]? =some c∧(k c).wp F m K
 | .call f args k,m,K=> ∃r,F f args r∧(k r).wp F m K
 | .chk p k,m,K=> p∧k.wp F m K
 | .br b x y,m,K=> IFp b (x.wp F m K) (y.wp F m K)
 | .fail,_,_=> False
open Go.RowKit
def aZ (env:Nat→Option AV) (dst:Option Tmp) (v:AV):Nat→Option AV:=
 match dst with
 | some d=> jI env d (some v)
 | none=> env
def oN (ops:List Oper) (j:Nat):Option Tmp:=match ops[j]? with
 | some o=> o.dst
 | none=> none
def TK.isMap:TK→Bool
 | .map _ _=> true
 | _=> false
def fZ (T:Nat→TI):Op→Nat
 | .pick .. => 0
 | .build .. => 0
 | .binOp .. => 0
 | .unOp .. => 0
 | .nilCheck .. => 0
 | .convert .. => 0
 | .makeFunc .. => 0
 | .fieldAddr .. => 0
 | .field .. => 0
 | .index .. => 0
 | .extract .. => 0
 | .call {callee:= .builtin .len,argTypes:=ts,.. }=> bif ts.toList.any fun t=> (T t).k.isMap then 1 else 0
 | .call {callee:= .builtin .min,.. }=> 0
 | .call {callee:= .builtin .max,.. }=> 0
 | .move .. => 1
 | .assign .. => 1
 | .load .. => 1
 | .alloc .. => 1
 | .box .. => 1
 | .buildSlice .. => 1
 | .slice .. => 1
 | .indexAddr .. => 1
 | .lookup .. => 1
 | .makeMap _ none=> 1
 | .call {callee:= .value fv,.. }=> bif Nat.beq (qI T fv) 0 || Nat.beq (qI T fv) 7 then 1 else 2
 | _=> 2
def vW (o:Oper):Bool:=match o.dst with
 | some d=> Nat.blt d 65536
 | none=> true
def Bo (T:Nat→TI) (ops:Array Oper) (b:Array Nat) (i j:Nat):Bool:=
 (b.getD j 0).testBit i || match ops[i]?,ops[j]? with
  | some x,some y=> x.apart ops y && (Nat.beq (fZ T x.op) 0 || Nat.beq (fZ T y.op) 0 || (Nat.beq (fZ T x.op) 1 && Nat.beq (fZ T y.op) 1 && x.dst.isSome && y.dst.isSome && vW x && vW y))
  | _,_=> false
def J9 (T:Nat→TI) (ops:Array Oper):Bool:=let b:=Region.before ops
 (List.range ops.size).all fun j=> ((ops[j]?).any fun o=> o.after.all fun e=> !Region.binds .any e || Nat.blt e.on j) && (List.range j).all fun i=> Bo T ops b i j
def isApp:Op→Bool
 | .call {callee:= .builtin .append,.. }=> true
 | _=> false
def yD (o:Oper):Option Operand:=match o.op with
 | .call {callee:= .builtin .append,args:=⟨x::_⟩,.. }=> some x
 | _=> none
def rootOf (ops:List Oper):Nat→Tmp→Option Nat
 | 0,_=> none
 | n + 1,t=> match ops.find? (fun o=> match o.dst with
   | some d=> Nat.beq d t
   | none=> false) with
  | none=> none
  | some o=> match o.op with
   | .buildSlice .. => some t
   | _=> match yD o with
    | some (.tmp u)=> rootOf ops n u
    | _=> none
def Ko (ops:List Oper) (o:Oper):Option Nat:=match yD o with
 | some (.tmp u)=> rootOf ops ops.length u
 | _=> none
def Xv:Op→Bool
 | .store .. => true
 | _=> false
def Bq (ops:List Oper):Bool:=ops.dropLast.any fun o=> Xv o.op
def Bv:Op→Bool
 | .move .. => true
 | .assign .. => true
 | .load .. => true
 | _=> false
def zx:AV→Bool
 | .d _=> true
 | _=> false
def ajx:AV→Bool
 | .rp _ _ _ _=> true
 | _=> false
def ajy:AV→Bool
 | .lp _ _ _=> true
 | .fp _=> true
 | _=> false
def vX (ops:List Oper):Nat→Tmp→Tmp
 | 0,t=> t
 | n + 1,t=> match ops.find? (fun o=> match o.dst with
   | some d=> Nat.beq d t
   | none=> false) with
  | none=> t
  | some o=> match o.op with
   | .fieldAddr _ (.tmp u) _=> vX ops n u
   | .move (.tmp u)=> vX ops n u
   | .nilCheck (.tmp u)=> vX ops n u
   | _=> t
def sQ (ops:List Oper):List Tmp:=ops.filterMap fun o=> match o.op with
 | .store _ (.tmp u) _=> some (vX ops ops.length u)
 | _=> none
def aaK (R:List Nat):AV→Bool
 | .lp s _ _=> R.any fun r=> Nat.beq r s
 | _=> false
def uz (ops:List Oper) (env:Nat→Option AV) (o:Oper):Bool:=bif Bq ops then (match o.op with
 | .store _ a x=> (aJ env a).any (fun v=> ajx v || aaK (sQ ops) v) && (aJ env x).any fun v=> (cellsOf v).all zx
 | .load _ a=> (aJ env a).any fun v=> ajy v && !aaK (sQ ops) v
 | _=> true) else true
def aaL (base:Nat) (ops:List Oper) (env:Nat→Option AV) (o:Oper):Bool:=bif isApp o.op then (match yD o with
 | some x=> match aJ env x with
  | some (.row s _ _)=> (match Ko ops o with
   | some d=> Nat.beq s (base + d)
   | none=> true)
  | some .nl=> false
  | some (.sub _ _ _ _)=> false
  | _=> true
 | none=> false) else true
def quiet (ops:List Oper):Bool:= !(ops.any fun o=> isApp o.op) && !(Bq ops)
def aqo:Op→Bool
 | .move _=> true
 | .assign _=> true
 | .load .. => true
 | .indexAddr .. => true
 | _=> false
def aqp:Op→Bool
 | .move (.tmp _)=> true
 | _=> false
def yE (ops:List Oper) (o:Oper):Bool:=(quiet ops && aqo o.op || aqp o.op) && o.guard.isNone
def Bz:AV→Bool
 | .nl=> false
 | _=> true
def aqr:AV→Bool
 | .fp _=> true
 | _=> false
def aqs:AV→Bool
 | .d (.fz _)=> true
 | _=> false
def yF (env:Nat→Option AV) (o:Oper):Bool:=match o.op with
 | .move x=> (cO env x).any Bz
 | .assign x=> (cO env x).any Bz
 | .load _ a=> (aJ env a).any aqr
 | .indexAddr _ x _=> (aJ env x).any aqs
 | _=> false
def Io (ops:List Oper) (env:Nat→Option AV) (o:Oper):Bool:=bif yE ops o then yF env o else true
def jY (base:Nat) (ops:List Oper) (env:Nat→Option AV) (o:Oper):Bool:=uz ops env o && aaL base ops env o && Io ops env o
def Vu (T:Nat→TI) (ops:Array Oper) (b:Array Nat) (i j:Nat):Bool:=
 Bo T ops b i j || match ops[i]?,ops[j]? with
  | some x,some y=> x.apart ops y && isApp x.op && Nat.beq (fZ T y.op) 1 && (match Ko ops.toList x,y.dst with
   | some d,some e=> Nat.blt d 65536 && Nat.blt e 65536 && !Nat.beq d e
   | _,_=> false) || (x.apart ops y && Xv x.op && Bv y.op && Bq ops.toList) || (x.apart ops y && yE ops.toList y)
  | _,_=> false
def Kq (T:Nat→TI) (ops:Array Oper) (b:Array Nat):List Nat→Bool
 | []=> true
 | i::r=> Nat.blt i ops.size && (r.all fun j=> !Nat.beq i j && Vu T ops b i j) && Kq T ops b r
def Az (T:Nat→TI) (ops:Array Oper) (c:List Nat):Bool:=let b:=Region.before ops
 ((List.range ops.size).all fun j=> ((ops[j]?).any fun o=> o.after.all fun e=> !Region.binds .any e || Nat.blt e.on j) && c.contains j) && (Nat.ble c.length ops.size && Kq T ops b c)
section
variable (T : Nat → TI) (base nt : Nat) (F : FuncId → List AV → AV → Prop)
def jw (o:Oper):Bool:=match o.dst with
 | some d=> Nat.blt d nt
 | none=> true
def bF (ops:List Oper):List Oper→fJ→(fJ→Prop)→Prop
 | [],st,K=> K st
 | o::r,st,K=> bif !jw nt o then False else match o.guard with
  | none=> (iL T base st.env o).wp F st.m fun v m=> bF ops r ⟨aZ st.env o.dst v,m⟩ K
  | some (j,want)=> match oN ops j with
   | none=> False
   | some t=> match st.env t with
    | some (.kb true)=> bif want then (iL T base st.env o).wp F st.m fun v m=> bF ops r ⟨aZ st.env o.dst v,m⟩ K else bF ops r ⟨aZ st.env o.dst (.bH []),st.m⟩ K
    | some (.kb false)=> bif want then bF ops r ⟨aZ st.env o.dst (.bH []),st.m⟩ K else (iL T base st.env o).wp F st.m fun v m=> bF ops r ⟨aZ st.env o.dst v,m⟩ K
    | some (.d (.v (.bool b)))=> bif want
     then IFp b ((iL T base (jI st.env t (some (.kb true))) o).wp F st.m fun v m=> bF ops r ⟨aZ (jI st.env t (some (.kb true))) o.dst v,m⟩ K) (bF ops r ⟨aZ (jI st.env t (some (.kb false))) o.dst (.bH []),st.m⟩ K)
     else IFp b (bF ops r ⟨aZ (jI st.env t (some (.kb true))) o.dst (.bH []),st.m⟩ K) ((iL T base (jI st.env t (some (.kb false))) o).wp F st.m fun v m=> bF ops r ⟨aZ (jI st.env t (some (.kb false))) o.dst v,m⟩ K)
    | some (.bH [])=> bF ops r ⟨aZ st.env o.dst (.bH []),st.m⟩ K
    | _=> False
def G8 (ops:Array Oper):List Nat→fJ→(fJ→Prop)→Prop
 | [],st,K=> K st
 | i::r,st,K=> match ops[i]? with
  | none=> False
  | some o=> jY base ops.toList st.env o=true∧bF T base nt F ops.toList [o] st fun st'=> G8 ops r st' K
inductive Ex where
 | normal | exit (id:Nat) | ret
def Vw:List (Nat×AV)→Nat→Option AV
 | [],_=> none
 | (t,v)::r,x=> bif Nat.beq x t then some v else Vw r x
def og:List (Nat×Inst)→Nat→Option Inst
 | [],_=> none
 | (t,v)::r,x=> bif Nat.beq x t then some v else og r x
def uh (E:List (Nat×AV)) (M:List (Nat×Inst)):fJ:=⟨Vw E,fun s g=> bif Nat.beq g 1 then og M s else none,fun _=> 1⟩
def sig:List (Nat×Nat×Nat)→Nat→Nat×Nat
 | [],x=> (x,1)
 | (l,p)::r,x=> bif Nat.beq x l then p else sig r x
def Ap (σ:List (Nat×Nat×Nat)):AV→AV
 | .lp s _ o=> .lp (sig σ s).1 (sig σ s).2 o
 | .rp s _ i o=> .rp (sig σ s).1 (sig σ s).2 i o
 | .row s _ n=> .row (sig σ s).1 (sig σ s).2 n
 | .sub s _ o n=> .sub (sig σ s).1 (sig σ s).2 o n
 | .mp s _=> .mp (sig σ s).1 (sig σ s).2
 | v=> v
def OV:AV→Bool
 | .lp _ g _=> Nat.beq g 1
 | .rp _ g _ _=> Nat.beq g 1
 | .row _ g _=> Nat.beq g 1
 | .sub _ g _ _=> Nat.beq g 1
 | .mp _ g=> Nat.beq g 1
 | .d _=> true
 | .nl=> true
 | .fp _=> true
 | _=> false
def Xw:AV→Bool
 | .agg cs=> cs.all OV
 | .bH cs=> cs.all OV
 | .fn _ cs=> cs.all OV
 | v=> OV v
def aaM (σ:List (Nat×Nat×Nat)):AV→AV
 | .agg cs=> .agg (cs.map (Ap σ))
 | .bH cs=> .bH (cs.map (Ap σ))
 | .fn f cs=> .fn f (cs.map (Ap σ))
 | v=> Ap σ v
def Sj (σ:List (Nat×Nat×Nat)):Inst→Inst
 | .box cs=> .box (cs.map (Ap σ))
 | i=> i
def Xx:Inst→Bool
 | .box cs=> cs.all OV
 | _=> true
def Vx (m:Mem) (v x:AV):AV:=match v with
 | .sub _ _ _ _=> match x with
  | .row s g n=> .sub s g 0 n
  | x=> x
 | .d (.fz _)=> match x with
  | .row s g n=> match m.at_ s g with
   | some (.rows _ es true)=> .d (.fz es)
   | _=> .row s g n
  | .sub s g o n=> match m.at_ s g with
   | some (.rows _ es true)=> .d (.fz ((es.drop o).take n))
   | _=> .sub s g o n
  | .nl=> .d (.fz [])
  | x=> x
 | _=> x
def qR (m:Mem):List AV→List AV→List AV
 | v::vs,x::xs=> Vx m v x::qR m vs xs
 | _,xs=> xs
def BA (m:Mem) (v x:AV):AV:=match v with
 | .agg vs=> match x with
  | .agg xs=> .agg (qR m vs xs)
  | x=> x
 | v=> Vx m v x
def BD (m:Mem) (v x:Inst):Inst:=match v with
 | .box vs=> match x with
  | .box xs=> .box (qR m vs xs)
  | x=> x
 | _=> x
def G9 {α β:Type} (f:α→β):Option α→Option β
 | some x=> some (f x)
 | none=> none
def oO (σ:List (Nat×Nat×Nat)) (st:fJ):List (Nat×AV)→Prop
 | []=> True
 | (t,v)::r=> bif Xw v then G9 (BA st.m v) (iD (st.env t))=some (aaM σ v)∧oO σ st r else False
def vY (σ:List (Nat×Nat×Nat)) (st:fJ):List (Nat×Inst)→Prop
 | []=> True
 | (s,i)::r=> bif Xx i then G9 (BD st.m i) (st.m.at_ (sig σ s).1 (sig σ s).2)=some (Sj σ i)∧vY σ st r else False
def aeP (σ:List (Nat×Nat×Nat)):Bool:=σ.all fun p=> Nat.ble p.1 1000000
def Kr (σ:List (Nat×Nat×Nat)):List (Nat×Inst)→Bool
 | []=> aeP σ
 | (l,_)::r=> r.all (fun q=> !(Nat.beq (sig σ l).1 (sig σ q.1).1 && Nat.beq (sig σ l).2 (sig σ q.1).2)) && Kr σ r
def Sl (m:Mem):List (Nat×Nat)→Option Mem
 | []=> some m
 | (s,g)::r=> match m.at_ s g with
  | some (.rows sz es _)=> Sl (m.set s g (some (.rows sz es true))) r
  | _=> none
def Enters (st:fJ) (E:List (Nat×AV)) (M:List (Nat×Inst)):Prop:=∃fl σ,match Sl st.m fl with
 | some m=> Kr σ M=true∧oO σ ⟨st.env,m⟩ E∧vY σ ⟨st.env,m⟩ M
 | none=> False
structure Vy (body:fJ→(Ex→fJ→Prop)→Prop) (st:fJ) (Q:Ex→fJ→Prop):Prop where
 h:∃(X:Type) (E:X→List (Nat×AV)) (M:X→List (Nat×Inst)) (J:Nat→X→Prop),
  (∃n x,J n x∧Enters st (E x) (M x))∧
  ∀n x,J n x→body (uh (E x) (M x)) fun e st'=> match e with
   | .normal=> ∃x',(∃m,m < n∧J m x')∧Enters st' (E x') (M x')
   | e=> Q e st'
structure aaN (x:(Ex→fJ→Prop)→Prop) (y:fJ→(Ex→fJ→Prop)→Prop) (Q:Ex→fJ→Prop):Prop where
 h:∃(X:Type) (E:X→List (Nat×AV)) (M:X→List (Nat×Inst)) (J:X→Prop),
  (x fun e st'=> match e with
   | .normal=> ∃z,J z∧Enters st' (E z) (M z)
   | e=> Q e st')∧
  ∀z,J z→y (uh (E z) (M z)) Q
def uQ:Code→Option Nat
 | .region i _ _=> some i
 | .seq a b=> match uQ a with
  | some i=> some i
  | none=> uQ b
 | .cond _ a b=> match uQ a with
  | some i=> some i
  | none=> uQ b
 | .block _ c=> uQ c
 | .loop c=> uQ c
 | _=> none
def am4:List Nat→Nat→Bool
 | [],_=> false
 | a::r,x=> bif Nat.beq a x then true else am4 r x
def uS (js:List Nat) (c:Code):Bool:=match uQ c with
 | some i=> am4 js i
 | none=> false
variable (js : List Nat)
def AW:Code→fJ→(Ex→fJ→Prop)→Prop
 | .skip,st,Q=> Q .normal st
 | .region _ ops false,st,Q=> bF T base nt F ops.toList ops.toList st (Q .normal)
 | .region _ ops true,st,Q=> (J9 T ops=true∧bF T base nt F ops.toList ops.toList st (Q .normal))∨∃c,Az T ops c=true∧G8 T base nt F ops c st (Q .normal)
 | .seq a b,st,Q=> bif uS js b then aaN (AW a st) (AW b) Q else AW a st fun e st'=> match e with
  | .normal=> AW b st' Q
  | e=> Q e st'
 | .cond c x y,st,Q=> match cO st.env c with
  | some (.kb true)=> AW x st Q
  | some (.kb false)=> AW y st Q
  | some (.d (.v (.bool b)))=> IFp b (AW x st Q) (AW y st Q)
  | _=> False
 | .block id c,st,Q=> AW c st fun e st'=> match e with
  | .exit i=> bif Nat.beq i id then Q .normal st' else Q (.exit i) st'
  | e=> Q e st'
 | .loop c,st,Q=> Vy (AW c) st Q
 | .exit id,st,Q=> Q (.exit id) st
 | .ret,st,Q=> Q .ret st
 | _,_,_=> False
end
def unused (used:List (Nat×Nat)) (s g:Nat):Bool:=used.all fun p=> !(Nat.beq p.1 s && Nat.beq p.2 g)
def aaO (m:Mem) (used:List (Nat×Nat)) (v r:AV) (K:List (Nat×Nat)→Prop):Prop:=
 match r with
 | .ow sz es=> match v with
  | .nl=> es= []∧K used
  | .row s g _=> match m.at_ s g with
   | some (.rows sz' es' false)=> bif unused used s g then es'=es∧sz'=sz∧K ((s,g)::used) else False
   | _=> False
  | _=> False
 | .d x=> match v with
  | .d y=> y=x∧K used
  | .nl=> x= .fz []∧K used
  | .row s g _=> match m.at_ s g with
   | some (.rows _ es' _)=> bif unused used s g then x= .fz es'∧K ((s,g)::used) else False
   | _=> False
  | .sub s g o n=> match m.at_ s g with
   | some (.rows _ es' _)=> bif unused used s g then x= .fz ((es'.drop o).take n)∧K ((s,g)::used) else False
   | _=> False
  | _=> False
 | _=> False
def ajz (m:Mem):List (Nat×Nat)→List AV→List AV→(List (Nat×Nat)→Prop)→Prop
 | used,[],[],K=> K used
 | used,v::vs,r::rs,K=> aaO m used v r fun used=> ajz m used vs rs K
 | _,_,_,_=> False
def aeQ (m:Mem) (used:List (Nat×Nat)) (v r:AV) (K:List (Nat×Nat)→Prop):Prop:=
 match r with
 | .agg rs=> match v with
  | .agg vs=> ajz m used vs rs K
  | _=> False
 | r=> aaO m used v r K
def aeR (m:Mem):List (Nat×Nat)→List AV→List AV→(List (Nat×Nat)→Prop)→Prop
 | used,[],[],K=> K used
 | used,v::vs,r::rs,K=> aeQ m used v r fun used=> aeR m used vs rs K
 | _,_,_,_=> False
def aeS (T:Nat→TI) (st:fJ):ResultVar→(AV→Prop)→Prop
 | .tmp t,K=> match st.env t with
  | some v=> K (unk v)
  | none=> False
 | .cell t ty,K=> match st.env t with
  | some (.lp s g o)=> match st.m.at_ s g with
   | some (.box cs)=> match ldA (T ty) (cs.drop o) with
    | .ret v=> K v
    | _=> False
   | _=> False
  | _=> False
def ajA (T:Nat→TI) (st:fJ):List ResultVar→(List AV→Prop)→Prop
 | [],K=> K []
 | x::xs,K=> aeS T st x fun v=> ajA T st xs fun vs=> K (v::vs)
def ajB (T:Nat→TI) (rs:List ResultVar) (r:AV) (st:fJ):Prop:=ajA T st rs fun vs=> match vs with
 | [v]=> aeQ st.m [] v r fun _=> True
 | vs=> match r with
  | .bH ps=> aeR st.m [] vs ps fun _=> True
  | _=> False
def aeT:List AV→Nat→Option AV
 | [],_=> none
 | v::_,0=> some v
 | _::vs,n + 1=> aeT vs n
def st0 (args:List AV):fJ:=⟨aeT args,fun _ _=> none,fun _=> 0⟩
def aqt (T:Nat→TI) (rs:List ResultVar) (r:AV):Ex→fJ→Prop
 | .normal,st=> ajB T rs r st
 | .ret,st=> ajB T rs r st
 | .exit _,_=> False
end
section
open Go.RowKit
inductive aV (S:Nat→Prop) (w:World):D→Value→Prop
 | v (x:Value) (h:x.oneCell'=true):aV S w (.v x) x
 | fz0 (A:Option Addr) (c:Nat) (h:A=none→c=0):aV S w (.fz []) (.slice A 0 c)
 | fz (es:List (List D)) (b o sz c:Nat) (vs:Nat→Value) (hs:∀e∈es,e.length=sz) (hb:S b) (hcap:es.length≤c)
   (hc:∀j,j < es.length * sz→w.cell? ⟨b,o + j,none⟩=some (vs j))
   (hr:∀(i j:Nat) (e:List D) (x:D),es[i]? =some e→e[j]? =some x→aV S w x (vs (i * sz + j))):aV S w (.fz es) (.slice (some ⟨b,o,none⟩) es.length c)
 | mz (ck:CK) (es:List (Value×D)) (b:Nat) (ents:Array MapEntry) (clock:Nat) (vs:Nat→Array Value) (hb:S b) (hh:w.heap[b]? =some (.map ents clock)) (hst:MapKept.Stamped ents clock) (hl:ents.size=es.length)
   (hk:∀(j:Nat) (p:Value×D) (e:MapEntry),es[j]? =some p→ents[j]? =some e→e.key=p.1∧ahV ck p.1=true)
   (h1:∀(j:Nat) (p:Value×D) (e:MapEntry),es[j]? =some p→ents[j]? =some e→(∀cs,p.2≠ .ag cs)→aV S w p.2 e.val)
   (h2:∀(j:Nat) (p:Value×D) (e:MapEntry) (cs:List D),es[j]? =some p→ents[j]? =some e→p.2= .ag cs→e.val= .agg (vs j)∧(vs j).size=cs.length)
   (h3:∀(j:Nat) (p:Value×D) (cs:List D) (i:Nat) (x:D) (y:Value),es[j]? =some p→p.2= .ag cs→cs[i]? =some x→(vs j)[i]? =some y→aV S w x y):aV S w (.mz ck es) (.map (some b))
 | pz (cs:List D) (b o:Nat) (vs:Nat→Value) (hb:S b) (hc:∀j,j < cs.length→w.cell? ⟨b,o + j,none⟩=some (vs j)) (hr:∀(j:Nat) (x:D),cs[j]? =some x→aV S w x (vs j)):aV S w (.pz cs) (.pointer (some ⟨b,o,none⟩))
theorem aV.one {S:Nat→Prop} {w:World} {x:D} {v:Value} (h:aV S w x v):v.oneCell'=true:=by
 cases h with
 | v _ h=> exact h
 | fz0=> rfl
 | fz=> rfl
 | mz=> rfl
 | pz=> rfl
theorem aV.mono {S S':Nat→Prop} {w w':World} (hS:∀b,S b→S' b) (hw:∀b,S b→w'.heap[b]? =w.heap[b]?) {x:D} {v:Value} (h:aV S w x v):aV S' w' x v:=by
 induction h with
 | v x h=> exact .v x h
 | fz0 A c h=> exact .fz0 A c h
 | fz es b o sz c vs hs hb hcap hc hr ih=> exact .fz es b o sz c vs hs (hS b hb) hcap (fun j hj=> by rw [World.cell?_of_block (w:=w) (hw b hb)];exact hc j hj) ih
 | mz ck es b ents clock vs hb hh hst hl hk h1 h2 h3 ih1 ih3=> exact .mz ck es b ents clock vs (hS b hb) (by rw [hw b hb];exact hh) hst hl hk ih1 h2 ih3
 | pz cs b o vs hb hc hr ih=> exact .pz cs b o vs (hS b hb) (fun j hj=> by rw [World.cell?_of_block (w:=w) (hw b hb)];exact hc j hj) ih
def OW (S:Nat→Prop) (w:World) (d:D) (v:Value):Prop:=match d with
 | .ag cs=> ∃vs:Array Value,v= .agg vs∧vs.size=cs.length∧∀(j:Nat) (x:D) (y:Value),cs[j]? =some x→vs[j]? =some y→aV S w x y
 | d=> aV S w d v
theorem OW.mono {S S':Nat→Prop} {w w':World} (hS:∀b,S b→S' b) (hw:∀b,S b→w'.heap[b]? =w.heap[b]?) {x:D} {v:Value} (h:OW S w x v):OW S' w' x v:=by
 cases x with
 | ag cs=>
  obtain ⟨vs,h1,h2,h3⟩:=h
  exact ⟨vs,h1,h2,fun j x y hx hy=> (h3 j x y hx hy).mono hS hw⟩
 | _=> exact aV.mono hS hw h
theorem OW.of {S:Nat→Prop} {w:World} {x:D} {v:Value} (h:aV S w x v):OW S w x v:=by
 cases x with
 | ag cs=> cases h
 | _=> exact h
theorem OW.to {S:Nat→Prop} {w:World} {x:D} {v:Value} (hx:∀cs,x≠ .ag cs) (h:OW S w x v):aV S w x v:=by
 cases x with
 | ag cs=> exact absurd rfl (hx cs)
 | _=> exact h
structure Loc where
 blk:Option Nat
 cap:Nat
 sz:Nat
 len:Nat
structure Cx where
 φ:Nat→Nat→Loc
 gn:Nat→Nat
 S:Nat→Prop
 w:World
inductive Rel (κ:Cx):AV→Value→Prop
 | d {x:D} {v:Value} (h:aV κ.S κ.w x v):Rel κ (.d x) v
 | agg {cs:List AV} {vs:Array Value} (hl:vs.size=cs.length) (h:∀(j:Nat) (c:AV) (v:Value),cs[j]? =some c→vs[j]? =some v→Rel κ c v):Rel κ (.agg cs) (.agg vs)
 | bH {cs:List AV} {vs:Array Value} (hl:vs.size=cs.length) (h:∀(j:Nat) (c:AV) (v:Value),cs[j]? =some c→vs[j]? =some v→Rel κ c v):Rel κ (.bH cs) (.tuple vs)
 | nl (A:Option Addr):Rel κ .nl (.slice A 0 0)
 | fp {cs:List D} {b o:Nat} (vs:Nat→Value) (hb:κ.S b) (hc:∀j,j < cs.length→κ.w.cell? ⟨b,o + j,none⟩=some (vs j)) (hr:∀(j:Nat) (x:D),cs[j]? =some x→aV κ.S κ.w x (vs j)):Rel κ (.fp cs) (.pointer (some ⟨b,o,none⟩))
 | lp {s g o b:Nat} (hg:g≤κ.gn s) (hb:(κ.φ s g).blk=some b):Rel κ (.lp s g o) (.pointer (some ⟨b,o,none⟩))
 | rp {s g i o b:Nat} (hg:g≤κ.gn s) (hb:(κ.φ s g).blk=some b):Rel κ (.rp s g i o) (.pointer (some ⟨b,i * (κ.φ s g).sz + o,none⟩))
 | row0 {s g:Nat} (A:Option Addr) (hg:g≤κ.gn s) (hb:(κ.φ s g).blk=none) (hl:(κ.φ s g).len=0):Rel κ (.row s g 0) (.slice A 0 0)
 | row {s g b:Nat} (hg:g≤κ.gn s) (hb:(κ.φ s g).blk=some b):Rel κ (.row s g (κ.φ s g).len) (.slice (some ⟨b,0,none⟩) (κ.φ s g).len (κ.φ s g).cap)
 | BF {s g:Nat} (A:Option Addr) (hg:g≤κ.gn s) (hb:(κ.φ s g).blk=none) (hl:(κ.φ s g).len=0):Rel κ (.sub s g 0 0) (.slice A 0 0)
 | sub {s g o n b:Nat} (A:Option Addr) (hg:g≤κ.gn s) (hb:(κ.φ s g).blk=some b) (hA:(n=0∧(κ.φ s g).cap - o=0)∨A=some ⟨b,o * (κ.φ s g).sz,none⟩) (hn:o + n≤(κ.φ s g).len):Rel κ (.sub s g o n) (.slice A n ((κ.φ s g).cap - o))
 | mp {s g b:Nat} (hg:g≤κ.gn s) (hb:(κ.φ s g).blk=some b):Rel κ (.mp s g) (.map (some b))
 | fn {f:FuncId} {cs:List AV} {vs:Array Value} (hl:vs.size=cs.length) (h:∀(j:Nat) (c:AV) (v:Value),cs[j]? =some c→vs[j]? =some v→Rel κ c v):Rel κ (.fn f cs) (.func (.func f) #[] vs)
 | kb (b:Bool):Rel κ (.kb b) (.bool b)
structure Cx.Le (κ κ':Cx):Prop where
 gn:∀s,κ.gn s≤κ'.gn s
 φ:∀s g,g≤κ.gn s→κ'.φ s g=κ.φ s g
 S:∀b,κ.S b→κ'.S b
 w:∀b,κ.S b→κ'.w.heap[b]? =κ.w.heap[b]?
theorem Cx.Le.refl (κ:Cx):κ.Le κ:=⟨fun _=> Nat.le_refl _,fun _ _ _=> rfl,fun _ h=> h,fun _ _=> rfl⟩
theorem Cx.Le.trans {a b c:Cx} (h:a.Le b) (k:b.Le c):a.Le c:=
 ⟨fun s=> Nat.le_trans (h.gn s) (k.gn s),fun s g hg=> (k.φ s g (Nat.le_trans hg (h.gn s))).trans (h.φ s g hg),fun x hx=> k.S x (h.S x hx),fun x hx=> (k.w x (h.S x hx)).trans (h.w x hx)⟩
theorem Cx.Le.BG {κ κ':Cx} (h:κ.Le κ') {x:D} {v:Value} (hr:aV κ.S κ.w x v):aV κ'.S κ'.w x v:=hr.mono h.S h.w
theorem Rel.mono {κ κ':Cx} (hl:κ.Le κ') {x:AV} {v:Value} (h:Rel κ x v):Rel κ' x v:=by
 induction h with
 | d h=> exact .d (hl.BG h)
 | agg hs _ ih=> exact .agg hs ih
 | bH hs _ ih=> exact .bH hs ih
 | nl A=> exact .nl A
 | fp vs hb hc hr=> exact .fp vs (hl.S _ hb) (fun j hj=> by rw [World.cell?_of_block (w:=κ.w) (hl.w _ hb)];exact hc j hj) (fun j x hx=> hl.BG (hr j x hx))
 | lp hg hb=> exact .lp (Nat.le_trans hg (hl.gn _)) (by rw [hl.φ _ _ hg];exact hb)
 | rp hg hb=> rw [←hl.φ _ _ hg];exact .rp (Nat.le_trans hg (hl.gn _)) (by rw [hl.φ _ _ hg];exact hb)
 | row0 A hg hb hz=> exact .row0 A (Nat.le_trans hg (hl.gn _)) (by rw [hl.φ _ _ hg];exact hb) (by rw [hl.φ _ _ hg];exact hz)
 | row hg hb=> rw [←hl.φ _ _ hg];exact .row (Nat.le_trans hg (hl.gn _)) (by rw [hl.φ _ _ hg];exact hb)
 | BF A hg hb hz=> exact .BF A (Nat.le_trans hg (hl.gn _)) (by rw [hl.φ _ _ hg];exact hb) (by rw [hl.φ _ _ hg];exact hz)
 | sub A hg hb hA hn=> rw [←hl.φ _ _ hg];exact .sub A (Nat.le_trans hg (hl.gn _)) (by rw [hl.φ _ _ hg];exact hb) (by rw [hl.φ _ _ hg];exact hA) (by rw [hl.φ _ _ hg];exact hn)
 | mp hg hb=> exact .mp (Nat.le_trans hg (hl.gn _)) (by rw [hl.φ _ _ hg];exact hb)
 | fn hs _ ih=> exact .fn hs ih
 | kb b=> exact .kb b
theorem Rel.ofD {κ:Cx} {x:D} {v:Value} (h:aV κ.S κ.w x v):Rel κ (dv x) v:=by
 cases h with
 | v _ h=> exact .d (.v _ h)
 | fz0 A c h=> exact .d (.fz0 A c h)
 | fz es b o sz c vs hs hb hcap hc hr=> exact .d (.fz es b o sz c vs hs hb hcap hc hr)
 | mz ck es b ents clock vs hb hh hst hl hk h1 h2 h3=> exact .d (.mz ck es b ents clock vs hb hh hst hl hk h1 h2 h3)
 | pz cs b o vs hb hc hr=> exact .fp vs hb hc hr
theorem Rel.uJ {κ:Cx} {x:AV} {v:Value} (h:Rel κ x v):Rel κ (uJ x) v:=by
 cases h with
 | kb b=> exact .d (.v _ rfl)
 | d h=> exact .d h
 | agg hl h=> exact .agg hl h
 | bH hl h=> exact .bH hl h
 | nl A=> exact .nl A
 | fp vs hb hc hr=> exact .fp vs hb hc hr
 | lp hg hb=> exact .lp hg hb
 | rp hg hb=> exact .rp hg hb
 | row0 A hg hb hz=> exact .row0 A hg hb hz
 | row hg hb=> exact .row hg hb
 | BF A hg hb hz=> exact .BF A hg hb hz
 | sub A hg hb hA hn=> exact .sub A hg hb hA hn
 | mp hg hb=> exact .mp hg hb
 | fn hl h=> exact .fn hl h
theorem Rel.unk {κ:Cx} {x:AV} {v:Value} (h:Rel κ x v):Rel κ (unk x) v:=by
 have h1:=h.uJ
 cases x with
 | agg cs=>
  cases h with
  | agg hl h=>
   refine .agg (by simpa using hl) fun j c v hc hv=> ?_
   rw [List.getElem?_map] at hc
   cases hq:cs[j]? with
   | none=> rw [hq] at hc;cases hc
   | some q=>
    rw [hq] at hc
    injection hc with hc
    subst hc
    exact (h j q v hq hv).uJ
 | _=> exact h1
theorem Rel.one {κ:Cx} {x:AV} {v:Value} (h:Rel κ x v) (h1:jX x=true):v.oneCell'=true:=by
 cases h with
 | d h=> exact h.one
 | agg=> cases h1
 | bH=> cases h1
 | _=> rfl
def am5 (κ:Cx) (cur:Array Value) (sz:Nat) (es:List (List D)):Prop:=∀(i j:Nat) (e:List D) (x:D),es[i]? =some e→e[j]? =some x→∃v,cur[i * sz + j]? =some v∧aV κ.S κ.w x v
def aaP (S:Nat→Prop) (w:World) (ck:CK) (ents:Array MapEntry) (es:List (Value×D)):Prop:=ents.size=es.length∧∀(j:Nat) (p:Value×D) (e:MapEntry),es[j]? =some p→ents[j]? =some e→e.key=p.1∧OW S w p.2 e.val∧ahV ck p.1=true
def MapAt (κ:Cx) (ck:CK) (ents:Array MapEntry) (es:List (Value×D)):Prop:=aaP κ.S κ.w ck ents es
theorem aV.map_mk {S:Nat→Prop} {w:World} {ck:CK} {ents:Array MapEntry} {es:List (Value×D)} {b clock:Nat} (hb:S b) (hh:w.heap[b]? =some (.map ents clock)) (hst:MapKept.Stamped ents clock) (h:aaP S w ck ents es):aV S w (.mz ck es) (.map (some b)):=by
 refine .mz ck es b ents clock (fun j=> match ents[j]? with | some e=> (match e.val with | .agg vs=> vs | _=> #[]) | none=> #[]) hb hh hst h.1 (fun j p e hp he=> ⟨(h.2 j p e hp he).1,(h.2 j p e hp he).2.2⟩) (fun j p e hp he hn=> (h.2 j p e hp he).2.1.to hn) (fun j p e cs hp he hc=> ?_) (fun j p cs i x y hp hc hx hy=> ?_)
 ·have:=(h.2 j p e hp he).2.1
  rw [hc] at this
  obtain ⟨vs,h1,h2,_⟩:=this
  simp only [he,h1,h2,and_self]
 ·have hlt:j < ents.size:=by rw [h.1];exact (List.getElem?_eq_some_iff.1 hp).1
  have he:ents[j]? =some (ents[j]'hlt):=Array.getElem?_eq_getElem hlt
  have:=(h.2 j p _ hp he).2.1
  rw [hc] at this
  obtain ⟨vs,h1,h2,h3⟩:=this
  simp only [he,h1] at hy
  exact h3 i x y hx hy
theorem aV.aeU {S:Nat→Prop} {w:World} {ck:CK} {es:List (Value×D)} {v:Value} (h:aV S w (.mz ck es) v):∃b ents clock,v= .map (some b)∧S b∧w.heap[b]? =some (.map ents clock)∧aaP S w ck ents es∧MapKept.Stamped ents clock:=by
 cases h with
 | mz _ _ b ents clock vs hb hh hst hl hk h1 h2 h3=>
  refine ⟨b,ents,clock,rfl,hb,hh,⟨hl,fun j p e hp he=> ⟨(hk j p e hp he).1,?_,(hk j p e hp he).2⟩⟩,hst⟩
  by_cases hc:∃cs,p.2= .ag cs
  ·obtain ⟨cs,hc⟩:=hc
   obtain ⟨q1,q2⟩:=h2 j p e cs hp he hc
   rw [hc]
   exact ⟨vs j,q1,q2,fun i x y hx hy=> h3 j p cs i x y hp hc hx hy⟩
  ·exact .of (h1 j p e hp he fun cs e=> hc ⟨cs,e⟩)
def qU (κ:Cx) (l:Loc):Inst→Prop
 | .box cs=> ∃b T vs,l.blk=some b∧κ.w.heap[b]? =some (.cells vs T (0,0))∧vs.size=cs.length∧∀(j:Nat) (c:AV) (v:Value),cs[j]? =some c→vs[j]? =some v→Rel κ c v∧v.oneCell'=true
 | .rows sz es _=> es.length=l.len∧(∀e∈es,e.length=sz)∧((l.blk=none∧es= [])∨∃b T cur,l.blk=some b∧l.sz=sz∧κ.w.heap[b]? =some (.cells cur T (0,0))∧l.len≤l.cap∧l.cap≤maxLen∧cur.size=l.cap * sz∧am5 κ cur sz es)
 | .qP ck es=> ∃b ents clock,l.blk=some b∧κ.w.heap[b]? =some (.map ents clock)∧MapAt κ ck ents es∧MapKept.Stamped ents clock
def Inst.Xy:Inst→Bool
 | .qP _ _=> true
 | .box _=> true
 | .rows _ _ ro=> !ro
structure kN (dr:Prop) (b:Nat→Prop) (w w':World):Prop where
 os:w'.os=w.os
 tape:w'.tape=w.tape
 output:w'.output=w.output
 size:w.heap.size≤w'.heap.size
 block:∀k,k < w.heap.size→¬b k→w'.heap[k]? =w.heap[k]?
 drawn:dr→w.drawn≤w'.drawn
theorem kN.refl {dr:Prop} (b:Nat→Prop) (w:World):kN dr b w w:=⟨rfl,rfl,rfl,Nat.le_refl _,fun _ _ _=> rfl,fun _=> Nat.le_refl _⟩
theorem kN.step {dr:Prop} {b:Nat→Prop} {w w1 w2:World} (h:kN dr b w w1) (ho:w2.os=w1.os) (ht:w2.tape=w1.tape) (hp:w2.output=w1.output) (hz:w1.heap.size≤w2.heap.size) (hd:dr→w1.drawn≤w2.drawn) (hk:∀k,k < w.heap.size→¬b k→w2.heap[k]? =w1.heap[k]?):kN dr b w w2:=
 ⟨ho.trans h.os,ht.trans h.tape,hp.trans h.output,Nat.le_trans h.size hz,fun k h1 h2=> (hk k h1 h2).trans (h.block k h1 h2),fun d=> Nat.le_trans (h.drawn d) (hd d)⟩
theorem kN.grow {dr:Prop} {b:Nat→Prop} {w w1 w2:World} (h:kN dr b w w1) (k:gQ dr w1.heap.size w1 w2):kN dr b w w2:=h.step k.os k.tape k.output k.size k.drawn fun i h1 _=> k.block i (Nat.lt_of_lt_of_le h1 h.size)
theorem kN.toD {dr:Prop} {w w1:World} (h:kN dr (fun _=> False) w w1):gQ dr w.heap.size w w1:=⟨⟨h.os,h.tape,h.output,h.size,fun k hk=> h.block k hk id⟩,h.drawn⟩
structure Start where
 w:World
 o:Nat→Prop
 dr:Prop
 inv:Inv w
 fr:∀b,o b→¬Tab b
 n:Nat
 loc:Nat→Loc
def Start.New (s:Start) (b:Nat):Prop:=s.w.heap.size≤b∨s.o b
structure gG (w0:Start) (A:Nat→Prop) (m:Mem) (κ:Cx):Prop where
 below:kN w0.dr w0.o w0.w κ.w
 gn:κ.gn=m.gen
 ok:∀s g i,m.at_ s g=some i→qU κ (κ.φ s g) i
 He:∀s g i,m.at_ s g=some i→g≤m.gen s
 own:∀s g i b,m.at_ s g=some i→(κ.φ s g).blk=some b→w0.New b∧b < κ.w.heap.size
 notS:∀s g i b,m.at_ s g=some i→(κ.φ s g).blk=some b→i.Xy=true→¬κ.S b
 isS:∀s g i b,m.at_ s g=some i→(κ.φ s g).blk=some b→i.Xy=false→κ.S b
 sep:∀s g i s' g' i' b,m.at_ s g=some i→m.at_ s' g'=some i'→(κ.φ s g).blk=some b→(κ.φ s' g').blk=some b→i.Xy=true→s=s'∧g=g'
 st:∀b,κ.S b→b < κ.w.heap.size∧(A b∨w0.New b)
 args:∀b,A b→κ.S b
 pin:∀i,i < w0.n→κ.φ (1000001 + i) 1=w0.loc i∧1≤κ.gn (1000001 + i)
theorem gG.inv {w0:Start} {A:Nat→Prop} {m:Mem} {κ:Cx} (h:gG w0 A m κ):Inv κ.w:=w0.inv.keep fun b hb=> h.below.block b (w0.inv.lt hb) fun e=> w0.fr b e hb
def bM (κ:Cx) (env:Nat→Option AV) (tmps:Array Value):Prop:=∀t v,env t=some v→∃x,tmps[t]? =some x∧Rel κ v x
theorem bM.mono {κ κ':Cx} (h:κ.Le κ') {env:Nat→Option AV} {tmps:Array Value} (he:bM κ env tmps):bM κ' env tmps:=fun t v hv=>
 let ⟨x,hx,hr⟩:=he t v hv
 ⟨x,hx,hr.mono h⟩
theorem qU.mono {κ κ':Cx} (h:κ.Le κ') {l:Loc} {i:Inst} (hi:qU κ l i) (hw:∀b,l.blk=some b→κ'.w.heap[b]? =κ.w.heap[b]?):qU κ' l i:=by
 cases i with
 | box cs=>
  obtain ⟨b,T,vs,hb,hh,hs,hr⟩:=hi
  exact ⟨b,T,vs,hb,by rw [hw b hb];exact hh,hs,fun j c v hc hv=> ⟨(hr j c v hc hv).1.mono h,(hr j c v hc hv).2⟩⟩
 | rows sz es ro=>
  obtain ⟨h1,h2,h3⟩:=hi
  refine ⟨h1,h2,h3.imp id ?_⟩
  rintro ⟨b,T,cur,hb,hz,hh,hl,hm,hc,hr⟩
  exact ⟨b,T,cur,hb,hz,by rw [hw b hb];exact hh,hl,hm,hc,fun i j e x he hx=> let ⟨v,hv,hd⟩:=hr i j e x he hx;⟨v,hv,h.BG hd⟩⟩
 | qP ck es=>
  obtain ⟨b,ents,clock,hb,hh,hm⟩:=hi
  exact ⟨b,ents,clock,hb,by rw [hw b hb];exact hh,⟨hm.1.1,fun j p e hp he=> ⟨(hm.1.2 j p e hp he).1,(hm.1.2 j p e hp he).2.1.mono h.S h.w,(hm.1.2 j p e hp he).2.2⟩⟩,hm.2⟩
theorem dP (x y:Nat):Nat.beq x y=decide (x=y):=by
 by_cases h:x=y
 ·subst h;simp
 ·simp only [h,decide_false];exact Bool.eq_false_iff.2 fun e=> h (Nat.eq_of_beq_eq_true e)
theorem setAt {m:Mem} {s g x y:Nat} {i:Option Inst}:(m.set s g i).at_ x y=if x=s∧y=g then i else m.at_ x y:=by
 unfold Mem.set
 by_cases h1:x=s <;> by_cases h2:y=g <;> simp [dP,h1,h2]
theorem kM {m:Mem} {s x y:Nat} {i:Inst}:(m.add s i).at_ x y=if x=s∧y=m.gen s + 1 then some i else m.at_ x y:=by
 unfold Mem.add
 by_cases h1:x=s <;> by_cases h2:y=m.gen s + 1 <;> simp [dP,h1,h2]
theorem jJ {m:Mem} {s x:Nat} {i:Inst}:(m.add s i).gen x=if x=s then m.gen s + 1 else m.gen x:=by
 unfold Mem.add jI
 by_cases h1:x=s <;> simp [dP,h1]
theorem gG.grow {w0:Start} {A:Nat→Prop} {m:Mem} {κ:Cx} (h:gG w0 A m κ) {w':World} (hb:gQ w0.dr κ.w.heap.size κ.w w') {S':Nat→Prop} (h1:∀b,κ.S b→S' b) (h2:∀b,S' b→κ.S b∨(κ.w.heap.size≤b∧b < w'.heap.size)):
  gG w0 A m {κ with w:=w',S:=S'}∧κ.Le {κ with w:=w',S:=S'}:=by
 have hw:∀b,b < κ.w.heap.size→w'.heap[b]? =κ.w.heap[b]? :=hb.block
 have hz:=h.below.size
 have hle:κ.Le {κ with w:=w',S:=S'}:=⟨fun _=> Nat.le_refl _,fun _ _ _=> rfl,h1,fun b hS=> hw b (h.st b hS).1⟩
 refine ⟨⟨h.below.grow hb,h.gn,?_,h.He,?_,?_,?_,h.sep,?_,fun b hA=> h1 b (h.args b hA),h.pin⟩,hle⟩
 ·intro s g i hi
  exact (h.ok s g i hi).mono hle fun b hbk=> hw b (h.own s g i b hi hbk).2
 ·intro s g i b hi hbk
  have:=h.own s g i b hi hbk
  exact ⟨this.1,Nat.lt_of_lt_of_le this.2 hb.size⟩
 ·intro s g i b hi hbk hrw hS
  rcases h2 b hS with hS | hS
  ·exact h.notS s g i b hi hbk hrw hS
  ·have:=(h.own s g i b hi hbk).2
   omega
 ·intro s g i b hi hbk hrw
  exact h1 b (h.isS s g i b hi hbk hrw)
 ·intro b hS
  rcases h2 b hS with hS | hS
  ·have:=h.st b hS
   exact ⟨Nat.lt_of_lt_of_le this.1 hb.size,this.2⟩
  ·exact ⟨hS.2,Or.inr (Or.inl (by omega))⟩
def Cx.put (κ:Cx) (s:Nat) (l:Loc) (w':World):Cx:={φ:=fun x y=> if x=s∧y=κ.gn s + 1 then l else κ.φ x y,gn:=fun x=> if x=s then κ.gn s + 1 else κ.gn x,S:=κ.S,w:=w'}
theorem Cx.aaQ (κ:Cx) (s:Nat) (l:Loc) (w':World) (hw:∀b,κ.S b→w'.heap[b]? =κ.w.heap[b]?):κ.Le (κ.put s l w'):=by
 refine ⟨fun x=> ?_,fun x y hy=> ?_,fun _ h=> h,hw⟩
 ·show κ.gn x≤if x=s then κ.gn s + 1 else κ.gn x
  split
  ·rename_i h;subst h;omega
  ·omega
 ·show (if x=s∧y=κ.gn s + 1 then l else κ.φ x y)=_
  rw [if_neg]
  rintro ⟨rfl,rfl⟩
  omega
theorem Cx.gJ (κ:Cx) (s:Nat) (l:Loc) (w':World):(κ.put s l w').φ s (κ.gn s + 1)=l:=by simp [Cx.put]
theorem Cx.yG (κ:Cx) (s:Nat) (l:Loc) (w':World):(κ.put s l w').gn s=κ.gn s + 1:=by simp [Cx.put]
theorem gG.add {w0:Start} {A:Nat→Prop} {m:Mem} {κ:Cx} (h:gG w0 A m κ) {w':World} (hb:gQ w0.dr κ.w.heap.size κ.w w') (s:Nat) (i:Inst) (l:Loc)
  (hl:∀b,l.blk=some b→w0.New b∧b < w'.heap.size∧¬κ.S b∧∀s g i,m.at_ s g=some i→(κ.φ s g).blk≠some b) (hrw:i.Xy=true) (hi:κ.Le (κ.put s l w')→qU (κ.put s l w') l i):
  gG w0 A (m.add s i) (κ.put s l w')∧κ.Le (κ.put s l w'):=by
 have hw:∀b,b < κ.w.heap.size→w'.heap[b]? =κ.w.heap[b]? :=hb.block
 have hle:=κ.aaQ s l w' fun b hS=> hw b (h.st b hS).1
 have hz:=h.below.size
 have hgn:=h.gn
 have hφ:∀x y i',m.at_ x y=some i'→(κ.put s l w').φ x y=κ.φ x y:=fun x y i' hx=> hle.φ x y (by rw [hgn];exact h.He x y i' hx)
 have fM:∀x y i',(m.add s i).at_ x y=some i'→(x=s∧y=κ.gn s + 1∧i'=i)∨m.at_ x y=some i':=by
  intro x y i' hx
  rw [kM] at hx
  split at hx
  ·rename_i hxy
   exact Or.inl ⟨hxy.1,by rw [hgn];exact hxy.2,(Option.some.inj hx).symm⟩
  ·exact Or.inr hx
 refine ⟨⟨h.below.grow hb,?_,?_,?_,?_,?_,?_,?_,?_,h.args,fun i hi=> ⟨(hle.φ _ _ (h.pin i hi).2).trans (h.pin i hi).1,Nat.le_trans (h.pin i hi).2 (hle.gn _)⟩⟩,hle⟩
 ·funext x
  show (if x=s then κ.gn s + 1 else κ.gn x)=_
  rw [jJ,hgn]
 ·intro x y i' hx
  rcases fM x y i' hx with ⟨rfl,rfl,rfl⟩ | hx
  ·rw [Cx.gJ]
   exact hi hle
  ·rw [hφ x y i' hx]
   exact (h.ok x y i' hx).mono hle fun b hbk=> hw b (h.own x y i' b hx hbk).2
 ·intro x y i' hx
  rw [jJ]
  rcases fM x y i' hx with ⟨rfl,rfl,rfl⟩ | hx
  ·rw [if_pos rfl,hgn]
   exact Nat.le_refl _
  ·have:=h.He x y i' hx
   split
   ·rename_i he
    rw [he] at this
    omega
   ·exact this
 ·intro x y i' b hx hbk
  rcases fM x y i' hx with ⟨rfl,rfl,rfl⟩ | hx
  ·rw [Cx.gJ] at hbk
   have:=hl b hbk
   exact ⟨this.1,this.2.1⟩
  ·rw [hφ x y i' hx] at hbk
   have:=h.own x y i' b hx hbk
   exact ⟨this.1,Nat.lt_of_lt_of_le this.2 hb.size⟩
 ·intro x y i' b hx hbk hr hS
  rcases fM x y i' hx with ⟨rfl,rfl,rfl⟩ | hx
  ·rw [Cx.gJ] at hbk
   exact (hl b hbk).2.2.1 hS
  ·rw [hφ x y i' hx] at hbk
   exact h.notS x y i' b hx hbk hr hS
 ·intro x y i' b hx hbk hr
  rcases fM x y i' hx with ⟨rfl,rfl,rfl⟩ | hx
  ·rw [hrw] at hr
   cases hr
  ·rw [hφ x y i' hx] at hbk
   exact h.isS x y i' b hx hbk hr
 ·intro x y i1 x' y' i2 b hx hx' hb1 hb2 hr
  have c1:=fM x y i1 hx
  have c2:=fM x' y' i2 hx'
  clear hx hx'
  rcases c1 with ⟨rfl,rfl,rfl⟩ | hx <;> rcases c2 with ⟨rfl,rfl,rfl⟩ | hx'
  ·exact ⟨rfl,rfl⟩
  ·rw [Cx.gJ] at hb1
   rw [hφ x' y' i2 hx'] at hb2
   exact absurd hb2 ((hl b hb1).2.2.2 x' y' i2 hx')
  ·rw [Cx.gJ] at hb2
   rw [hφ x y i1 hx] at hb1
   exact absurd hb1 ((hl b hb2).2.2.2 x y i1 hx)
  ·rw [hφ x y i1 hx] at hb1
   rw [hφ x' y' i2 hx'] at hb2
   exact h.sep x y i1 x' y' i2 b hx hx' hb1 hb2 hr
 ·intro b hS
  have:=h.st b hS
  exact ⟨Nat.lt_of_lt_of_le this.1 hb.size,this.2⟩
theorem gG.fresh {w0:Start} {A:Nat→Prop} {m:Mem} {κ:Cx} (h:gG w0 A m κ) {w':World} {b:Nat} (h1:κ.w.heap.size≤b) (h2:b < w'.heap.size):
  w0.New b∧b < w'.heap.size∧¬κ.S b∧∀s g i,m.at_ s g=some i→(κ.φ s g).blk≠some b:=
 ⟨Or.inl (Nat.le_trans h.below.size h1),h2,fun hS=> by have:=(h.st b hS).1;omega,fun s g i hi e=> by have:=(h.own s g i b hi e).2;omega⟩
theorem gG.set {w0:Start} {A:Nat→Prop} {m:Mem} {κ:Cx} (h:gG w0 A m κ) {w':World} {s g:Nat} {i i':Inst} (hi:m.at_ s g=some i) (hrw:i.Xy=true) (aqu:i'.Xy=true)
  (hdr:κ.w.drawn≤w'.drawn) (ho:w'.os=κ.w.os) (ht:w'.tape=κ.w.tape) (hp:w'.output=κ.w.output) (hsz:w'.heap.size=κ.w.heap.size) (hw:∀b,(κ.φ s g).blk≠some b→w'.heap[b]? =κ.w.heap[b]?)
  (hok:κ.Le {κ with w:=w'}→qU {κ with w:=w'} (κ.φ s g) i'):
  gG w0 A (m.set s g (some i')) {κ with w:=w'}∧κ.Le {κ with w:=w'}:=by
 have hSw:∀b,κ.S b→w'.heap[b]? =κ.w.heap[b]? :=fun b hS=> hw b fun e=> h.notS s g i b hi e hrw hS
 have hle:κ.Le {κ with w:=w'}:=⟨fun _=> Nat.le_refl _,fun _ _ _=> rfl,fun _ h=> h,hSw⟩
 have hbel:kN w0.dr w0.o w0.w w':=h.below.step ho ht hp (by omega) (fun _=> hdr) fun k hk hne=> hw k fun e=> by
  rcases (h.own s g i k hi e).1 with h1 | h1
  ·omega
  ·exact hne h1
 have fM:∀x y j,(m.set s g (some i')).at_ x y=some j→(x=s∧y=g∧j=i')∨(¬(x=s∧y=g)∧m.at_ x y=some j):=by
  intro x y j hx
  rw [setAt] at hx
  split at hx
  ·rename_i hxy
   exact Or.inl ⟨hxy.1,hxy.2,(Option.some.inj hx).symm⟩
  ·rename_i hxy
   exact Or.inr ⟨hxy,hx⟩
 refine ⟨⟨hbel,h.gn,?_,?_,?_,?_,?_,?_,?_,h.args,h.pin⟩,hle⟩
 ·intro x y j hx
  rcases fM x y j hx with ⟨rfl,rfl,rfl⟩ | ⟨hne,hx⟩
  ·exact hok hle
  ·exact (h.ok x y j hx).mono hle fun b hbk=> hw b fun e=> hne (by have:=h.sep s g i x y j b hi hx e hbk hrw;exact ⟨this.1.symm,this.2.symm⟩)
 ·intro x y j hx
  rcases fM x y j hx with ⟨rfl,rfl,rfl⟩ | ⟨hne,hx⟩
  ·exact h.He x y i hi
  ·exact h.He x y j hx
 ·intro x y j b hx hbk
  show _∧b < w'.heap.size
  rw [hsz]
  rcases fM x y j hx with ⟨rfl,rfl,rfl⟩ | ⟨hne,hx⟩
  ·exact h.own x y i b hi hbk
  ·exact h.own x y j b hx hbk
 ·intro x y j b hx hbk hr
  rcases fM x y j hx with ⟨rfl,rfl,rfl⟩ | ⟨hne,hx⟩
  ·exact h.notS x y i b hi hbk hrw
  ·exact h.notS x y j b hx hbk hr
 ·intro x y j b hx hbk hr
  rcases fM x y j hx with ⟨rfl,rfl,rfl⟩ | ⟨hne,hx⟩
  ·rw [aqu] at hr
   cases hr
  ·exact h.isS x y j b hx hbk hr
 ·intro x y i1 x' y' i2 b hx hx' hb1 hb2 hr
  have c1:=fM x y i1 hx
  have c2:=fM x' y' i2 hx'
  clear hx hx'
  rcases c1 with ⟨rfl,rfl,rfl⟩ | ⟨hne,hx⟩ <;> rcases c2 with ⟨rfl,rfl,rfl⟩ | ⟨hne',hx'⟩
  ·exact ⟨rfl,rfl⟩
  ·exact h.sep x y i x' y' i2 b hi hx' hb1 hb2 hrw
  ·exact h.sep x y i1 x' y' i b hx hi hb1 hb2 hr
  ·exact h.sep x y i1 x' y' i2 b hx hx' hb1 hb2 hr
 ·intro b hS
  show b < w'.heap.size∧_
  rw [hsz]
  exact h.st b hS
theorem gG.nV {w0:Start} {A:Nat→Prop} {m:Mem} {κ:Cx} (h:gG w0 A m κ) {s g sz:Nat} {es:List (List D)} {ro:Bool} (hi:m.at_ s g=some (.rows sz es ro)):
  gG w0 A (m.set s g (some (.rows sz es true))) {κ with S:=fun b=> κ.S b∨(κ.φ s g).blk=some b}∧κ.Le {κ with S:=fun b=> κ.S b∨(κ.φ s g).blk=some b}:=by
 have hle:κ.Le {κ with S:=fun b=> κ.S b∨(κ.φ s g).blk=some b}:=⟨fun _=> Nat.le_refl _,fun _ _ _=> rfl,fun _ h=> Or.inl h,fun _ _=> rfl⟩
 have fM:∀x y j,(m.set s g (some (.rows sz es true))).at_ x y=some j→(x=s∧y=g∧j= .rows sz es true)∨(¬(x=s∧y=g)∧m.at_ x y=some j):=by
  intro x y j hx
  rw [setAt] at hx
  split at hx
  ·rename_i hxy
   exact Or.inl ⟨hxy.1,hxy.2,(Option.some.inj hx).symm⟩
  ·rename_i hxy
   exact Or.inr ⟨hxy,hx⟩
 refine ⟨⟨h.below,h.gn,?_,?_,?_,?_,?_,?_,?_,fun b hA=> Or.inl (h.args b hA),h.pin⟩,hle⟩
 ·intro x y j hx
  rcases fM x y j hx with ⟨rfl,rfl,rfl⟩ | ⟨hne,hx⟩
  ·exact (h.ok x y _ hi).mono hle fun _ _=> rfl
  ·exact (h.ok x y j hx).mono hle fun _ _=> rfl
 ·intro x y j hx
  rcases fM x y j hx with ⟨rfl,rfl,rfl⟩ | ⟨hne,hx⟩
  ·exact h.He x y _ hi
  ·exact h.He x y j hx
 ·intro x y j b hx hbk
  rcases fM x y j hx with ⟨rfl,rfl,rfl⟩ | ⟨hne,hx⟩
  ·exact h.own x y _ b hi hbk
  ·exact h.own x y j b hx hbk
 ·intro x y j b hx hbk hr hS
  rcases fM x y j hx with ⟨rfl,rfl,rfl⟩ | ⟨hne,hx⟩
  ·cases hr
  ·rcases hS with hS | hS
   ·exact h.notS x y j b hx hbk hr hS
   ·exact hne (h.sep x y j s g _ b hx hi hbk hS hr)
 ·intro x y j b hx hbk hr
  rcases fM x y j hx with ⟨rfl,rfl,rfl⟩ | ⟨hne,hx⟩
  ·exact Or.inr hbk
  ·exact Or.inl (h.isS x y j b hx hbk hr)
 ·intro x y i1 x' y' i2 b hx hx' hb1 hb2 hr
  have c1:=fM x y i1 hx
  have c2:=fM x' y' i2 hx'
  clear hx hx'
  rcases c1 with ⟨rfl,rfl,rfl⟩ | ⟨hne,hx⟩ <;> rcases c2 with ⟨rfl,rfl,rfl⟩ | ⟨hne',hx'⟩
  ·exact ⟨rfl,rfl⟩
  ·cases hr
  ·exact h.sep x y i1 x' y' _ b hx hi hb1 hb2 hr
  ·exact h.sep x y i1 x' y' i2 b hx hx' hb1 hb2 hr
 ·intro b hS
  rcases hS with hS | hS
  ·exact h.st b hS
  ·have:=h.own s g _ b hi hS
   exact ⟨this.2,Or.inr this.1⟩
open Go.RowKit
inductive Step.Runs (F:FuncId→List AV→AV→Prop):Step→Mem→AV→Mem→Prop
 | ret {v:AV} {m:Mem}:Runs F (.ret v) m v m
 | Am {s g:Nat} {k:List AV→Step} {m m':Mem} {v:AV} {cs:List AV} (h:m.at_ s g=some (.box cs)) (r:Runs F (k cs) m v m'):Runs F (.Am s g k) m v m'
 | yC {s g:Nat} {k:List (List D)→Step} {m m':Mem} {v:AV} {sz:Nat} {es:List (List D)} {ro:Bool} (h:m.at_ s g=some (.rows sz es ro)) (r:Runs F (k es) m v m'):Runs F (.yC s g k) m v m'
 | OO {s g:Nat} {k:CK→List (Value×D)→Step} {m m':Mem} {v:AV} {ck:CK} {es:List (Value×D)} (h:m.at_ s g=some (.qP ck es)) (r:Runs F (k ck es) m v m'):Runs F (.OO s g k) m v m'
 | RZ {s g:Nat} {k:Nat→List (List D)→Step} {m m':Mem} {v:AV} {sz:Nat} {es:List (List D)} (h:m.at_ s g=some (.rows sz es false)) (r:Runs F (k sz es) m v m'):Runs F (.RZ s g k) m v m'
 | OQ {s g z:Nat} {k:Step} {m m':Mem} {v:AV} {es:List (List D)} {ro:Bool} (h:m.at_ s g=some (.rows z es ro)) (r:Runs F k m v m'):Runs F (.OQ s g z k) m v m'
 | wr {s g:Nat} {i:Inst} {k:Step} {m m':Mem} {v:AV} (r:Runs F k (m.set s g (some i)) v m'):Runs F (.wr s g i k) m v m'
 | new {s:Nat} {i:Inst} {k:Nat→Step} {m m':Mem} {v:AV} (r:Runs F (k (m.gen s + 1)) (m.add s i) v m'):Runs F (.new s i k) m v m'
 | app {s g sz:Nat} {xs:List (List D)} {k:Nat→Step} {m m':Mem} {v:AV} {es:List (List D)} (h:m.at_ s g=some (.rows sz es false)) (r:Runs F (k (m.gen s + 1)) ((m.set s g none).add s (.rows sz (es ++ xs) false)) v m'):Runs F (.app s g sz xs k) m v m'
 | nV {s g sz:Nat} {es:List (List D)} {ro:Bool} {k:Step} {m m':Mem} {v:AV} (h:m.at_ s g=some (.rows sz es ro)) (r:Runs F k (m.set s g (some (.rows sz es true))) v m'):Runs F (.nV s g k) m v m'
 | elem {es:List (List D)} {i:Nat} {k:List D→Step} {m m':Mem} {v:AV} {c:List D} (h:es[i]? =some c) (r:Runs F (k c) m v m'):Runs F (.elem es i k) m v m'
 | call {f:FuncId} {args:List AV} {k:AV→Step} {m m':Mem} {v x:AV} (h:F f args x) (r:Runs F (k x) m v m'):Runs F (.call f args k) m v m'
 | chk {p:Prop} {k:Step} {m m':Mem} {v:AV} (h:p) (r:Runs F k m v m'):Runs F (.chk p k) m v m'
 | br {b:Bool} {x y:Step} {m m':Mem} {v:AV} (r:Runs F (bif b then x else y) m v m'):Runs F (.br b x y) m v m'
theorem Step.Vz {F:FuncId→List AV→AV→Prop} (s:Step):∀(m:Mem) (K:AV→Mem→Prop),s.wp F m K→∃v m',s.Runs F m v m'∧K v m':=by
 induction s with
 | ret v=> exact fun m K h=> ⟨v,m,.ret,h⟩
 | Am s g k ih=>
  intro m K h
  simp only [Step.wp] at h
  split at h
  ·rename_i cs hc
   obtain ⟨v,m',hr,hk⟩:=ih _ _ _ h
   exact ⟨v,m',.Am hc hr,hk⟩
  ·exact h.elim
 | yC s g k ih=>
  intro m K h
  simp only [Step.wp] at h
  split at h
  ·rename_i sz es ro hc
   obtain ⟨v,m',hr,hk⟩:=ih _ _ _ h
   exact ⟨v,m',.yC hc hr,hk⟩
  ·exact h.elim
 | OO s g k ih=>
  intro m K h
  simp only [Step.wp] at h
  split at h
  ·rename_i ck es hc
   obtain ⟨v,m',hr,hk⟩:=ih _ _ _ _ h
   exact ⟨v,m',.OO hc hr,hk⟩
  ·exact h.elim
 | RZ s g k ih=>
  intro m K h
  simp only [Step.wp] at h
  split at h
  ·rename_i sz es hc
   obtain ⟨v,m',hr,hk⟩:=ih _ _ _ _ h
   exact ⟨v,m',.RZ hc hr,hk⟩
  ·exact h.elim
 | OQ s g z k ih=>
  intro m K h
  simp only [Step.wp] at h
  split at h
  ·rename_i sz es ro hc
   by_cases he:sz=z
   ·subst he
    simp only [Nat.beq_refl,cond_true] at h
    obtain ⟨v,m',hr,hk⟩:=ih _ _ h
    exact ⟨v,m',.OQ hc hr,hk⟩
   ·rw [dP] at h
    simp only [he,decide_false,cond_false] at h
  ·exact h.elim
 | wr s g i k ih=>
  intro m K h
  obtain ⟨v,m',hr,hk⟩:=ih _ _ h
  exact ⟨v,m',.wr hr,hk⟩
 | new s i k ih=>
  intro m K h
  obtain ⟨v,m',hr,hk⟩:=ih _ _ _ h
  exact ⟨v,m',.new hr,hk⟩
 | app s g sz xs k ih=>
  intro m K h
  simp only [Step.wp] at h
  split at h
  ·rename_i sz' es hc
   by_cases he:sz=sz'
   ·subst he
    simp only [Nat.beq_refl,cond_true] at h
    obtain ⟨v,m',hr,hk⟩:=ih _ _ _ h
    exact ⟨v,m',.app hc hr,hk⟩
   ·rw [dP] at h
    simp only [he,decide_false,cond_false] at h
  ·exact h.elim
 | nV s g k ih=>
  intro m K h
  simp only [Step.wp] at h
  split at h
  ·rename_i sz es ro hc
   obtain ⟨v,m',hr,hk⟩:=ih _ _ h
   exact ⟨v,m',.nV hc hr,hk⟩
  ·exact h.elim
 | elem es i k ih=>
  rintro m K ⟨c,hc,h⟩
  obtain ⟨v,m',hr,hk⟩:=ih _ _ _ h
  exact ⟨v,m',.elem hc hr,hk⟩
 | call f args k ih=>
  rintro m K ⟨r,hf,h⟩
  obtain ⟨v,m',hr,hk⟩:=ih _ _ _ h
  exact ⟨v,m',.call hf hr,hk⟩
 | chk p k ih=>
  rintro m K ⟨hp,h⟩
  obtain ⟨v,m',hr,hk⟩:=ih _ _ h
  exact ⟨v,m',.chk hp hr,hk⟩
 | br b x y Xz ihy=>
  rintro m K ⟨h1,h2⟩
  cases b
  ·obtain ⟨v,m',hr,hk⟩:=ihy _ _ (h2 rfl)
   exact ⟨v,m',.br hr,hk⟩
  ·obtain ⟨v,m',hr,hk⟩:=Xz _ _ (h1 rfl)
   exact ⟨v,m',.br hr,hk⟩
 | fail=> exact fun m K h=> h.elim
def bT (κ:Cx) (cs:List AV) (vs:List Value):Prop:=vs.length=cs.length∧∀(j:Nat) (c:AV) (v:Value),cs[j]? =some c→vs[j]? =some v→Rel κ c v
theorem bT.mono {κ κ':Cx} (h:κ.Le κ') {cs:List AV} {vs:List Value} (hr:bT κ cs vs):bT κ' cs vs:=⟨hr.1,fun j c v hc hv=> (hr.2 j c v hc hv).mono h⟩
theorem bT.nil (κ:Cx):bT κ [] []:=⟨rfl,fun j c v h=> by simp at h⟩
theorem bT.cons {κ:Cx} {c:AV} {cs:List AV} {v:Value} {vs:List Value} (h:Rel κ c v) (hs:bT κ cs vs):bT κ (c::cs) (v::vs):=
 ⟨by simp [hs.1],fun j x y hx hy=> by
  cases j with
  | zero=> simp at hx hy;subst hx hy;exact h
  | succ j=> exact hs.2 j x y (by simpa using hx) (by simpa using hy)⟩
theorem bT.cons_inv {κ:Cx} {c:AV} {cs:List AV} {vs:List Value} (h:bT κ (c::cs) vs):∃v vs',vs=v::vs'∧Rel κ c v∧bT κ cs vs':=by
 cases vs with
 | nil=> have:=h.1;simp at this
 | cons v vs'=> exact ⟨v,vs',rfl,h.2 0 c v rfl rfl,by have:=h.1;simpa using this,fun j x y hx hy=> h.2 (j + 1) x y (by simpa using hx) (by simpa using hy)⟩
theorem bT.bg {κ:Cx} {vs:List Value} (h:bT κ [] vs):vs= []:=List.eq_nil_of_length_eq_zero h.1
theorem bT.get {κ:Cx} {cs:List AV} {vs:List Value} (h:bT κ cs vs) {j:Nat} {c:AV} (hc:cs[j]? =some c):∃v,vs[j]? =some v∧Rel κ c v:=by
 have hj:j < vs.length:=by rw [h.1];exact (List.getElem?_eq_some_iff.1 hc).1
 exact ⟨vs[j],List.getElem?_eq_getElem hj,h.2 j c _ hc (List.getElem?_eq_getElem hj)⟩
theorem bT.take {κ:Cx} {cs:List AV} {vs:List Value} (h:bT κ cs vs) (n:Nat):bT κ (cs.take n) (vs.take n):=⟨by simp [h.1],fun j c v hc hv=> by
 rw [List.getElem?_take] at hc hv
 split at hc
 ·rename_i hj
  rw [if_pos hj] at hv
  exact h.2 j c v hc hv
 ·cases hc⟩
theorem bT.drop {κ:Cx} {cs:List AV} {vs:List Value} (h:bT κ cs vs) (n:Nat):bT κ (cs.drop n) (vs.drop n):=⟨by simp [h.1],fun j c v hc hv=> by
 rw [List.getElem?_drop] at hc hv
 exact h.2 _ c v hc hv⟩
theorem bT.append {κ:Cx} {cs cs':List AV} {vs vs':List Value} (h:bT κ cs vs) (h':bT κ cs' vs'):bT κ (cs ++ cs') (vs ++ vs'):=by
 induction cs generalizing vs with
 | nil=> rw [h.bg];exact h'
 | cons c cs ih=>
  obtain ⟨v,vs1,rfl,hv,hs⟩:=h.cons_inv
  exact .cons hv (ih hs)
theorem bT.over {κ:Cx} {cs cs':List AV} {vs vs':List Value} (h:bT κ cs vs) (h':bT κ cs' vs') (o:Nat):bT κ (over cs o cs') (over vs o vs'):=by
 unfold Go.Proofs.YtnegekppaoedgaaGreatDoor.over
 have e:=h'.1
 rw [e]
 exact ((h.take o).append h').append (h.drop _)
theorem Rel.vZ {κ:Cx} {cs:List AV} {v:Value} (h:Rel κ (.agg cs) v):∃vs,v= .agg vs∧bT κ cs vs.toList:=by
 cases h with
 | agg hl h=> exact ⟨_,rfl,by simpa using hl,fun j c v hc hv=> h j c v hc (by simpa using hv)⟩
theorem Rel.Kt {κ:Cx} {cs:List AV} {v:Value} (h:Rel κ (.bH cs) v):∃vs,v= .tuple vs∧bT κ cs vs.toList:=by
 cases h with
 | bH hl h=> exact ⟨_,rfl,by simpa using hl,fun j c v hc hv=> h j c v hc (by simpa using hv)⟩
theorem Rel.Sm {κ:Cx} {cs:List AV} {vs:List Value} (h:bT κ cs vs):Rel κ (.agg cs) (.agg vs.toArray):= .agg (by simpa using h.1) fun j c v hc hv=> h.2 j c v hc (by simpa using hv)
theorem Rel.ajC {κ:Cx} {cs:List AV} {vs:List Value} (h:bT κ cs vs):Rel κ (.bH cs) (.tuple vs.toArray):= .bH (by simpa using h.1) fun j c v hc hv=> h.2 j c v hc (by simpa using hv)
theorem Rel.cells {κ:Cx} {x:AV} {v:Value} (h:Rel κ x v) (h1:(cellsOf x).all jX=true):bT κ (cellsOf x) v.cells.toList∧∀u∈v.cells.toList,u.oneCell'=true:=by
 have key:∀{cs:List AV} {vs:List Value},bT κ cs vs→cs.all jX=true→∀u∈vs,u.oneCell'=true:=by
  intro cs vs hr ha u hu
  obtain ⟨j,hj,rfl⟩:=List.getElem_of_mem hu
  have hj':j < cs.length:=by rw [←hr.1];exact hj
  exact (hr.2 j cs[j] vs[j] (List.getElem?_eq_getElem hj') (List.getElem?_eq_getElem hj)).one (List.all_eq_true.1 ha _ (List.getElem_mem hj'))
 have one:∀{y:AV},cellsOf y= [y]→Rel κ y v→jX y=true→bT κ (cellsOf y) v.cells.toList∧∀u∈v.cells.toList,u.oneCell'=true:=by
  intro y hy hr hy1
  have e:v.cells= #[v]:=by
   have:=hr.one hy1
   cases v <;> first | rfl | cases this
  rw [hy,e]
  have:bT κ [y] #[v].toList:= .cons hr (.nil κ)
  exact ⟨this,fun u hu=> by simp at hu;subst hu;exact hr.one hy1⟩
 cases x with
 | agg cs=>
  obtain ⟨vs,rfl,hr⟩:=h.vZ
  exact ⟨hr,key hr h1⟩
 | bH vs=> simp [cellsOf,jX] at h1
 | ow sz es=> simp [cellsOf,jX] at h1
 | _=> exact one rfl h rfl
end
end Go.Proofs.YtnegekppaoedgaaGreatDoor

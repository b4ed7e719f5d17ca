/-
Words for memory that all contracts of this seat use: strings as lists of bytes, slices that read as lists of cells, blocks that a call makes, and the row's last step for any law.
-/
import Derived.Test.YtmgcnoigihdhpaaGreatDoorRows
import Derived.WalkKit
import Derived.WalkSpells
import Derived.WalkLawsBesides
import Derived.Lib.Hide
import Derived.Deep.QuietTactic
import Derived.BigQuiet
import Derived.IntWalk
import Derived.ProofKit
import Derived.ChangeSame
import Derived.OpenShut
import Derived.Carry
import Derived.Deep.Slices
import Derived.Deep.Fields
import Derived.Deep.MidRow
import Derived.WideKeyPair
import Derived.DeepKeys4
import Derived.Maps.Keyed
import Derived.Laws.StructEq
import Derived.Laws.CopyRow
import Derived.Laws.CopyOwn
import Derived.Lib.Overlaps
import Derived.Lib.BufferWrite
import Derived.Laws.AppendOwn
import Derived.Great.Walk
import Derived.Deep.WholeRow
import Derived.Deep.LoopGhost
import Derived.Deep.DeepCutAuto
import Derived.StillTailTactics
namespace Go.Proofs.YtmgcnoigihdhpaaGreatDoor
open Go.RowKit
theorem byteI (l:List UInt8) (i:Nat) (h:i < (⟨l.toArray⟩:ByteArray).size):(⟨l.toArray⟩:ByteArray)[i]=l[i]'h:=rfl
theorem extAny (l:List UInt8) (a b:Nat):(⟨l.toArray⟩:ByteArray).extract a b=⟨((l.take b).drop a).toArray⟩:=by
 apply ByteArray.ext
 simp [ByteArray.data_extract,List.drop_take]
theorem ext0 (l:List UInt8) (b:Nat):(⟨l.toArray⟩:ByteArray).extract 0 b=⟨(l.take b).toArray⟩:=by rw [extAny];rfl
theorem extE (l:List UInt8) (a:Nat):(⟨l.toArray⟩:ByteArray).extract a l.length=⟨(l.drop a).toArray⟩:=by rw [extAny,List.take_length]
theorem below_alloc (w:World) (o:Obj):Below w.heap.size w (w.alloc o):=(Below.refl _ _).alloc (Nat.le_refl _) _
theorem bd {B:Nat} {a w:World} (h:Below B a w) {n:Nat}:Below B a (w.drewN n):=⟨h.os,h.tape,h.output,h.size,h.block⟩
theorem below_drew0 {w:World} {n:Nat}:Below w.heap.size w (w.drewN n):=⟨rfl,rfl,rfl,Nat.le_refl _,fun _ _=> rfl⟩
theorem add_eq (b o j:Nat):(⟨b,o,none⟩:Addr).add j=⟨b,o + j,none⟩:=by
 unfold Addr.add
 by_cases hj:j=0
 ·subst hj;rfl
 ·simp [hj]
theorem addr_of_cell {w:World} {a:Addr} {v:Value} (h:w.cell? a=some v):a=⟨a.block,a.off,none⟩∧a.block < w.heap.size:=by
 obtain ⟨b,o,s⟩:=a
 unfold World.cell? at h
 split at h
 ·rename_i c _ _ hh
  cases s with
  | none=> exact ⟨rfl,by
    rcases Nat.lt_or_ge b w.heap.size with hlt | hge
    ·exact hlt
    ·rw [Array.getElem?_eq_none hge] at hh;cases hh⟩
  | some s=> simp at h
 ·cases h
section
open Go.WideShapes Go.ChangeShapes
variable {H : Type} {enc : TypeId × Value → H} {P : Program}
theorem post_of_below {f:Func} {s:ChangeSpec} {apart fresh handsOn again:Bool} {W W':World} {args:Array Value} {v:Value} {ds gs:List (DataW H)} {before pa pv:List MemPlace}
  (hW:DataW.Whole enc P f.params.toList s.vars apart W args.toList ds gs before)
  (hres:∀(b:Nat) (sp:Nat→Bool) (hd:Bool),DataW.TrodAll enc P W' b sp hd f.resultTypes.toList (v.resultList f.resultTypes.size) (s.fn H (ds ++ gs)).results [])
  (hargs:∀sp:Nat→Bool,(∀p∈before,sp p.block=true)→DataW.TrodAll enc P W' 0 sp true f.params.toList args.toList (s.fn H (ds ++ gs)).args pa)
  (hvars:∀sp:Nat→Bool,(∀p∈before,sp p.block=true)→DataW.TrodVars enc P W' sp s.vars (s.fn H (ds ++ gs)).vars pv)
  (hps:before=pa ++ pv) (hb:Below W.heap.size W W')
  (hok:∀(j:Nat) (t:TypeId) (r:Value),f.resultTypes[j]? =some t→(v.resultList f.resultTypes.size)[j]? =some r→Value.okWide P W' .any 0 t r):
  s.post enc P f apart fresh handsOn again W args v W':=by
 have hlt:∀p∈before,p.block < W.heap.size:=fun p hp=> hW.lt p hp
 have hold:∀p∈before,(fun b=> decide (b < W.heap.size)) p.block=true:=fun p hp=> by simpa using hlt p hp
 refine ⟨ds,gs,before,[],pa,pv,hW,hres _ _ _,hargs _ hold,hvars _ hold,World.keptBut_mono (fun p hp=> ⟨hp,?_⟩) (hb.frame (·∈before)),fun _=> ?_⟩
 ·rw [hps,List.mem_append] at hp
  exact Or.inr hp
 ·obtain ⟨_,_,_,_,_,hz,hn⟩:=hW
  refine ⟨hok,_,_,([] ++ pa) ++ pv,⟨[] ++ pa,pv,trodAll_append (hargs _ (fun _ _=> rfl)) (hres _ _ _),hvars _ (fun _ _=> rfl),rfl,?_,?_⟩,?_⟩
  ·intro b off hp
   have hin:MemPlace.cell b off∈before:=by rw [hps];simpa using hp
   rw [hb.frozen (hlt _ hin)]
   exact hz b off hin
  ·intro ha
   have:=hn ha
   rw [hps] at this
   simpa using this
  ·intro p hp _
   rw [hps]
   simpa using hp
theorem trodAll_stays {W W':World} (hl:laidOutB P=true) (hb:Below W.heap.size W W') (sp:Nat→Bool):∀(ts:List TypeId) (vs:List Value) (ds:List (DataW H)) (p:List MemPlace),
  (∀t∈ts,P.readableRec t=true∧t < P.types.size)→DataW.TrodAll enc P W 0 (fun _=> true) true ts vs ds p→(∀x∈p,x.block < W.heap.size)→(∀x∈p,sp x.block=true)→DataW.TrodAll enc P W' 0 sp true ts vs ds p
 | [],vs,ds,p,_,h,_,_=> by
  obtain ⟨rfl,rfl,rfl⟩:=trodAll_nil h
  exact trodAll_mk0
 | t::ts,vs,ds,p,hr,h,hlt,hsp=> by
  obtain ⟨v,vs',d,ds',p0,q0,rfl,rfl,rfl,h0,h1⟩:=trodAll_cons h
  have hr0:=hr t (by simp)
  refine trodAll_cons_mk (WideElems.Trod_stays hl hr0.1 hr0.2 h0 (fun x hx=> hb.same (hlt x (by simp [hx]))) (fun x hx=> hsp x (by simp [hx]))) ?_
  exact trodAll_stays hl hb sp ts vs' ds' q0 (fun t ht=> hr t (by simp [ht])) h1 (fun x hx=> hlt x (by simp [hx])) (fun x hx=> hsp x (by simp [hx]))
theorem post_law {f:Func} {s:ChangeSpec} {again:Bool} {W W':World} {args:Array Value} {ds gs:List (DataW H)} {before p:List MemPlace} {tb:TypeId}
  (hl:laidOutB P=true) (hr:∀t∈f.params.toList,P.readableRec t=true∧t < P.types.size)
  (hW:DataW.Whole enc P f.params.toList s.vars false W args.toList ds gs before) (hA:DataW.TrodAll enc P W 0 (fun _=> true) true f.params.toList args.toList ds p) (hbp:before=p)
  (hvars:s.vars= []) (hres:f.resultTypes= #[tb]) (htb:P.underlying tb=some .bool)
  (hf1:(s.fn H (ds ++ gs)).results= [.lit (.bool true)]) (hf2:(s.fn H (ds ++ gs)).args=ds) (hf3:(s.fn H (ds ++ gs)).vars= []) (hb:Below W.heap.size W W')
  (hok:∀(j:Nat) (t:TypeId) (r:Value),f.resultTypes[j]? =some t→((Value.bool true).resultList f.resultTypes.size)[j]? =some r→Value.okWide P W' .any 0 t r):
  s.post enc P f false true false again W args (.bool true) W':=by
 have hlt:∀x∈before,x.block < W.heap.size:=fun x hx=> hW.lt x hx
 refine post_of_below (pa:=before) (pv:= []) hW ?_ ?_ ?_ (by simp) hb hok
 ·intro b sp hd
  rw [hf1,hres]
  exact trodAll_cons_mk (shut_bool htb true) trodAll_mk0
 ·intro sp hsp
  rw [hf2]
  subst hbp
  exact trodAll_stays hl hb sp _ _ _ _ hr hA hlt hsp
 ·intro sp _
  rw [hf3,hvars]
  rfl
end
end Go.Proofs.YtmgcnoigihdhpaaGreatDoor
namespace Go.Proofs.YtmgcnoigihdhpaaGreatDoor
open Go.RowKit Go.Maps Go.WideMaps
theorem sA {α:Type} (l:List α) (i:Nat) (a:α):l.toArray.setIfInBounds i a=(l.set i a).toArray:=List.setIfInBounds_toArray ..
theorem sB {α:Type} (x:α) (l:List α) (n:Nat) (a:α):(x::l).set (n + 1) a=x::l.set n a:=List.set_cons_succ
theorem sC {α:Type} (x:α) (l:List α) (a:α):(x::l).set 0 a=a::l:=List.set_cons_zero
theorem tA {α β:Type} (f:α→Option β) (a:α) (l:List α):(a::l).filterMap f=(match f a with | none=> l.filterMap f | some b=> b::l.filterMap f):=List.filterMap_cons
theorem tB {α β:Type} (f:α→Option β): [].filterMap f= []:=List.filterMap_nil
theorem tC {α:Type} (x:α) (l:List α):(x::l)[0]? =some x:=List.getElem?_cons_zero
theorem tD {α:Type} (x:α) (l:List α) (n:Nat):(x::l)[n + 1]? =l[n]? :=List.getElem?_cons_succ
abbrev Ch:=List UInt8
def pad (c:Ch):List UInt8:=c ++ List.replicate (32 - c.length) 0
def kl (c:Ch):List Value:= .int .i64 c.length::(pad c).map fun b=> .int .u8 (b.toNat:Int)
def kv (c:Ch):Value:= .agg (kl c).toArray
def Okc (c:Ch):Prop:=c.length≤32
theorem pad_len {c:Ch} (h:Okc c):(pad c).length=32:=by unfold Okc at h;simp [pad];omega
theorem kl_len {c:Ch} (h:Okc c):(kl c).length=33:=by simp [kl,pad_len h]
theorem kl_one (c:Ch):∀v∈kl c,v.oneCell'=true:=by
 intro v hv
 rcases List.mem_cons.1 hv with rfl | hv
 ·rfl
 ·obtain ⟨b,_,rfl⟩:=List.mem_map.1 hv
  rfl
theorem byte_map_inj:∀{a b:List UInt8},(a.map fun b=> Value.int .u8 (b.toNat:Int))=(b.map fun b=> Value.int .u8 (b.toNat:Int))→a=b
 | [],[],_=> rfl
 | [],_::_,h=> by cases h
 | _::_,[],h=> by cases h
 | x::a,y::b,h=> by
  simp only [List.map_cons,List.cons.injEq,Value.int.injEq,true_and,Int.natCast_inj] at h
  rw [UInt8.toNat_inj.1 h.1,byte_map_inj h.2]
theorem kv_inj {c d:Ch} (h:kv c=kv d):c=d:=by
 have h:=congrArg Value.cells h
 have h:kl c=kl d:=by simpa [kv,Value.cells] using congrArg Array.toList h
 unfold kl at h
 simp only [List.cons.injEq,Value.int.injEq,true_and,Int.natCast_inj] at h
 have:=byte_map_inj h.2
 unfold pad at this
 exact (List.append_inj this h.1).1
theorem tys:∃m,Tryz.prog.types.size=m + 1 + 1:=⟨Tryz.prog.types.size - 2,by kernel_rfl⟩
theorem laidP:laidOutB Tryz.prog=true:=by kernel_rfl
theorem size3:Tryz.prog.cellsOf 3=1:=by kernel_rfl
theorem size5:Tryz.prog.cellsOf 5=1:=by kernel_rfl
theorem size111:Tryz.prog.cellsOf 111=32:=by kernel_rfl
theorem size113:Tryz.prog.cellsOf 113=33:=by kernel_rfl
theorem lits_one (m:Nat) (a:Int) (ha:(Lit.int .i64 a).wf=true):Tryz.prog.keyLits (m + 1) 3 [.int .i64 a]=some [.int .i64 a]:=by
 unfold Program.keyLits
 simp [Tryz.underlying3,ha]
theorem byte_wf (b:UInt8):(Lit.int .u8 (b.toNat:Int)).wf=true:=by
 have:=b.toNat_lt
 have h1:IntKind.u8.min≤(b.toNat:Int):=by show (0:Int)≤b.toNat;omega
 have h2:(b.toNat:Int)≤IntKind.u8.max:=by show (b.toNat:Int)≤255;omega
 simp [Lit.wf,h1]
 exact h2
theorem lits_byte (m:Nat) (b:UInt8):Tryz.prog.keyLits (m + 1) 5 [.int .u8 (b.toNat:Int)]=some [.int .u8 (b.toNat:Int)]:=by
 unfold Program.keyLits
 simp [Tryz.underlying5,byte_wf b]
theorem mapM_some {α β:Type} (f:α→Option β):∀is:List α,(∀i∈is,∃y,f i=some y)→∃ys,is.mapM f=some ys
 | [],_=> ⟨[],rfl⟩
 | i::is,h=> by
  obtain ⟨y,hy⟩:=h i (by simp)
  obtain ⟨ys,hys⟩:=mapM_some f is fun j hj=> h j (by simp [hj])
  exact ⟨y::ys,by simp [List.mapM_cons,hy,hys]⟩
theorem lits_arr (m:Nat) (l:List UInt8) (hl:l.length=32):∃L,Tryz.prog.keyLits (m + 1 + 1) 111 (l.map fun b=> Value.int .u8 (b.toNat:Int))=some L:=by
 unfold Program.keyLits
 simp only [Tryz.underlying111,size5]
 rw [if_pos (by simp [hl,size111])]
 obtain ⟨ys,hys⟩:=mapM_some (fun i=> Tryz.prog.keyLits (m + 1) 5 (List.take 1 (List.drop (i * 1) (List.map (fun b=> Value.int IntKind.u8 (b.toNat:Int)) l)))) (List.range 32) (fun i hi=> by
  have hi:i < l.length:=by rw [hl];exact List.mem_range.1 hi
  refine ⟨[.int .u8 (l[i].toNat:Int)],?_⟩
  rw [Nat.mul_one,List.drop_eq_getElem_cons (by simpa using hi),List.take_succ_cons,List.take_zero,List.getElem_map]
  exact lits_byte m _)
 exact ⟨ys.flatten,by rw [hys];rfl⟩
theorem len_wf {c:Ch} (h:Okc c):(Lit.int .i64 (c.length:Int)).wf=true:=by
 unfold Okc at h
 have h1:IntKind.i64.min≤(c.length:Int):=by show (-9223372036854775808:Int)≤c.length;omega
 have h2:(c.length:Int)≤IntKind.i64.max:=by show (c.length:Int)≤9223372036854775807;omega
 simp [Lit.wf,h1]
 exact h2
theorem law113:KeyLaw Tryz.prog 113:=deep_law_laid laidP (m:=3) (by omega) (of_decide_eq_true (by kernel_rfl)) (by kernel_rfl) (by rw [Tryz.underlying113])
theorem keyed113:Keyed Tryz.prog 113:=Keyed.of_law law113
set_option maxRecDepth 100000 in
theorem key_ex {c:Ch} (h:Okc c):∃l,keyOf Tryz.prog 113 (kv c)=some l:=by
 obtain ⟨m,hm⟩:=tys
 have hkt:Tryz.prog.keyType 113=true:=by kernel_rfl
 have hf:(kv c).formed Tryz.prog 113=true:=by simp [kv,Value.formed,Tryz.underlying113,size113,kl_len h]
 obtain ⟨L,hL⟩:=lits_arr m (pad c) (pad_len h)
 have e0:List.take 1 (kl c)= [.int .i64 (c.length:Int)]:=rfl
 have e1:List.take 32 (List.drop 1 (kl c))=(pad c).map fun b=> Value.int .u8 (b.toNat:Int):=by
  show List.take 32 ((pad c).map _)=_
  rw [List.take_of_length_le (by simp [pad_len h])]
 have hl:=kl_len h
 unfold keyOf
 simp only [Tryz.underlying113,hkt,hf,Bool.and_self,if_true,hm]
 unfold Program.keyLits
 simp [Tryz.underlying113,kv,Value.cells,size113,size3,size111,hl,e0,lits_one (m + 1) _ (len_wf h)]
 have e2:Tryz.prog.keyLits (m + 2) 111 (List.take 32 (kl c).tail)=some L:=by
  rw [show (kl c).tail=List.drop 1 (kl c) from rfl,e1]
  exact hL
 rw [e2]
 exact ⟨_,rfl⟩
theorem neq_run {c d:Ch} (hc:Okc c) (hd:Okc d) (w:World):(binOp .neq 113 (kv c) (kv d)).run Tryz.prog w= .ok (.bool (decide (c≠d))) w:=by
 obtain ⟨l,hl⟩:=key_ex hc
 obtain ⟨l',hl'⟩:=key_ex hd
 obtain ⟨r,hr,hiff⟩:=run_equal_deep w (m:=3) (by omega) (k:=113) (by kernel_rfl) (by rw [Tryz.underlying113]) hl hl'
 have:r=decide (c=d):=by
  rw [Bool.eq_iff_iff,hiff,decide_eq_true_eq]
  constructor
  ·intro e
   subst e
   exact kv_inj (keyed113.inj hl hl')
  ·intro e
   subst e
   rw [hl] at hl'
   injection hl'
 unfold kv at hr ⊢
 simp [binOp,hr,this]
theorem guard_run (c d:Ch) (w:World) (x y:Operand):(eqGuard .neq 113 x y (kv c) (kv d)).run Tryz.prog w= .ok () w:=run_eqGuard_agg w .neq 113 x y _ _ (by kernel_rfl)
theorem load_run {c:Ch} (hc:Okc c) {w:World} {b o:Nat} (h:w.rangeAt b o (kl c)):(Instr.loadAt 113 (.pointer (some ⟨b,o,none⟩))).run Tryz.prog w= .ok (kv c) w:=
 run_loadAt_mid w b o 113 (kl c) _ h Tryz.underlying113 rfl (by rw [kl_len hc];kernel_rfl)
end Go.Proofs.YtmgcnoigihdhpaaGreatDoor
namespace Go.Proofs.YtmgcnoigihdhpaaGreatDoor
open Go.RowKit
section
variable {P : Program} (w : World)
theorem wp_append_run {o:Oper} {a:Act} {K:Act→World→Prop} {Q:Exit→Act→World→Prop} (s x:Operand) (t u:TypeId)
  (ho:o.op= .call {callee:= .builtin .append,args:= #[s,x],argTypes:= #[t,u]}) (v1 v2 v':Value) (w':World) (hs:a.eval s=v1) (hx:a.eval x=v2)
  (hrun:(Builtin.append_ #[t,u] o.type #[v1,v2]).run P w= .ok v' w') (h:K (a.put o.dst v') w'):o.wp P a w K Q:=by
 unfold Oper.wp execOp
 simp only [ho,resolve,invoke,builtin,Sem.run_bind,Sem.run_pure,Result.andThen_ok,List.map_toArray,List.map_cons,List.map_nil,hs,hx,hrun]
 exact h
end
theorem grown_setRow (w:World) (g:Nat) (cs:Array Value):w.grownBy (w.setRow g cs) (some g):=⟨rfl,rfl,rfl,by simp,fun k _ hk=> setRow_other w g k _ (fun e=> hk (by rw [e]))⟩
end Go.Proofs.YtmgcnoigihdhpaaGreatDoor
namespace Go.Proofs.YtmgcnoigihdhpaaGreatDoor
open Go.RowKit Go.Maps
theorem fold_set:∀(xs:List Value) (k:Nat) (cells:Array Value),k + xs.length=cells.size→((xs.zipIdx k).foldl (fun (cs:Array Value) (p:Value×Nat)=> cs.setIfInBounds (0 + p.2) p.1) cells).toList=cells.toList.take k ++ xs
 | [],k,cells,h=> by simp at h ⊢;rw [List.take_of_length_le (by simp;omega)]
 | x::xs,k,cells,h=> by
  rw [List.zipIdx_cons,List.foldl_cons,fold_set xs (k + 1) _ (by simp at h ⊢;omega)]
  simp at h
  have hk:k < cells.toList.length:=by simp;omega
  simp only [Nat.zero_add,Array.toList_setIfInBounds]
  rw [List.take_set,List.take_add_one,List.getElem?_eq_getElem hk,Option.toList_some,List.set_append_right _ _ (by simp;omega)]
  simp only [List.length_take,Array.length_toList]
  rw [Nat.min_eq_left (by omega),Nat.sub_self]
  simp
theorem fill_one {xs:List Value} {cells:Array Value} (h:xs.length=33) (hc:cells.size=33):Instr.fill (fun i=> some (i * 33,33)) cells [(0,.agg xs.toArray)]=some xs.toArray:=by
 simp only [Instr.fill,Value.cells,Nat.zero_mul]
 rw [if_neg (by simp [h,hc])]
 congr 1
 apply Array.ext'
 rw [←Array.foldl_toList,Array.toList_zipIdx]
 exact (fold_set xs 0 cells (by omega)).trans (by simp)
def kz (n:Int):Array Value:=(Value.int .i64 n::List.replicate 32 (.int .u8 0)).toArray
theorem kz_size (n:Int):(kz n).size=33:=by simp [kz]
set_option maxRecDepth 10000 in
theorem built113 (n:Int):Tryz.prog.built 113 [(0,.int .i64 n)]=some (kz n):=by kernel_rfl
set_option maxRecDepth 10000 in
theorem kz_one (n:Int):(kz n).all (·.oneCell')=true:=all_oneCell_toArray fun v hv=> by
 rcases List.mem_cons.1 hv with rfl | hv
 ·rfl
 ·rw [List.eq_of_mem_replicate hv]
  rfl
set_option maxRecDepth 10000 in
theorem zero113:∃i,Tryz.prog.info? 113=some i∧i.zero=some (.agg (kz 0))∧i.size=33∧i.bytes=40:=⟨Tryz.t113,by kernel_rfl,by kernel_rfl,by kernel_rfl,by kernel_rfl⟩
section
variable {ops : Array Oper} {rest : List Oper} {o : Oper} {a : Act} {w : World} {Q : Exit → Act → World → Prop}
set_option maxRecDepth 100000 in
theorem l_build (hg:o.guard=none) (x:Operand) (ho:o.op= .build 113 #[(0,x)]) (n:Int) (hx:a.eval x= .int .i64 n) (h:wpList Tryz.prog ops Q rest (a.put o.dst (.agg (kz n))) w):wpList Tryz.prog ops Q (o::rest) a w:=
 wpList_buildTo hg 113 _ ho _ rfl (kz n) (by rw [Array.toList_map];show Tryz.prog.built 113 [(0,a.eval x)]=_;rw [hx];exact built113 n) h
theorem l_alloc (hg:o.guard=none) (ho:o.op= .alloc 113) (h:wpList Tryz.prog ops Q rest (a.put o.dst (.pointer (some ⟨w.heap.size,0,none⟩))) (w.alloc (.cells (kz 0) 113))):wpList Tryz.prog ops Q (o::rest) a w:=by
 refine Great.wpList_runTo hg _ rfl _ _ ?_ h
 obtain ⟨i,hi,hz,_⟩:=zero113
 simp [execOp,ho,Instr.alloc,zeroValue,typeInfo,hi,hz,newVar,newRow,Value.cells]
theorem l_store {w0:World} (hg:o.guard=none) (x y:Operand) (ho:o.op= .store 113 x y) (hw:w=w0.alloc (.cells (kz 0) 113)) (C:Array Value) (hC:C.size=33) (h1:C.all (·.oneCell')=true) (hx:a.eval x= .pointer (some ⟨w0.heap.size,0,none⟩)) (hy:a.eval y= .agg C)
  (h:wpList Tryz.prog ops Q rest (a.put o.dst undef) (w0.alloc (.cells C 113))):wpList Tryz.prog ops Q (o::rest) a w:=by
 subst hw
 refine wpList_plain hg fun K hK=> ?_
 unfold Oper.wp execOp
 have:=run_storeAt_new (P:=Tryz.prog) w0 113 (kz 0) C (by rw [hC];kernel_rfl) (by rw [kz_size,hC]) h1
 simp only [ho,hx,hy,Sem.run_bind,this,Result.andThen_ok,Sem.run_pure]
 exact hK _ _ h
theorem l_load (hg:o.guard=none) (x:Operand) (ho:o.op= .load 113 x) {c:Ch} (hc:Okc c) (b off:Nat) (hx:a.eval x= .pointer (some ⟨b,off,none⟩)) (hr:w.rangeAt b off (kl c)) (h:wpList Tryz.prog ops Q rest (a.put o.dst (kv c)) w):wpList Tryz.prog ops Q (o::rest) a w:=
 wpList_load_mid hg 113 x ho b off hx (kl c) _ hr Tryz.underlying113 rfl (by rw [kl_len hc];kernel_rfl) h
theorem l_slice (hg:o.guard=none) (x:Operand) (ho:o.op= .buildSlice 108 1 #[(0,x)]) {c:Ch} (hc:Okc c) (hx:a.eval x=kv c) (h:wpList Tryz.prog ops Q rest (a.put o.dst (.slice (some ⟨w.heap.size,0,none⟩) 1 1)) (w.alloc (.cells (kl c).toArray 113))):wpList Tryz.prog ops Q (o::rest) a w:=by
 obtain ⟨i,hi,hz,hs,_⟩:=zero113
 refine wpList_buildSlice hg 108 113 1 _ ho (kl c).toArray i _ Tryz.underlying108 hi hz (by rw [hs];omega) (by rw [hs];omega) ?_ h
 rw [hs,Array.toList_map]
 show Instr.fill (fun i=> some (i * 33,33)) _ [(0,a.eval x)]=_
 rw [hx]
 exact fill_one (kl_len hc) (by simp)
end
theorem s_val {ops:Array Oper} {rest:List Oper} {o:Oper} {a:Act} {w:World} {Q:Act→Prop} (hg:o.guard=none) (v:Value) (hrun:(execOp a.eval o).run Tryz.prog w= .ok (.value v) w) (h:wpStill Tryz.prog ops w Q rest (a.put o.dst v)):wpStill Tryz.prog ops w Q (o::rest) a:=by
 refine wpStill_step fun K hK=> ?_
 rw [if_pos (by unfold Region.wanted;rw [hg])]
 unfold Oper.still
 rw [hrun,Oper.stillUpon_value]
 exact hK _ h
theorem svT {ops:Array Oper} {rest:List Oper} {o:Oper} {a:Act} {w:World} {Q:Act→Prop} {v:Value} (h:wpStill Tryz.prog ops w Q rest (a.put o.dst v)) (hg:o.guard=none:=by rfl) (hrun:(execOp a.eval o).run Tryz.prog w= .ok (.value v) w:=by go_simp;first | done | with_reducible rfl):wpStill Tryz.prog ops w Q (o::rest) a:=s_val hg v hrun h
theorem e_load {o:Oper} {a:Act} {w:World} (x:Operand) (ho:o.op= .load 113 x) {c:Ch} (hc:Okc c) (b off:Nat) (hx:a.eval x= .pointer (some ⟨b,off,none⟩)) (hr:w.rangeAt b off (kl c)):(execOp a.eval o).run Tryz.prog w= .ok (.value (kv c)) w:=by
 unfold execOp
 simp only [ho,hx,Sem.run_bind,load_run hc hr,Result.andThen_ok,Sem.run_pure]
theorem e_neq {o:Oper} {a:Act} {w:World} (x y:Operand) (ho:o.op= .binOp .neq 113 x y 113) {c d:Ch} (hc:Okc c) (hd:Okc d) (hx:a.eval x=kv c) (hy:a.eval y=kv d):(execOp a.eval o).run Tryz.prog w= .ok (.value (.bool (decide (c≠d)))) w:=by
 unfold execOp
 simp only [ho,hx,hy,Sem.run_bind,guard_run,neq_run hc hd,Result.andThen_ok,Sem.run_pure]
theorem new_range (w:World) (c:Ch):(w.alloc (.cells (kl c).toArray 113)).rangeAt w.heap.size 0 (kl c):=fun j v hv=> by
 rw [cell_of_row _ _ _ (kl c).toArray 113 (0,0) (heap_alloc_new w _),Nat.zero_add]
 simpa using hv
set_option maxRecDepth 100000 in
theorem copy_run (w:World) (t:List UInt8) (ty:TypeId):(Builtin.copy_ #[189,9] ty #[.slice (some ⟨w.heap.size,1,none⟩) 32 32,.string ⟨t.toArray⟩]).run Tryz.prog (w.alloc (.cells (kz ((t.take 32).length:Int)) 113))= .ok (goInt (t.take 32).length) (w.alloc (.cells (kl (t.take 32)).toArray 113)):=by
 have hb:=heap_alloc_new w (.cells (kz ((t.take 32).length:Int)) 113)
 have hlen:((t.take 32).map fun x=> Value.int .u8 (x.toNat:Int)).length=(t.take 32).length:=List.length_map ..
 have hle:(t.take 32).length≤32:=List.length_take_le _ _
 have hst:=run_storeCells_at Tryz.prog w.heap.size 1 113 ((t.take 32).map fun x=> Value.int .u8 (x.toNat:Int)) 0 (kz ((t.take 32).length:Int)) _ hb (by rw [hlen,kz_size];omega) (fun v hv=> by obtain ⟨x,_,rfl⟩:=List.mem_map.1 hv;rfl)
 have hmin:Nat.min (⟨t.toArray⟩:ByteArray).size 32=(t.take 32).length:=by
  rw [List.length_take]
  exact Nat.min_comm _ _
 rw [hlen] at hst
 have hW:(w.alloc (.cells (kz ((t.take 32).length:Int)) 113)).setRow w.heap.size (((kz ((t.take 32).length:Int)).toList.take (1 + 0) ++ ((t.take 32).map fun x=> Value.int .u8 (x.toNat:Int)) ++ (kz ((t.take 32).length:Int)).toList.drop (1 + 0 + (t.take 32).length)).toArray)=w.alloc (.cells (kl (t.take 32)).toArray 113):=by
  rw [World.setRow_alloc_new]
  congr 3
  unfold kz kl pad
  simp only [Nat.add_zero,List.take_succ_cons,List.take_zero,List.map_append,List.map_replicate,List.cons_append,List.nil_append]
  rw [Nat.add_comm 1,List.drop_succ_cons,List.drop_replicate]
  rfl
 obtain ⟨i,hi,_,hs,_⟩:∃i,Tryz.prog.info? 5=some i∧True∧i.size=1∧True:=⟨Tryz.t5,by kernel_rfl,trivial,rfl,trivial⟩
 have htk:List.take (t.take 32).length (List.map (fun b:UInt8=> Value.int IntKind.u8 (b.toNat:Int)) t)=(t.take 32).map fun x=> Value.int .u8 (x.toNat:Int):=by
  rw [←List.map_take]
  congr 1
  rw [List.length_take,←List.take_take,List.take_length]
 simp [Builtin.copy_,run_underlying Tryz.underlying189,Builtin.lenOf,Builtin.firstCells,sizeOf,typeInfo,hi,hmin]
 rw [←List.length_take,htk,hst,hW]
 rfl
end Go.Proofs.YtmgcnoigihdhpaaGreatDoor
namespace Go.Proofs.YtmgcnoigihdhpaaGreatDoor
open Go.RowKit Go.Maps
def chunks (t:List UInt8):List Ch:=if _h:t= [] then [] else t.take 32::chunks (t.drop 32)
termination_by t.length
decreasing_by
 have:0 < t.length:=List.length_pos_iff.2 _h
 simp
 omega
theorem chunks_nil:chunks []= []:=by unfold chunks;simp
theorem chunks_cons {t:List UInt8} (h:t≠ []):chunks t=t.take 32::chunks (t.drop 32):=by rw [chunks];simp [h]
def FileAt (lo:Nat) (W:World) (v:Value) (f:List Ch):Prop:=(∀c∈f,Okc c)∧W.ownsRow lo 113 33 v f.length (f.flatMap kl)
theorem FileAt.nil (lo:Nat) (W:World):FileAt lo W (.slice none 0 0) []:=⟨by simp,W.ownsRow_nil lo 113 33⟩
theorem FileAt.alloc' {lo:Nat} {W:World} {v:Value} {f:List Ch} (h:FileAt lo W v f) (o:Obj):FileAt lo (W.alloc o) v f:=⟨h.1,h.2.alloc o⟩
theorem info113z:∃i z,Tryz.prog.info? 113=some i∧i.zero=some z∧i.size=33∧i.bytes=40∧z.cells.size=33:=by
 refine ⟨Tryz.t113,_,by kernel_rfl,rfl,rfl,rfl,rfl⟩
theorem FileAt.push {lo:Nat} {W:World} {v:Value} {f:List Ch} (h:FileAt lo W v f) (hlo:lo≤W.heap.size) (hf:f.length≤1000000) {c:Ch} (hc:Okc c) {g cap:Nat} (hr:W.rangeAt g 0 (kl c)):
  ∃v' W',(∀ty,(Builtin.append_ #[108,108] ty #[v,.slice (some ⟨g,0,none⟩) 1 cap]).run Tryz.prog W= .ok v' W')∧FileAt lo W' v' (f ++ [c])∧W.grownBy W' v.ownBlock:=by
 obtain ⟨i,z,hi,hz,h1,h2,h3⟩:=info113z
 have key:∀ty,∃v' W',(Builtin.append_ #[108,108] ty #[v,.slice (some ⟨g,0,none⟩) 1 cap]).run Tryz.prog W= .ok v' W'∧FileAt lo W' v' (f ++ [c])∧W.grownBy W' v.ownBlock:=fun ty=> by
  obtain ⟨v',W',hrun,ho,hg,_⟩:=run_append_own (P:=Tryz.prog) W lo 108 ty 113 i z 33 40 Tryz.underlying108 hi hz h1 h2 h3 (by omega) v f.length (f.flatMap kl) h.2 ⟨g,0,none⟩ 1 cap (kl c) (by rw [kl_len hc]) (fun j u hj=> by rw [Addr.add_mid];exact hr j u hj) (kl_one c) (by simp only [maxLen];omega) (by omega) hlo
  refine ⟨v',W',hrun,⟨fun d hd=> ?_,?_⟩,hg⟩
  ·rcases List.mem_append.1 hd with hd | hd
   ·exact h.1 d hd
   ·rw [List.mem_singleton.1 hd]
    exact hc
  ·rw [List.length_append,List.flatMap_append]
   simpa using ho
 obtain ⟨v',W',hrun,h1,h2⟩:=key 0
 refine ⟨v',W',fun ty=> ?_,h1,h2⟩
 exact hrun
theorem hf_lt {lo:Nat} {W:World} {v:Value} {f:List Ch} (h:FileAt lo W v f):∀k,v.ownBlock=some k→lo≤k∧k < W.heap.size:=h.2.lt
attribute [local go_sem] byteI extE ext0 extAny
theorem rdT {P:Program} {ops:Array Oper} {rest:List Oper} {o:Oper} {a:Act} {w:World} {Q:Exit→Act→World→Prop} {dst:Option Tmp} {v:Value} (h:wpList P ops Q rest (a.put dst v) w) (hg:o.guard=none:=by rfl) (hdst:o.dst=dst:=by rfl) (hrun:(execOp a.eval o).run P w= .ok (.value v) w:=by go_simp;first | done | with_reducible rfl):wpList P ops Q (o::rest) a w:=Great.wpList_readTo hg dst hdst v hrun h
set_option maxRecDepth 100000 in
set_option maxHeartbeats 4000000 in
theorem divided_walk (t:List UInt8) (w:World) (ht:t.length≤100000):
  Calls Tryz.prog 27 #[.string ⟨t.toArray⟩] w fun e w'=> ∃v,e= .returned v∧Below w.heap.size w w'∧FileAt w.heap.size w' v (chunks t):=by
 go_enter Tryz.func27,Tryz.ntmps27
 go_wp2_with fail
 go_loopg [0,3] t.length (fun q x v W=> ∃rest out,chunks t=out ++ chunks rest∧rest.length=q∧out.length + rest.length≤t.length∧x= .string ⟨rest.toArray⟩∧Below w.heap.size w W∧Hid (FileAt w.heap.size W v out))
 case atStart=> exact ⟨t,[],rfl,rfl,by simp,rfl,Below.refl _ _,Lib.hid (FileAt.nil _ _)⟩
 case round=>
  obtain ⟨rest,out,h1,h2,h3,rfl,h4,h5⟩:=hrel
  by_cases he:rest= []
  ·subst he
   go_wp2_with fail
   go_ret
   rw [h1,chunks_nil,List.append_nil]
   exact ⟨_,rfl,h4,h5.out⟩
  ·have he2:rest.isEmpty=false:=by simpa using he
   go_upto_region 4 with fail
   have hgk:Hid (min (32:Int) (gk:Int)=((rest.take 32).length:Int)∧min 32 gk=(rest.take 32).length):=Lib.hid (by
    rw [List.length_take,h2]
    omega)
   refine wp_region_lit ?_
   (refine rdT ?_;simp only [Act.put,sA,sB,sC])
   (refine rdT ?_;simp only [Act.put,sA,sB,sC])
   (refine rdT ?_;simp only [Act.put,sA,sB,sC])
   refine l_build rfl _ rfl ((rest.take 32).length:Int) (by first | exact congrArg (Value.int .i64) hgk.out.1 | exact congrArg (fun n:Nat=> Value.int .i64 (n:Int)) hgk.out.2) ?_
   (simp only [Act.put,sA,sB,sC])
   refine l_alloc rfl rfl ?_
   (simp only [Act.put,sA,sB,sC])
   refine l_store rfl _ _ rfl rfl _ (kz_size _) (kz_one _) rfl rfl ?_
   (simp only [Act.put])
   have hcp:=copy_run wr rest
   have hok:Okc (rest.take 32):=List.length_take_le _ _
   have HC:=Lib.hid (chunks_cons he)
   clear hgk
   generalize hc:rest.take 32=c at hcp hok HC ⊢
   have HCC:=Lib.hid hc
   have HOK:=Lib.hid hok
   clear hc hok
   refine wpList_nil ?_
   go_upto_region 6 with fail
   clear hcp
   have HN:=Lib.hid (new_range wr c)
   have HF:=Lib.hid (h5.out.alloc' (.cells (kl c).toArray 113))
   have HB:=Lib.hid (h4.alloc h4.size (.cells (kl c).toArray 113))
   have HS:Hid ((wr.alloc (.cells (kl c).toArray 113)).heap.size=wr.heap.size + 1):=Lib.hid (by simp)
   generalize wr.alloc (.cells (kl c).toArray 113)=W1 at HN HF HB HS ⊢
   refine wp_region_lit ?_
   (refine rdT ?_;simp only [Act.put,sA,sB,sC])
   refine l_load rfl _ rfl HOK.out _ _ rfl HN.out ?_
   (simp only [Act.put,sA,sB,sC])
   refine l_slice rfl _ rfl HOK.out rfl ?_
   (simp only [Act.put,sA,sB,sC])
   obtain ⟨v2,W2,hrun,hf2,hg2⟩:=(HF.out.alloc' (.cells (kl c).toArray 113)).push (by have:=HB.out.size;simp;omega) (by omega) HOK.out (cap:=1) (new_range W1 c)
   have HB2:Hid (Below w.heap.size w W2):=Lib.hid ((HB.out.alloc HB.out.size _).grown hg2 (by have:=HB.out.size;simp;omega) fun k hk=> (hf_lt HF.out k hk).1)
   have HF2:=Lib.hid hf2
   clear hf2 hg2 HN HF HB HS
   refine wpList_plain rfl fun K0 hK0=> wp_append_run _ (.tmp 20) (.tmp 22) 108 108 rfl _ _ v2 W2 rfl rfl (hrun _) (hK0 _ _ ?_)
   clear hK0 hrun
   (simp only [Act.put,sA,sB,sC])
   (refine rdT ?_;simp only [Act.put,sA,sB,sC])
   refine wpList_nil ?_
   go_wp2_with fail
   have hpos:0 < rest.length:=List.length_pos_iff.2 he
   have hstr:List.drop (min 32 (gk:Int)).toNat (List.take gk rest)=rest.drop 32:=by
    rw [←h2,List.take_length]
    by_cases h:32≤rest.length
    ·rw [show (min (32:Int) (rest.length:Int)).toNat=32 by omega]
    ·rw [show (min (32:Int) (rest.length:Int)).toNat=rest.length by omega,List.drop_length,List.drop_of_length_le (by omega)]
   rw [hstr]
   go_roundg ((rest.drop 32).length)
   case measure=> simp;omega
   refine ⟨rest.drop 32,out ++ [c],?_,rfl,?_,rfl,HB2.out,HF2⟩
   ·rw [h1,HC.out]
    simp
   ·simp
    omega
end Go.Proofs.YtmgcnoigihdhpaaGreatDoor
namespace Go.Proofs.YtmgcnoigihdhpaaGreatDoor
open Go.RowKit Go.Maps
theorem FileAt.keep {lo:Nat} {W W':World} {v:Value} {f:List Ch} (h:FileAt lo W v f) (hb:∀g,v.ownBlock=some g→W'.heap[g]? =W.heap[g]?):FileAt lo W' v f:=by
 refine ⟨h.1,h.2.1,?_⟩
 rcases h.2.2 with h1 | ⟨g,cap,cur,h1,h2,h3,h4⟩
 ·exact Or.inl h1
 ·exact Or.inr ⟨g,cap,cur,h1,h2,(hb g (by rw [h1];rfl)).trans h3,h4⟩
theorem flat_at:∀{f:List Ch} (_:∀c∈f,Okc c) {i:Nat} {c:Ch} (_:f[i]? =some c) {j:Nat} {u:Value} (_:(kl c)[j]? =some u),(f.flatMap kl)[i * 33 + j]? =some u
 | [],_,i,c,h,j,u,_=> by simp at h
 | d::f,ho,0,c,h,j,u,hu=> by
  simp at h
  subst h
  rw [List.flatMap_cons,Nat.zero_mul,Nat.zero_add,List.getElem?_append_left (List.getElem?_eq_some_iff.1 hu).1]
  exact hu
 | d::f,ho,i + 1,c,h,j,u,hu=> by
  have hd:=kl_len (ho d (by simp))
  rw [List.flatMap_cons,List.getElem?_append_right (by rw [hd];omega),hd,show (i + 1) * 33 + j - 33=i * 33 + j by omega]
  exact flat_at (fun c hc=> ho c (by simp [hc])) (by simpa using h) hu
theorem FileAt.slice {lo:Nat} {W:World} {v:Value} {f:List Ch} (h:FileAt lo W v f):∃a cap,v= .slice a f.length cap∧(f= []∨∃g,a=some ⟨g,0,none⟩∧lo≤g∧g < W.heap.size∧∀i c,f[i]? =some c→W.rangeAt g (i * 33) (kl c)):=by
 rcases h.2.2 with ⟨h1,h2⟩ | ⟨g,cap,cur,h1,h2,h3,h4,h5,h6,h7⟩
 ·exact ⟨none,0,by rw [h1,h2],Or.inl (List.length_eq_zero_iff.1 h2)⟩
 ·refine ⟨_,_,h1,Or.inr ⟨g,rfl,h2,(Array.getElem?_eq_some_iff.1 h3).1,fun i c hc j u hu=> ?_⟩⟩
  have h8:=flat_at h.1 hc hu
  rw [←h7,List.getElem?_take] at h8
  split at h8
  ·rw [cell_of_row _ _ _ cur 113 (0,0) h3]
   simpa using h8
  ·cases h8
def fsize (f:List Ch):Nat:=(f.map List.length).sum
theorem fsize_le {f:List Ch} (h:∀c∈f,Okc c):fsize f≤f.length * 32:=by
 induction f with
 | nil=> simp [fsize]
 | cons c f ih=>
  have h1:=h c (by simp)
  have h2:=ih fun d hd=> h d (by simp [hd])
  unfold Okc at h1
  unfold fsize at h2 ⊢
  simp only [List.map_cons,List.sum_cons,List.length_cons]
  omega
theorem fsize_take {f:List Ch} {i:Nat} {c:Ch} (h:f[i]? =some c):fsize (f.take (i + 1))=fsize (f.take i) + c.length:=by
 unfold fsize
 rw [List.take_add_one,h]
 simp
theorem cell0 (w:World) (c:Ch):(w.alloc (.cells (kl c).toArray 113)).cell? ⟨w.heap.size,0,none⟩=some (.int .i64 (c.length:Int)):=by
 have:=new_range w c 0 _ rfl
 simpa using this
set_option maxRecDepth 100000 in
set_option maxHeartbeats 4000000 in
theorem size_walk (lo:Nat) (v:Value) (f:List Ch) (w:World) (h:FileAt lo w v f) (hl:f.length≤1000000):
  Calls Tryz.prog 30 #[v] w fun e w'=> e= .returned (.int .i64 (fsize f:Int))∧Below w.heap.size w w':=by
 obtain ⟨a,cap,rfl,hr⟩:=h.slice
 have HR:=Lib.hid hr
 have HO:=Lib.hid h.1
 have HF:=Lib.hid (fsize_le h.1)
 clear hr h
 generalize hn:f.length=n at *
 have HN:=Lib.hid hn
 clear hn
 go_enter Tryz.func30,Tryz.ntmps30
 go_wp2_with fail
 go_loopg [3,8] n (fun q x y W=> ∃k:Nat,k + q=n∧y= .int .i64 k∧x= .int .i64 (fsize (f.take k):Int)∧Hid (Below w.heap.size w W))
 case atStart=> exact ⟨0,by omega,rfl,by simp [fsize],Lib.hid (Below.refl _ _)⟩
 case round=>
  obtain ⟨k,hk,rfl,rfl,HB⟩:=hrel
  by_cases hlt:k < n
  ·obtain ⟨c,hc⟩:∃c,f[k]? =some c:=⟨_,List.getElem?_eq_getElem (by rw [HN.out];exact hlt)⟩
   obtain ⟨g,rfl,_,hg,hat⟩:∃g,a=some ⟨g,0,none⟩∧lo≤g∧g < w.heap.size∧∀i c,f[i]? =some c→w.rangeAt g (i * 33) (kl c):=HR.out.resolve_left fun e=> by rw [e] at hc;simp at hc
   have hrg:Hid (wr.rangeAt g (k * 33) (kl c)):=Lib.hid fun j u hu=> by
    rw [HB.out.cell (p:=⟨g,k * 33 + j,none⟩) hg]
    exact hat k c hc j u hu
   have hok:=Lib.hid (HO.out c (List.mem_of_getElem? hc))
   have HC:=Lib.hid hc
   clear hat hg hc
   go_upto_region 4 with fail
   refine wp_region_lit ?_
   (refine rdT ?_;simp only [Act.put,sA,sB,sC])
   refine l_load rfl _ rfl hok.out _ _ rfl hrg.out ?_
   (simp only [Act.put,sA,sB,sC])
   refine l_alloc rfl rfl ?_
   (simp only [Act.put,sA,sB,sC])
   refine l_store rfl _ _ rfl rfl _ (by simp [kl_len hok.out]) (all_oneCell_toArray (kl_one c)) rfl rfl ?_
   (simp only [Act.put])
   have hcell:=cell0 wr c
   have HB1:=Lib.hid (HB.out.alloc HB.out.size (.cells (kl c).toArray 113))
   generalize wr.alloc (.cells (kl c).toArray 113)=W1 at hcell HB1 ⊢
   clear hrg HB
   generalize wr.heap.size=eb at hcell ⊢
   have hcl:Hid (c.length≤32):=hok
   have hle:fsize (f.take (k + 1))≤n * 32:=by
    have h1:=fsize_le (f:=f.take (k + 1)) fun d hd=> HO.out d (List.mem_of_mem_take hd)
    have h2:=List.length_take_le (k + 1) f
    omega
   have hx:=fsize_take HC.out
   have hadd:wrap64 ((fsize (f.take k):Int) + (c.length:Int))=(fsize (f.take (k + 1)):Int):=by
    rw [hx] at hle ⊢
    rw [IntWalk.wrap64_in _ (by omega)]
    omega
   have HADD:=Lib.hid hadd
   clear hadd hx hle
   refine wpList_nil ?_
   go_wp2_with fail
   go_roundg (gk - 1)
   case measure=> omega
   exact ⟨k + 1,by omega,by rw [Int.natCast_add];rfl,by rw [HADD.out],HB1⟩
  ·obtain rfl:k=n:=by omega
   have hf:f.take k=f:=by rw [←HN.out,List.take_length]
   go_wp2_with fail
   go_ret
   exact ⟨by rw [hf];rfl,HB.out⟩
set_option maxRecDepth 100000 in
set_option maxHeartbeats 4000000 in
theorem equal_walk (lo lo':Nat) (v v':Value) (f f':List Ch) (w:World) (h:FileAt lo w v f) (h':FileAt lo' w v' f') (hl:f.length≤1000000) (_hl':f'.length≤1000000):
  Calls Tryz.prog 28 #[v,v'] w fun e w'=> e= .returned (.bool (decide (f=f')))∧Below w.heap.size w w':=by
 obtain ⟨a,cap,rfl,hr⟩:=h.slice
 obtain ⟨a',cap',rfl,hr'⟩:=h'.slice
 have HR:=Lib.hid hr
 have HO:=Lib.hid h.1
 have HR':=Lib.hid hr'
 have HO':=Lib.hid h'.1
 clear hr h hr' h'
 by_cases hne:f.length=f'.length
 ·obtain ⟨n,hn,hn'⟩:∃n,f.length=n∧f'.length=n:=⟨_,rfl,hne.symm⟩
  rw [hn,hn']
  rw [hn] at hl
  have HN:=Lib.hid hn
  have HN':=Lib.hid hn'
  clear hn hn' hne _hl'
  go_enter Tryz.func28,Tryz.ntmps28
  go_wp2_with fail
  go_loopg [13] n (fun q y W=> ∃k:Nat,k + q=n∧y= .int .i64 k∧Hid (f.take k=f'.take k)∧Hid (Below w.heap.size w W))
  case atStart=> exact ⟨0,by omega,rfl,Lib.hid (by simp),Lib.hid (Below.refl _ _)⟩
  case round=>
   obtain ⟨k,hk,rfl,HT,HB⟩:=hrel
   by_cases hlt:k < n
   ·obtain ⟨c,hc⟩:∃c,f[k]? =some c:=⟨_,List.getElem?_eq_getElem (by rw [HN.out];exact hlt)⟩
    obtain ⟨d,hd⟩:∃d,f'[k]? =some d:=⟨_,List.getElem?_eq_getElem (by rw [HN'.out];exact hlt)⟩
    obtain ⟨g,rfl,_,hg,hat⟩:∃g,a=some ⟨g,0,none⟩∧lo≤g∧g < w.heap.size∧∀i c,f[i]? =some c→w.rangeAt g (i * 33) (kl c):=HR.out.resolve_left fun e=> by rw [e] at hc;simp at hc
    obtain ⟨g',rfl,_,hg',hat'⟩:∃g,a'=some ⟨g,0,none⟩∧lo'≤g∧g < w.heap.size∧∀i c,f'[i]? =some c→w.rangeAt g (i * 33) (kl c):=HR'.out.resolve_left fun e=> by rw [e] at hd;simp at hd
    have hrg:wr.rangeAt g (k * 33) (kl c):=fun j u hu=> by
     rw [HB.out.cell (p:=⟨g,k * 33 + j,none⟩) hg]
     exact hat k c hc j u hu
    have hrg':wr.rangeAt g' (k * 33) (kl d):=fun j u hu=> by
     rw [HB.out.cell (p:=⟨g',k * 33 + j,none⟩) hg']
     exact hat' k d hd j u hu
    have hok:=Lib.hid (HO.out c (List.mem_of_getElem? hc))
    have hok':=Lib.hid (HO'.out d (List.mem_of_getElem? hd))
    have HC:=Lib.hid hc
    have HD:=Lib.hid hd
    clear hat hg hc hat' hg' hd
    go_upto_region 6 with fail
    refine wp_region_still_lit (by kernel_rfl) (by kernel_rfl) ?_
    (refine svT ?_;simp only [Act.put,sA,sB,sC])
    (refine svT ?_;simp only [Act.put,sA,sB,sC])
    (refine svT ?_;simp only [Act.put,sA,sB,sC])
    refine s_val rfl _ (e_load _ rfl hok.out _ _ rfl ((World.rangeAt_drew _ _ _ _).2 hrg)) ?_
    (simp only [Act.put,sA,sB,sC])
    (refine svT ?_;simp only [Act.put,sA,sB,sC])
    (refine svT ?_;simp only [Act.put,sA,sB,sC])
    (refine svT ?_;simp only [Act.put,sA,sB,sC])
    refine s_val rfl _ (e_load _ rfl hok'.out _ _ rfl ((World.rangeAt_drew _ _ _ _).2 hrg')) ?_
    (simp only [Act.put,sA,sB,sC])
    refine s_val rfl _ (e_neq _ _ rfl hok.out hok'.out rfl rfl) ?_
    (simp only [Act.put,sA,sB,sC])
    refine wpStill_nil ?_
    clear hrg hrg'
    have HB1:Hid (Below w.heap.size w {wr with drawn:=wr.drawn + 1}):=Lib.hid (bd (n:=1) HB.out)
    generalize ({wr with drawn:=wr.drawn + 1}:World)=W1 at HB1 ⊢
    by_cases hcd:c=d
    ·have hdec:decide (c≠d)=false:=by simp [hcd]
     rw [hdec]
     go_wp2_with fail
     go_roundg (gk - 1)
     case measure=> omega
     exact ⟨k + 1,by omega,by rw [Int.natCast_add];rfl,Lib.hid (by rw [List.take_add_one,List.take_add_one,HT.out,HC.out,HD.out,hcd]),HB1⟩
    ·have hdec:decide (c≠d)=true:=by simp [hcd]
     rw [hdec]
     go_wp2_with fail
     go_ret
     have hff:f≠f':=fun e=> hcd (by
      have h1:=HC.out
      rw [e,HD.out] at h1
      injection h1 with h1
      exact h1.symm)
     rw [show decide (f=f')=false by simp [hff]]
     exact ⟨rfl,HB1.out⟩
   ·obtain rfl:k=n:=by omega
    go_wp2_with fail
    go_ret
    have hff:f=f':=by
     have h1:=HT.out
     rw [List.take_of_length_le (by rw [HN.out];exact Nat.le_refl _),List.take_of_length_le (by rw [HN'.out];exact Nat.le_refl _)] at h1
     exact h1
    rw [show decide (f=f')=true by simp [hff]]
    exact ⟨rfl,HB.out⟩
 ·go_enter Tryz.func28,Tryz.ntmps28
  have hneq:((f.length:Int)=(f'.length:Int))=False:=by
   rw [eq_iff_iff,iff_false]
   omega
  go_wp2_with fail
  go_ret
  rw [show decide (f=f')=false by simpa using fun e:f=f'=> hne (by rw [e])]
  exact ⟨rfl,Below.refl _ _⟩
end Go.Proofs.YtmgcnoigihdhpaaGreatDoor

/-
gate.Read: the box of an input, the reader beside it.
-/
import Derived.Test.YtnegekppaoedgaaGreatDoorQ15
import Derived.Laws.ResultCell
import Derived.Laws.Tables
import Derived.Great.BuildSlice
import Derived.Great.Walk
set_option linter.all false
namespace Go.Proofs.YtnegekppaoedgaaGreatDoor
open Go.RowKit Go.Shelf
theorem sA {α:Type} (l:List α) (i:Nat) (a:α):l.toArray.setIfInBounds i a=(l.set i a).toArray:=List.setIfInBounds_toArray ..
theorem sB {α:Type} (x:α) (l:List α) (n:Nat) (a:α):(x::l).set (n + 1) a=x::l.set n a:=List.set_cons_succ
theorem sC {α:Type} (x:α) (l:List α) (a:α):(x::l).set 0 a=a::l:=List.set_cons_zero
theorem tA {α β:Type} (f:α→Option β):List.filterMap f []= []:=rfl
theorem tB {α β:Type} (f:α→Option β) (a:α) (l:List α):List.filterMap f (a::l)=(match f a with | none=> List.filterMap f l | some b=> b::List.filterMap f l):=List.filterMap_cons
theorem tC {α:Type} (a:α) (l:List α):(a::l)[0]? =some a:=List.getElem?_cons_zero
theorem tD {α:Type} (a:α) (l:List α) (n:Nat):(a::l)[n + 1]? =l[n]? :=List.getElem?_cons_succ
section
variable {P : Program} {ops : Array Oper} {rest : List Oper} {o : Oper} {a : Act} {w : World} {Q : Exit → Act → World → Prop}
theorem Ai {S:World→Prop} {r:List Oper} {b:Act} {v:Value} (h:Takes P ops S r (a.put o.dst v) b) (hw:Region.wanted o (yielded ops a.tmps)=true:=by rfl) (hv:∀w,S w→(execOp a.eval o).run P w= .ok (.value v) w:=by (intro w' hw';(try dsimp only at hw');go_simp;(first | done | with_reducible rfl))):Takes P ops S (o::r) a b:= .want v hw hv h
theorem bV {dst:Option Tmp} {v:Value} (h:wpList P ops Q rest (a.put dst v) w) (hg:o.guard=none:=by rfl) (hdst:o.dst=dst:=by rfl) (hrun:(execOp a.eval o).run P w= .ok (.value v) w:=by go_simp;first | done | with_reducible rfl):wpList P ops Q (o::rest) a w:=Great.wpList_readTo hg dst hdst v hrun h
theorem Va (hw:Region.wanted o (yielded ops a.tmps)=true) (h:∀K:Act→World→Prop,(∀a w,wpList P ops Q rest a w→K a w)→o.wp P a w K Q):wpList P ops Q (o::rest) a w:=
 wpList_step fun K hK=> by rw [if_pos hw];exact h K hK
theorem aW (h:wpList P ops Q rest (a.put o.dst undef) w) (hw:Region.wanted o (yielded ops a.tmps)=false:=by rfl):wpList P ops Q (o::rest) a w:=
 wpList_step fun K hK=> by rw [if_neg (by rw [hw];exact Bool.false_ne_true)];exact hK _ _ h
theorem iC (hw:Region.wanted o (yielded ops a.tmps)=true) (dst:Option Tmp) (hdst:o.dst=dst) (v:Value) (hrun:(execOp a.eval o).run P w= .ok (.value v) w) (h:wpList P ops Q rest (a.put dst v) w):wpList P ops Q (o::rest) a w:=
 Va hw fun K hK=> by
  unfold Oper.wp
  rw [hrun]
  exact hK _ _ (hdst ▸ h)
theorem iR {dst:Option Tmp} {v:Value} (h:wpList P ops Q rest (a.put dst v) w) (hw:Region.wanted o (yielded ops a.tmps)=true:=by rfl) (hdst:o.dst=dst:=by rfl) (hrun:(execOp a.eval o).run P w= .ok (.value v) w:=by go_simp;first | done | with_reducible rfl):wpList P ops Q (o::rest) a w:=iC hw dst hdst v hrun h
theorem g_call (hw:Region.wanted o (yielded ops a.tmps)=true) {fid:FuncId} {args:Array Operand} {ts:Array TypeId} (ho:o.op= .call ⟨.value (.func fid),args,ts⟩) (hcf:∀(vs:Array Value) (w:World),(callFunc fid vs).run P w= .ok (.enter fid vs) w) (dst:Option Tmp) (hdst:o.dst=dst) {vals:Array Value} (hv:args.map a.eval=vals)
  {R:Ending→World→Prop} (hc:Calls P fid vals w R) (hR:∀e w',R e w'→∃v,e= .returned v∧wpList P ops Q rest (a.put dst v) w'):wpList P ops Q (o::rest) a w:=
 Va hw fun K hK=> by
  have hrun:(execOp a.eval o).run P w= .ok (.enter fid vals) w:=by
   unfold execOp
   simp only [ho]
   show (callFunc fid (#[] ++ args.map a.eval ++ #[])).run P w=_
   rw [hv,Array.empty_append,Array.append_empty]
   exact hcf _ _
  unfold Oper.wp
  rw [hrun]
  show Calls P _ _ w _
  refine hc.mono ?_
  intro e w' h
  obtain ⟨v,rfl,h2⟩:=hR e w' h
  exact hK _ _ (hdst ▸ h2)
end
def bW (a:ak) (fv uv:Value):Array Value:= #[.int .i64 a.Kind,.int .i64 a.Net,.int .i64 a.Event,.int .i64 a.Local,.int .i64 a.N,.int .i64 a.Raw.Account,.int .i64 a.Raw.Seq,.int .i64 a.Raw.Kind,.int .i64 a.Raw.dN,.int .i64 a.Raw.On,.int .i64 a.Raw.Quote,.int .i64 a.Raw.Who,.int .i64 a.Raw.N,.string a.Raw.Text,fv,
 .int .i64 a.Note.Message,.int .i64 a.Note.Who,.int .i64 a.Note.Level,.int .i64 a.Note.Step,.bool a.Note.Not,.int .i64 a.Proof.Kind,.int .i64 a.Proof.A,.int .i64 a.Proof.B,.int .i64 a.aB.Name,.int .i64 a.aB.Step,.bool a.aB.Bad,.int .i64 a.Hold.Id,.int .i64 a.Hold.Event,.int .i64 a.Hold.From,.int .i64 a.Hold.To,.int .i64 a.Order.Kind,.int .i64 a.Order.Event,.int .i64 a.Order.By,.int .i64 a.Order.Step,uv]
abbrev o0:Value:= .slice none 0 0
theorem pU {a:ak} {fv uv:Value} (hf:fv.oneCell'=true) (hu:uv.oneCell'=true):∀u∈(bW a fv uv).toList,u.oneCell'=true:=by
 intro u h
 simp only [bW,List.mem_cons,List.not_mem_nil,or_false] at h
 rcases h with rfl | rfl | rfl | rfl | rfl | rfl | rfl | rfl | rfl | rfl | rfl | rfl | rfl | rfl | rfl | rfl | rfl | rfl | rfl | rfl | rfl | rfl | rfl | rfl | rfl | rfl | rfl | rfl | rfl | rfl | rfl | rfl | rfl | rfl | rfl <;> first | rfl | exact hf | exact hu
theorem oneCell_cells {v:Value} (h:v.oneCell'=true):v.cells= #[v]:=by cases v <;> first | rfl | cases h
theorem alK:∃i,Tryz.prog.info? 37=some i∧i.zero=some (.agg (bW dF o0 o0))∧i.size=35:=⟨Tryz.t37,by kernel_rfl,by kernel_rfl,by kernel_rfl⟩
theorem uH:(Tryz.prog.info? 37).map (·.size)=some 35:=by kernel_rfl
def KF (C:Array Value) (o:Nat) (vs:List Value):Array Value:=(C.toList.take o ++ vs ++ C.toList.drop (o + vs.length)).toArray
theorem ahB {W:World} {b off ty T:Nat} {v:Value} {C:Array Value} (cells:List Value) (h:W.heap[b]? =some (.cells C T (0,0))) (hv:v.cells.toList=cells) (hi:(Tryz.prog.info? ty).map (·.size)=some cells.length) (hfit:off + cells.length≤C.size) (h1:∀u∈cells,u.oneCell'=true):
  (Instr.storeAt ty (.pointer (some ⟨b,off,none⟩)) v).run Tryz.prog W= .ok () (W.setRow b (KF C off cells)):=by
 have hst:=run_storeCells_at Tryz.prog b off T cells 0 C W h (by simpa using hfit) h1
 simp only [Nat.add_zero] at hst
 cases hq:Tryz.prog.info? ty with
 | none=> simp [hq] at hi
 | some i=>
  have hs:v.cells.size=i.size:=by
   simp [hq] at hi
   rw [←Array.length_toList,hv]
   omega
  simp [Instr.storeAt,Instr.sureAddr,Sem.run_bind,storeVar,sizeOf,typeInfo,hq,hs,hv,hst,KF]
section
variable {ops : Array Oper} {rest : List Oper} {o : Oper} {a : Act} {W : World} {Q : Exit → Act → World → Prop}
theorem Bg {K:Act→World→Prop} (ty:TypeId) (x y:Operand) (ho:o.op= .store ty x y) {b off T:Nat} {v:Value} {C:Array Value} (cells:List Value) (D:Array Value) (hx:a.eval x= .pointer (some ⟨b,off,none⟩)) (hy:a.eval y=v) (h:W.heap[b]? =some (.cells C T (0,0))) (hv:v.cells.toList=cells) (hi:(Tryz.prog.info? ty).map (·.size)=some cells.length) (hfit:off + cells.length≤C.size) (h1:∀u∈cells,u.oneCell'=true) (hD:KF C off cells=D)
  (k:K (a.put o.dst undef) (W.setRow b D)):o.wp Tryz.prog a W K Q:=by
 subst hD
 unfold Oper.wp execOp
 simp only [ho,hx,hy,Sem.run_bind,ahB cells h hv hi hfit h1,Result.andThen_ok,Sem.run_pure]
 exact k
theorem jm (hg:o.guard=none) (ty:TypeId) (x y:Operand) (ho:o.op= .store ty x y) {b off T:Nat} {v:Value} {C:Array Value} (cells:List Value) (D:Array Value) (hx:a.eval x= .pointer (some ⟨b,off,none⟩)) (hy:a.eval y=v) (h:W.heap[b]? =some (.cells C T (0,0))) (hv:v.cells.toList=cells) (hi:(Tryz.prog.info? ty).map (·.size)=some cells.length) (hfit:off + cells.length≤C.size) (h1:∀u∈cells,u.oneCell'=true) (hD:KF C off cells=D)
  (k:wpList Tryz.prog ops Q rest (a.put o.dst undef) (W.setRow b D)):wpList Tryz.prog ops Q (o::rest) a W:=
 wpList_plain hg fun K hK=> Bg ty x y ho cells D hx hy h hv hi hfit h1 hD (hK _ _ k)
theorem sO (hg:o.guard=none) (ho:o.op= .alloc 37) (h:wpList Tryz.prog ops Q rest (a.put o.dst (.pointer (some ⟨W.heap.size,0,none⟩))) (W.alloc (.cells (bW dF o0 o0) 37))):wpList Tryz.prog ops Q (o::rest) a W:=by
 refine Great.wpList_runTo hg _ rfl _ _ ?_ h
 obtain ⟨i,hi,hz,_⟩:=alK
 simp [execOp,ho,Instr.alloc,zeroValue,typeInfo,hi,hz,newVar,newRow,Value.cells]
end
theorem adV {W:World} {b:Nat} {C:Array Value} (h:W.heap[b]? =some (.cells C 37 (0,0))) (hC:C.size=35):(Instr.loadAt 37 (.pointer (some ⟨b,0,none⟩))).run Tryz.prog W= .ok (.agg C) W:=by
 have hr:W.rangeAt b 0 C.toList:=fun j v hv=> by
  rw [cell_of_row _ _ _ C 37 (0,0) h,Nat.zero_add,←hv]
  simp
 have:=run_loadAt_mid W b 0 37 C.toList _ hr Tryz.underlying37 rfl (by rw [Array.length_toList,hC];kernel_rfl)
 simpa using this
theorem dB {o:Oper} {a:Act} {W:World} (x:Operand) (ho:o.op= .load 37 x) {C:Array Value} {b:Nat} (hx:a.eval x= .pointer (some ⟨b,0,none⟩)) (h:W.heap[b]? =some (.cells C 37 (0,0))) (hC:C.size=35):(execOp a.eval o).run Tryz.prog W= .ok (.value (.agg C)) W:=by
 unfold execOp
 simp only [ho,hx,Sem.run_bind,adV h hC,Result.andThen_ok,Sem.run_pure]
theorem Ob.setRow (b:Nat) (C:Array Value) (W:World):Ob b W (W.setRow b C):=⟨rfl,rfl,rfl,by rw [setRow_size];exact Nat.le_refl _,fun k _ hn=> setRow_other W b k C hn⟩
theorem Ob.drew (b:Nat) (W:World):Ob b W W.drew:=⟨rfl,rfl,rfl,Nat.le_refl _,fun _ _ _=> rfl⟩
theorem nO {w W W':World} {b:Nat} (h:Below w.heap.size w W) (ho:Ob b W W') (hb:w.heap.size≤b):Below w.heap.size w W':=⟨ho.os.trans h.os,ho.tape.trans h.tape,ho.output.trans h.output,Nat.le_trans h.size ho.size,fun k hk=> (ho.block k (Nat.lt_of_lt_of_le hk h.size) (by omega)).trans (h.block k hk)⟩
structure Y6 (w:World) (st:RS) (W:World):Prop where
 rd:iq (w.heap.size + 1) st W
 res:W.heap[w.heap.size]? =some (.cells (bW dF o0 o0) 37 (0,0))
 below:Below w.heap.size w W
 len:(st.getD []).length≤1000000
structure qK (w:World) (ib:Nat) (st:RS) (C:Array Value) (W:World):Prop where
 z:Y6 w st W
 box:W.heap[ib]? =some (.cells C 37 (0,0))
 lo:w.heap.size + 2≤ib
section
variable {w W W' : World} {ib : Nat} {st st' : RS} {C : Array Value}
theorem Y6.ob (h:Y6 w st W) (ho:Ob (w.heap.size + 1) W W') (hr:iq (w.heap.size + 1) st' W') (hl:(st'.getD []).length≤(st.getD []).length):Y6 w st' W':=
 ⟨hr,(ho.block _ (lt_of_block h.res) (by omega)).trans h.res,nO h.below ho (by omega),Nat.le_trans hl h.len⟩
theorem qK.ob (h:qK w ib st C W) (ho:Ob (w.heap.size + 1) W W') (hr:iq (w.heap.size + 1) st' W') (hl:(st'.getD []).length≤(st.getD []).length):qK w ib st' C W':=
 ⟨h.z.ob ho hr hl,(ho.block ib (lt_of_block h.box) (by have:=h.lo;omega)).trans h.box,h.lo⟩
theorem Y6.inv (h:Y6 w st W) (hI:Inv w):Inv W:=mP hI h.below
theorem Y6.num (h:Y6 w st W) (hI:Inv w):Calls Tryz.prog 24 #[.pointer (some ⟨w.heap.size + 1,0,none⟩)] W fun e W'=> e= .returned (.int .i64 (rN st).1)∧Y6 w (rN st).2 W':=
 (adG num_inv h.rd (h.inv hI) h.len).mono fun e W' hr=> ⟨hr.1,h.ob hr.2.1 hr.2.2 (jd st 59 0)⟩
theorem qK.num (h:qK w ib st C W) (hI:Inv w):Calls Tryz.prog 24 #[.pointer (some ⟨w.heap.size + 1,0,none⟩)] W fun e W'=> e= .returned (.int .i64 (rN st).1)∧Ob (w.heap.size + 1) W W'∧qK w ib (rN st).2 C W':=
 (adG num_inv h.z.rd (h.z.inv hI) h.z.len).mono fun e W' hr=> ⟨hr.1,hr.2.1,h.ob hr.2.1 hr.2.2 (jd st 59 0)⟩
theorem qK.int (h:qK w ib st C W) (hI:Inv w):Calls Tryz.prog 25 #[.pointer (some ⟨w.heap.size + 1,0,none⟩)] W fun e W'=> e= .returned (.int .i64 (rI st).1)∧Ob (w.heap.size + 1) W W'∧qK w ib (rI st).2 C W':=
 (adH num_inv h.z.rd (h.z.inv hI) h.z.len).mono fun e W' hr=> ⟨hr.1,hr.2.1,h.ob hr.2.1 hr.2.2 (jd st 59 dw)⟩
theorem GL (st:RS) (c:UInt8):((fF st c).getD []).length≤(st.getD []).length:=by
 unfold fF
 split
 ·split
  ·exact Nat.le_succ _
  ·exact Nat.zero_le _
 ·exact Nat.zero_le _
theorem YV (st:RS):((pJ st).2.getD []).length≤(st.getD []).length:=by
 rw [Rf st (n:=(dA st 58 0).1) (s1:=(dA st 58 0).2) rfl]
 have h1:=jd st 58 0
 split
 ·exact Nat.zero_le _
 ·split
  ·exact Nat.zero_le _
  ·rename_i r hr
   have h2:=GL (some (((dA st 58 0).2.getD []).drop (dA st 58 0).1.toNat)) 44
   rw [hr] at h2
   simp only [Option.getD_some,List.length_drop] at h2 ⊢
   omega
theorem JX:∀(k:Nat) (st:RS) (acc:List Int),((jc k st acc).2.getD []).length≤(st.getD []).length
 | 0,st,acc=> by rw [vG];exact Nat.le_refl _
 | k + 1,none,acc=> Nat.le_refl _
 | k + 1,some s,acc=> Nat.le_trans (JX k _ _) (jd (some s) 59 dw)
theorem YW (st:RS):((jB st).2.getD []).length≤(st.getD []).length:=by
 have e:jB st=match fF (jc (dA st 91 0).1.toNat (dA st 91 0).2 []).2 93 with
  | none=> ([],none)
  | some r=> ((jc (dA st 91 0).1.toNat (dA st 91 0).2 []).1,some r):=rfl
 rw [e]
 have h1:=jd st 91 0
 have h2:=JX (dA st 91 0).1.toNat (dA st 91 0).2 []
 have h3:=GL (jc (dA st 91 0).1.toNat (dA st 91 0).2 []).2 93
 split
 ·exact Nat.zero_le _
 ·rename_i r hr
  rw [hr] at h3
  simp only at h3 ⊢
  omega
theorem qK.text (h:qK w ib st C W) (hI:Inv w):Calls Tryz.prog 27 #[.pointer (some ⟨w.heap.size + 1,0,none⟩)] W fun e W'=> e= .returned (.string ⟨(pJ st).1.toArray⟩)∧Ob (w.heap.size + 1) W W'∧qK w ib (pJ st).2 C W':=
 (ahr num_inv h.z.rd (h.z.inv hI) h.z.len).mono fun e W' hr=> ⟨hr.1,hr.2.1,h.ob hr.2.1 hr.2.2 (YV st)⟩
def lZ (ib:Nat) (fl:List Int) (fv:Value) (W:World):Prop:=∃B,ib < B∧W.ownsRow B 3 1 fv fl.length (fl.map (.int .i64))
def nS (ib:Nat) (ul:List Bool) (uv:Value) (W:World):Prop:=∃B,ib < B∧W.ownsRow B 4 1 uv ul.length (ul.map .bool)
theorem lZ.nil (ib:Nat) (W:World):lZ ib [] o0 W:=⟨ib + 1,Nat.lt_succ_self _,World.ownsRow_nil _ _ _ _⟩
theorem nS.nil (ib:Nat) (W:World):nS ib [] o0 W:=⟨ib + 1,Nat.lt_succ_self _,World.ownsRow_nil _ _ _ _⟩
theorem lZ.ob {fl:List Int} {fv:Value} {b:Nat} (h:lZ ib fl fv W) (ho:Ob b W W') (hb:b≤ib):lZ ib fl fv W':=by
 obtain ⟨B,h1,h2⟩:=h
 exact ⟨B,h1,jM h2 ho (Nat.lt_of_le_of_lt hb h1)⟩
theorem nS.ob {ul:List Bool} {uv:Value} {b:Nat} (h:nS ib ul uv W) (ho:Ob b W W') (hb:b≤ib):nS ib ul uv W':=by
 obtain ⟨B,h1,h2⟩:=h
 exact ⟨B,h1,jM h2 ho (Nat.lt_of_le_of_lt hb h1)⟩
theorem qK.nums (h:qK w ib st C W) (hI:Inv w):Calls Tryz.prog 26 #[.pointer (some ⟨w.heap.size + 1,0,none⟩)] W fun e W'=> ∃fv,e= .returned fv∧Ob (w.heap.size + 1) W W'∧qK w ib (jB st).2 C W'∧lZ ib (jB st).1 fv W':=by
 refine (ahs num_inv h.z.rd (h.z.inv hI) (fun u v hu ho=> adL hu ho fun ht=> ?_) h.z.len).mono fun e W' hr=> ?_
 ·have:=hI.lt ht
  omega
 ·obtain ⟨v,h1,h2,h3,h4⟩:=hr
  exact ⟨v,h1,h2,h.ob h2 h3 (YW st),W.heap.size,lt_of_block h.box,h4⟩
theorem qK.left (h:qK w ib st C W):Calls Tryz.prog 28 #[.pointer (some ⟨w.heap.size + 1,0,none⟩)] W fun e W'=> e= .returned (.int .i64 ((st.getD []).length:Int))∧W'=W:=aht h.z.rd
theorem qK.done (h:qK w ib st C W):Calls Tryz.prog 29 #[.pointer (some ⟨w.heap.size + 1,0,none⟩)] W fun e W'=> e= .returned (.bool (JR st))∧W'=W:=ahu h.z.rd
theorem qK.put (h:qK w ib st C W) (D:Array Value):qK w ib st D (W.setRow ib D):=by
 have hlo:=h.lo
 have ho:=Ob.setRow ib D W
 exact ⟨⟨(ho.block _ (lt_of_block h.z.rd) (by omega)).trans h.z.rd,(ho.block _ (lt_of_block h.z.res) (by omega)).trans h.z.res,nO h.z.below ho (by omega),h.z.len⟩,setRow_heap W ib C D 37 (0,0) h.box,hlo⟩
theorem Y6.box (h:Y6 w st W):qK w W.heap.size st (bW dF o0 o0) (W.alloc (.cells (bW dF o0 o0) 37)):=by
 have hlt:=lt_of_block h.rd
 exact ⟨⟨(heap_alloc_old W _ hlt).trans h.rd,(heap_alloc_old W _ (lt_of_block h.res)).trans h.res,h.below.trans ((bC W _).mono h.below.size),h.len⟩,heap_alloc_new W _,by omega⟩
theorem qK.alloc (h:qK w ib st C W) (o:Obj):qK w ib st C (W.alloc o):=
 ⟨⟨(heap_alloc_old W _ (lt_of_block h.z.rd)).trans h.z.rd,(heap_alloc_old W _ (lt_of_block h.z.res)).trans h.z.res,h.z.below.trans ((bC W _).mono h.z.below.size),h.z.len⟩,(heap_alloc_old W _ (lt_of_block h.box)).trans h.box,h.lo⟩
theorem qK.drew (h:qK w ib st C W):qK w ib st C W.drew:=⟨⟨h.z.rd,h.z.res,⟨h.z.below.os,h.z.below.tape,h.z.below.output,h.z.below.size,h.z.below.block⟩,h.z.len⟩,h.box,h.lo⟩
end
theorem Ro {S:Nat→Prop} {W:World} {B T n:Nat} {v:Value} {α:Type} (l:List α) (g:α→Value) (hg:∀x,(g x).oneCell'=true) (h:W.ownsRow B T 1 v n (l.map g)) (hn:n=l.length) (hS:∀b,B≤b→b < W.heap.size→S b):aV S W (.fz (l.map fun x=> [.v (g x)])) v:=by
 subst hn
 rcases h.2 with ⟨rfl,e⟩ | ⟨b,cap,cur,rfl,h1,h2,h3,h4,h5,h6⟩
 ·have:l= []:=by
   cases l with
   | nil=> rfl
   | cons x r=> simp at e
  subst this
  exact .fz0 none 0 fun _=> rfl
 ·have hlen:(l.map fun x=> [D.v (g x)]).length=l.length:=List.length_map ..
  have key:∀j,(hj:j < l.length)→cur[j]? =some (g (l[j]'hj)):=fun j hj=> by
   have:=congrArg (fun q=> q[j]?) h6
   simp only [List.getElem?_map] at this
   rw [List.getElem?_take_of_lt (by omega),List.getElem?_eq_getElem hj] at this
   rw [←Array.getElem?_toList,this]
   rfl
  have hl0:0 < l.length∨l= []:=by
   cases l with
   | nil=> exact .inr rfl
   | cons x r=> exact .inl (Nat.succ_pos _)
  rcases hl0 with hl0 | hl0
  ·rw [←hlen]
   refine .fz _ b 0 1 cap (fun j=> cur.getD j o0) (fun e he=> ?_) (hS b h1 (lt_of_block h2)) (by rw [hlen];omega) (fun j hj=> ?_) (fun i j e x he hx=> ?_)
   ·obtain ⟨x,_,rfl⟩:=List.mem_map.1 he
    rfl
   ·rw [hlen,Nat.mul_one] at hj
    rw [cell_of_row _ _ _ cur T (0,0) h2,Nat.zero_add]
    have:=key j hj
    rw [this]
    simp [Array.getD_eq_getD_getElem?,this]
   ·rw [List.getElem?_map] at he
    obtain ⟨y,hy,rfl⟩:=Option.map_eq_some_iff.1 he
    have hi:=(List.getElem?_eq_some_iff.1 hy).1
    match j,hx with
    | 0,hx=>
     have hx:D.v (g y)=x:=Option.some.inj hx
     subst hx
     have hk:=key i hi
     have:l[i]=y:=Option.some.inj ((List.getElem?_eq_getElem hi).symm.trans hy)
     rw [this] at hk
     have e:cur.getD (i * 1 + 0) o0=g y:=by simp [Array.getD_eq_getD_getElem?,hk]
     rw [e]
     exact .v _ (hg y)
  ·subst hl0
   exact .fz0 (some _) cap (fun h=> by cases h)
theorem lZ.rel {S:Nat→Prop} {W:World} {ib:Nat} {fl:List Int} {fv:Value} (h:lZ ib fl fv W) (hS:∀b,ib < b→b < W.heap.size→S b):aV S W (.fz (fl.map (encI .i64))) fv:=by
 obtain ⟨B,h1,h2⟩:=h
 exact Ro fl (fun z=> .int .i64 z) (fun _=> rfl) h2 rfl fun b hb hl=> hS b (Nat.lt_of_lt_of_le h1 hb) hl
theorem nS.rel {S:Nat→Prop} {W:World} {ib:Nat} {ul:List Bool} {uv:Value} (h:nS ib ul uv W) (hS:∀b,ib < b→b < W.heap.size→S b):aV S W (.fz (ul.map jo)) uv:=by
 obtain ⟨B,h1,h2⟩:=h
 exact Ro ul (fun z=> .bool z) (fun _=> rfl) h2 rfl fun b hb hl=> hS b (Nat.lt_of_lt_of_le h1 hb) hl
theorem xY {A:Nat→Prop} {W:World} {a:ak} {fv uv:Value} (hf:aV A W (.fz (a.Raw.Files.map (encI .i64))) fv) (hu:aV A W (.fz (a.Up.map jo)) uv):Rel (G6 A W) (.agg (ak.av a)) (.agg (bW a fv uv)):=by
 refine .agg (by rfl) fun j c v hc hv=> ?_
 have hd:((ak.enc a).map AV.d)[j]? =some c:=hc
 rw [AZ,List.map_map,List.getElem?_map] at hd
 obtain ⟨q,hq,e⟩:=Option.map_eq_some_iff.1 hd
 subst e
 refine .d ?_
 have hj:j < 35:=by
  have:=(List.getElem?_eq_some_iff.1 hq).1
  simpa using this
 rw [List.getElem?_range hj] at hq
 have:=Option.some.inj hq
 subst this
 match j,hj,hv with
 | 0,_,hv | 1,_,hv | 2,_,hv | 3,_,hv | 4,_,hv | 5,_,hv | 6,_,hv | 7,_,hv | 8,_,hv | 9,_,hv | 10,_,hv | 11,_,hv | 12,_,hv | 13,_,hv | 15,_,hv | 16,_,hv | 17,_,hv | 18,_,hv | 19,_,hv | 20,_,hv | 21,_,hv | 22,_,hv | 23,_,hv | 24,_,hv | 25,_,hv | 26,_,hv | 27,_,hv | 28,_,hv | 29,_,hv | 30,_,hv | 31,_,hv | 32,_,hv | 33,_,hv=>
  have hv:=(Option.some.inj hv).symm
  subst hv
  exact .v _ rfl
 | 14,_,hv=>
  have hv:=(Option.some.inj hv).symm
  subst hv
  exact hf
 | 34,_,hv=>
  have hv:=(Option.some.inj hv).symm
  subst hv
  exact hu
end Go.Proofs.YtnegekppaoedgaaGreatDoor

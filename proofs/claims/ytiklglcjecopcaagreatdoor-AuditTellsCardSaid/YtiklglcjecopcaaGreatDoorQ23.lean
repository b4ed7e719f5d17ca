/-
  The keys of a map whose keys are pairs of numbers, collected: slices.AppendSeq, slices.Collect.
  The keys of a map whose keys are pairs of numbers, collected into a row: what came, in some order; nothing out of a nil map.
  slices.SortFunc as a contract on plain data: a row of the caller's own is sorted in place. Over any program.
  DERIVED: THE SHELF's CONTRACTS AT THIS DUMP, IN PLAIN WORDS (tools/lay-plain.mjs out of 'YtiklglcjecopcaaGreatDoorShelfSo.lean', which tools/lay-shelf.mjs wrote): THE SAME DECLARATIONS UNDER THE SAME NAMES: 'import', 'namespace', 'open', 'def', 'theorem' AND NOTHING ELSE: no command of the shelf's: FOR A HAND-IN. Each laying: the table of numbers ('.._ren') and one theorem, a field a fact of the dump's own or the kernel's comparison; each contract: ONE APPLICATION.
  Debts in order: slices.SortFunc, slices.SortedFunc at the keys of a map of debts.
-/
import Derived.Test.YtiklglcjecopcaaGreatDoorQ22
import Derived.Test.YtiklglcjecopcaaGreatDoorQ16
import Derived.Shelf.SlSortCmp.InsertionK
import Derived.Shelf.SlGeneric
import Derived.Shelf.SlSortCmp.NoneTotal
import Derived.Ground.SlsfProg
import Derived.Test.YtiklglcjecopcaaGreatDoorProg
import Derived.Test.YtiklglcjecopcaaGreatDoorQ19
import Derived.Test.YtiklglcjecopcaaGreatDoorQ20
namespace Go.Proofs.YtiklglcjecopcaaGreatDoor
open Go.RowKit Go.Maps Go.Sort Go.Shelf
def pairCl (x:Pr):List Value:= [.int .i64 x.1,.int .i64 x.2]
theorem infoP:(Tryz.prog.info? 67).map (fun i=> (i.zero,i.size,i.bytes))=some (some (.agg #[.int .i64 0,.int .i64 0]),2,16):=by kernel_rfl
def apAssignP:Code:=(Code.region 2 #[{dst:=some 5,op:=Op.alloc 67,type:=0,pos:= "iter.go:51",after:= #[],guard:=none},{dst:=none,op:=Op.store 67 (Operand.tmp 5) (Operand.tmp 7),type:=0,pos:= "iter.go:51",after:= #[{on:=0,ground:=Ground.data},{on:=0,ground:=Ground.phase}],guard:=none}] false)
def apBodyP:Code:=(Code.block 1 (Code.region 3 #[{dst:=some 8,op:=Op.load 25 (Operand.tmp 2),type:=25,pos:= "iter.go:52",after:= #[],guard:=none},{dst:=some 9,op:=Op.load 67 (Operand.tmp 5),type:=67,pos:= "iter.go:52",after:= #[],guard:=none},{dst:=some 10,op:=Op.buildSlice 25 1 #[(0,Operand.tmp 9)],type:=25,pos:= "iter.go:52",after:= #[{on:=1,ground:=Ground.data}],guard:=none},{dst:=some 11,op:=Op.call {callee:=Callee.builtin Builtin.append,args:= #[Operand.tmp 8,Operand.tmp 10],argTypes:= #[25,25]},type:=25,pos:= "iter.go:52",after:= #[{on:=0,ground:=Ground.data},{on:=2,ground:=Ground.data}],guard:=none},{dst:=none,op:=Op.store 25 (Operand.tmp 2) (Operand.tmp 11),type:=0,pos:= "iter.go:52",after:= #[{on:=3,ground:=Ground.data},{on:=3,ground:=Ground.chain},{on:=0,ground:=Ground.phase},{on:=1,ground:=Ground.phase},{on:=2,ground:=Ground.phase},{on:=3,ground:=Ground.phase}],guard:=none}] false))
def apRecP (fn:FuncId) (sv:Value) (Bs D:Nat) (st:LoopState) (pend:Option Code):Loop:=
 {state:=st,pending:=pend,fn,tmps:= #[.slice none 0 0,sv,.pointer (some ⟨Bs,0,none⟩),undef,.slice none 0 0,undef,sv,undef,undef,undef,undef,undef,undef],params:= #[7],assign:=apAssignP,body:=apBodyP,defers:=D}
structure ApAtP (w0:World) (fn:FuncId) (sv:Value) (Bs l D:Nat) (ss:List Pr) (W:World):Prop where
 box:∃v,W.heap[Bs]? =some (.cells #[v] 25 (0,0))∧W.ownsRow w0.heap.size 67 2 v ss.length (ss.flatMap pairCl)∧(v= .slice none 0 0↔ss= [])
 L:W.heap[l]? =some (.loop (apRecP fn sv Bs D .ready none))
 K:W.heap[D]? =some (.deferred (some []))
 below:Below w0.heap.size w0 W
theorem ap_abidesP (w0:World) (fn:FuncId) (sv:Value) (Bs l D B:Nat) (hB:w0.heap.size≤B):AbidesFrom B (ApAtP w0 fn sv Bs l D):=fun s W W' row h hg hrow=> by
 have hrow':∀r,row=some r→∃o:Obj,W.heap[r]? =some o∧o.isWalk=true:=fun r e=> (hrow r e).2
 obtain ⟨v,hv,hr,hn⟩:=h.box
 exact ⟨⟨v,(grownBy_keeps hg hrow' hv rfl).trans hv,ownsRow_abides_a hr hg hrow',hn⟩,(grownBy_keeps hg hrow' h.L rfl).trans h.L,(grownBy_keeps hg hrow' h.K rfl).trans h.K,
  h.below.grown hg h.below.size (fun k e=> Nat.le_trans hB (hrow k e).1)⟩
theorem cell_two_new (w:World) (a b:Value) (t:TypeId):∀j u,[a,b][j]? =some u→(w.alloc (.cells #[a,b] t)).cell? ((⟨w.heap.size,0,none⟩:Addr).add j)=some u:=by
 intro j u hu
 match j,hu with
 | 0,hu=>
  injection hu with hu
  subst hu
  simp [Addr.add,go_sem]
 | 1,hu=>
  injection hu with hu
  subst hu
  simp [Addr.add,go_sem]
set_option maxRecDepth 100000 in
set_option maxHeartbeats 2000000 in
theorem apYieldP (F:Fence) (m:Nat) (w0:World) (fn:FuncId) (hfn:F.fn fn) (sv:Value) (Bs l D:Nat) (hBl:Bs≠l) (hDl:D≠l) (hDB:D≠Bs) (h0B:w0.heap.size≤Bs) (h0l:w0.heap.size≤l)
  (N:Nat) (hN:N≤maxLen) (hNb:N * 16≤140737488355328) (ss:List Pr) (x:Pr) (W:World) (h:ApAtP w0 fn sv Bs l D ss W) (hlen:ss.length < N):
  YieldAt F m Tryz.prog l #[pairV x] W fun e W'=> e= .returned (.bool true)∧ApAtP w0 fn sv Bs l D (ss ++ [x]) W'∧KeepsWalks W W':=by
 obtain ⟨x1,x2⟩:=x
 have hne:25≠67:=by decide
 obtain ⟨i0,hi,hz0,hz1,hz2⟩:=info_parts infoP
 obtain ⟨v,hv,hrow,_⟩:=h.box
 unfold pairV
 refine ⟨fn,#[.slice none 0 0,sv,.pointer (some ⟨Bs,0,none⟩),undef,.slice none 0 0,undef,sv,.agg #[.int .i64 x1,.int .i64 x2],undef,undef,undef,undef,undef],apAssignP,apBodyP,by simpa [apRecP] using run_yield (P:=Tryz.prog) (args:= #[.agg #[.int .i64 x1,.int .i64 x2]]) h.L rfl,roundIn_of_wpIn hfn ?_⟩
 unfold apAssignP
 have hlW:l < W.heap.size:=(Array.getElem?_eq_some_iff.1 h.L).1
 have hBW:Bs < W.heap.size:=(Array.getElem?_eq_some_iff.1 hv).1
 clear hv hrow
 gi_wp2_with gi_round_op_a
 obtain ⟨W1,hW1⟩:∃W1,W.alloc (.cells #[.int .i64 x1,.int .i64 x2] 67)=W1:=⟨_,rfl⟩
 have hg1:W.grownBy W1 none:=by rw [←hW1];exact ⟨rfl,rfl,rfl,by simp,fun k hk _=> Below.heap_alloc _ _ k hk⟩
 have hx1:W1.heap[W.heap.size]? =some (.cells #[.int .i64 x1,.int .i64 x2] 67 (0,0)):=by rw [←hW1];exact World.alloc_heap_new W _
 have hk1:KeepsWalks W W1:=by rw [←hW1];exact KeepsWalks.alloc _ _
 have h1:ApAtP w0 fn sv Bs l D ss W1:=ap_abidesP w0 fn sv Bs l D _ (Nat.le_refl _) ss W W1 none h hg1 (fun r e=> by cases e)
 rw [hW1]
 generalize W.heap.size=vb at *
 clear h hg1 hW1
 obtain ⟨v,hv,hrow,_⟩:=h1.box
 have hl:l < W1.heap.size:=(Array.getElem?_eq_some_iff.1 h1.L).1
 have hvl:vb≠l:=by omega
 have hvB:vb≠Bs:=by omega
 have hbr:=run_beginRound (P:=Tryz.prog) h1.L rfl
 obtain ⟨W2,hW2⟩:∃W2,W1.putObj l (.loop {apRecP fn sv Bs D .ready none with state:= .busy})=W2:=⟨_,rfl⟩
 rw [hW2] at hbr
 have hg2:W1.grownBy W2 (some l):=by rw [←hW2];exact grownBy_putObj_a _ _ _
 have hk2:KeepsWalks W W2:=hk1.trans (by rw [←hW2];exact KeepsWalks.putObj _ h1.L rfl)
 have hv2:W2.heap[Bs]? =some (.cells #[v] 25 (0,0)):=by rw [←hW2];exact (World.putObj_heap_other hBl).trans hv
 have hx2:W2.heap[vb]? =some (.cells #[.int .i64 x1,.int .i64 x2] 67 (0,0)):=by rw [←hW2];exact (World.putObj_heap_other hvl).trans hx1
 have hK2:W2.heap[D]? =some (.deferred (some [])):=by rw [←hW2];exact (World.putObj_heap_other hDl).trans h1.K
 have hL2:W2.heap[l]? =some (.loop {apRecP fn sv Bs D .ready none with state:= .busy}):=by rw [←hW2];exact World.putObj_heap_same hl
 have hrow2:W2.ownsRow w0.heap.size 67 2 v ss.length (ss.flatMap pairCl):=hrow.kept hg2 (ownsRow_ne_a hrow h1.L (fun cur e=> by first | cases e | exact hne (Obj.cells.inj e).2.1))
 have hb2:Below w0.heap.size w0 W2:=h1.below.grown hg2 h1.below.size (fun k e=> by cases e;exact h0l)
 obtain ⟨hc2,hf2⟩:=cell_of_box_a hv2
 have hcx1:W2.cell? ⟨vb,0,none⟩=some (.int .i64 x1):=by rw [cell_of_row _ _ _ _ _ _ hx2];rfl
 have hcx2:W2.cell? ⟨vb,1,none⟩=some (.int .i64 x2):=by rw [cell_of_row _ _ _ _ _ _ hx2];rfl
 have hBlt:Bs < W2.heap.size:=(Array.getElem?_eq_some_iff.1 hv2).1
 have hl2:l < W2.heap.size:=(Array.getElem?_eq_some_iff.1 hL2).1
 have hDlt:D < W2.heap.size:=(Array.getElem?_eq_some_iff.1 hK2).1
 have ne_of:∀{j:Nat} {o:Obj},W2.heap[j]? =some o→(∀cur,o≠ .cells cur 67 (0,0))→some j≠v.ownBlock:=fun hj hno=> by
  rcases ownsRow_ne_a hrow2 hj hno with e | e
  ·rw [e];simp
  ·exact fun e'=> e e'.symm
 clear hW2
 refine ⟨W2,hbr,?_⟩
 unfold apBodyP
 gi_wp2_with (first
  | (gi_at_builtin;refine wpListIn_append_own _ rfl _ _ 25 rfl w0.heap.size 67 i0 (.agg #[.int .i64 0,.int .i64 0]) 2 16 Tryz.underlying25 hi hz0 hz1 hz2 rfl (by decide) _ _ _ rfl (hrow2.alloc _) ⟨W2.heap.size,0,none⟩ 1 1 [.int .i64 x1,.int .i64 x2] rfl rfl (cell_two_new _ _ _ _) (by simp [Value.oneCell']) (by omega) (by omega) (by have:=hb2.size;simp;omega) ?_;intro v' w3 hown' hg3 hnil3
     have hv3:w3.heap[Bs]? =some (.cells #[v] 25 (0,0)):=(hg3.block Bs (by simp;omega) (ne_of hv2 (fun cur e=> by first | cases e | exact hne (Obj.cells.inj e).2.1))).trans ((Below.heap_alloc _ _ Bs hBlt).trans hv2)
     obtain ⟨hc3,hf3⟩:=cell_of_box_a hv3
     obtain ⟨g',cap',cur',rfl,hbase',hgb',hr1,hr2,hr3,hr4⟩:∃g' cap' cur',v'= .slice (some ⟨g',0,none⟩) (ss.length + 1) cap'∧w0.heap.size≤g'∧w3.heap[g']? =some (.cells cur' 67 (0,0))∧ss.length + 1≤cap'∧cap'≤maxLen∧cur'.size=cap' * 2∧cur'.toList.take ((ss.length + 1) * 2)=ss.flatMap pairCl ++ [.int .i64 x1,.int .i64 x2]:=by
      rcases hown'.2 with ⟨_,h0⟩ | h'
      ·exact absurd h0 (by omega)
      ·exact h'
     go_frame)
  | gi_round_op_a)
 have hg3':(W2.alloc (.cells #[.int .i64 x1,.int .i64 x2] 67)).grownBy w3 v.ownBlock:=hg3
 have hL3:w3.heap[l]? =some (.loop {apRecP fn sv Bs D .ready none with state:= .busy}):=(hg3'.block l (by simp;omega) (ne_of hL2 (fun cur e=> by first | cases e | exact hne (Obj.cells.inj e).2.1))).trans ((Below.heap_alloc _ _ l hl2).trans hL2)
 have hK3:w3.heap[D]? =some (.deferred (some [])):=(hg3'.block D (by simp;omega) (ne_of hK2 (fun cur e=> by first | cases e | exact hne (Obj.cells.inj e).2.1))).trans ((Below.heap_alloc _ _ D hDlt).trans hK2)
 obtain ⟨w4,hw4⟩:∃w4,w3.setCell ⟨Bs,0,none⟩ (.slice (some ⟨g',0,none⟩) (ss.length + 1) cap')=w4:=⟨_,rfl⟩
 rw [hw4]
 have hg4:w3.grownBy w4 (some Bs):=by rw [←hw4];exact grownBy_setCell0_a _ _ _
 have hv4:w4.heap[Bs]? =some (.cells #[.slice (some ⟨g',0,none⟩) (ss.length + 1) cap'] 25 (0,0)):=by rw [←hw4];exact heap_setCell_box_a _ hv3
 have hL4:w4.heap[l]? =some (.loop {apRecP fn sv Bs D .ready none with state:= .busy}):=(hg4.block l (Array.getElem?_eq_some_iff.1 hL3).1 (fun e=> hBl (by cases e;rfl))).trans hL3
 have hK4:w4.heap[D]? =some (.deferred (some [])):=(hg4.block D (Array.getElem?_eq_some_iff.1 hK3).1 (fun e=> hDB (by cases e;rfl))).trans hK3
 have hrow4:=hown'.kept hg4 (ownsRow_ne_a hown' hv3 (fun cur e=> by first | cases e | exact hne (Obj.cells.inj e).2.1))
 have hl4:l < w4.heap.size:=(Array.getElem?_eq_some_iff.1 hL4).1
 have hb3:Below w0.heap.size w0 w3:=(hb2.alloc hb2.size _).grown hg3' (by have:=hb2.size;simp;omega) (fun k e=> (hrow2.lt k e).1)
 have hb4:Below w0.heap.size w0 w4:=hb3.grown hg4 hb3.size (fun k e=> by cases e;exact h0B)
 have hk4:KeepsWalks W w4:=((hk2.trans (KeepsWalks.alloc _ _)).trans (KeepsWalks.of_grownBy hg3' (ownsRow_not_walk_a (hrow2.alloc _)))).trans (by rw [←hw4];exact KeepsWalks.setCell _ _ _)
 clear hw4
 refine ⟨_,_,run_endRound none hL4,rfl,⟨⟨_,(World.putObj_heap_other hBl).trans hv4,?_,by simp⟩,World.putObj_heap_same hl4,(World.putObj_heap_other hDl).trans hK4,hb4.grown (grownBy_putObj_a _ _ _) hb4.size (fun k e=> by cases e;exact h0l)⟩,hk4.trans (KeepsWalks.putObj _ hL4 rfl)⟩
 have:=hrow4.kept (grownBy_putObj_a w4 l (.loop {{apRecP fn sv Bs D .ready none with state:= .busy} with state:=if (none:Option Code).isNone then .ready else .done,pending:=none})) (ownsRow_ne_a hrow4 hL4 (fun cur e=> by first | cases e | exact hne (Obj.cells.inj e).2.1))
 rw [List.flatMap_append,List.length_append]
 simpa [pairCl] using this
set_option maxRecDepth 100000 in
set_option maxHeartbeats 2000000 in
theorem appendSeqP_in (F:Fence) (n:Nat) (h11:F.fn 120) (hro:F.round=none) (hn:2≤n) (g:Nat) (lb:Array Value) (hFg:F.fn g) (eg:∀args w,(callFunc g args).run Tryz.prog w= .ok (.enter g args) w)
  (S:List Pr→Prop) (N:Nat) (hN:N≤maxLen) (hNb:N * 16≤140737488355328) (w:World) (hseq:SeqGives F (n - 1) Tryz.prog g lb pairV S N w):
  CallsIn F n Tryz.prog 120 #[.slice none 0 0,.func (.func g) #[] lb] w fun e w'=> ∃(v:Value) (ss:List Pr),e= .returned v∧S ss∧w'.ownsRow w.heap.size 67 2 v ss.length (ss.flatMap pairCl)∧(v= .slice none 0 0↔ss= [])∧Below w.heap.size w w':=by
 have h1:1≤n:=by omega
 have hne:25≠67:=by decide
 refine callsIn_of_wp_marks Tryz.func120 rfl h11 ?_ hro
 simp only [Tryz.ntmps120,List.size_toArray,List.length_cons,List.length_nil,Nat.reduceAdd,Nat.reduceSub,Array.replicate_succ,Array.replicate_zero,List.push_toArray,List.append_toArray,List.nil_append,List.cons_append]
 gi_wp2
 refine wpIn_rangeFunc ?_
 intro fn hfn
 rw [hro]
 obtain ⟨W0,hW0⟩:∃W0,w.alloc (.cells #[.slice none 0 0] 25)=W0:=⟨_,rfl⟩
 have hs0:W0.heap.size=w.heap.size + 1:=by rw [←hW0];simp
 have hv0:W0.heap[w.heap.size]? =some (.cells #[.slice none 0 0] 25 (0,0)):=by rw [←hW0];exact World.alloc_heap_new w _
 have hb0:Below w.heap.size w W0:=by rw [←hW0];exact (Below.refl _ w).alloc (Nat.le_refl _) _
 rw [hW0]
 obtain ⟨W1,hW1⟩:∃W1,(W0.alloc (.deferred (some []))).alloc (.loop (apRecP fn (.func (.func g) #[] lb) w.heap.size W0.heap.size .ready none))=W1:=⟨_,rfl⟩
 have hold:∀k,k < W0.heap.size→W1.heap[k]? =W0.heap[k]? :=fun k hk=> by
  rw [←hW1];exact (Below.heap_alloc _ _ k (by simp;omega)).trans (Below.heap_alloc _ _ k hk)
 have hb1:Below w.heap.size w W1:=by rw [←hW1];exact (hb0.alloc hb0.size _).alloc (by have:=hb0.size;simp;omega) _
 have hs1:W1.heap.size=W0.heap.size + 2:=by rw [←hW1];simp
 have hM:ApAtP w fn (.func (.func g) #[] lb) w.heap.size (W0.heap.size + 1) W0.heap.size [] W1:=
  ⟨⟨_,(hold w.heap.size (by omega)).trans hv0,⟨rfl,.inl ⟨rfl,rfl⟩⟩,by simp⟩,
   by rw [←hW1];have:=World.alloc_heap_new (W0.alloc (.deferred (some []))) (.loop (apRecP fn (.func (.func g) #[] lb) w.heap.size W0.heap.size .ready none));rwa [World.size_alloc] at this,
   by rw [←hW1];exact (Below.heap_alloc _ _ _ (by simp)).trans (World.alloc_heap_new W0 _),hb1⟩
 refine ⟨W0.heap.size + 1,[{target:= .collected W0.heap.size,args:= #[]}],W1,{target:= .fn (.func g) lb,args:= #[.func (.yield (W0.heap.size + 1)) #[] #[]]},W1,g,
  #[.func (.yield (W0.heap.size + 1)) #[] #[]] ++ lb,W1,?_,?_,?_,?_,fun _=> h1,?_⟩
 ·rw [←hW1];exact run_enterLoop_outer _ _ _ _ _
 ·simp [resolve,go_sem]
 ·intro f' hf';simp [Target.leads] at hf';subst hf';exact hFg
 ·simp [invoke,go_sem,eg]
 ·refine (hseq (W0.heap.size + 1) (ApAtP w fn (.func (.func g) #[] lb) w.heap.size (W0.heap.size + 1) W0.heap.size) W1 hb1 (ap_abidesP _ _ _ _ _ _ _ hb1.size)
   (fun pre x W hJ hl=> apYieldP F (n - 1 - 1) w fn hfn _ w.heap.size (W0.heap.size + 1) W0.heap.size (by omega) (by omega) (by omega) (Nat.le_refl _) (by omega) N hN hNb pre x W hJ hl) hM).mono ?_
  rintro e W2 ⟨⟨v0,rfl⟩,ss,hS,h2⟩
  obtain ⟨v,hv,hrow,hnil⟩:=h2.box
  have hend:=run_endLoop (P:=Tryz.prog) h2.L (by simp [apRecP])
  obtain ⟨W3,hW3⟩:∃W3,W2.putObj (W0.heap.size + 1) (.loop {apRecP fn (.func (.func g) #[] lb) w.heap.size W0.heap.size .ready none with state:= .exhausted})=W3:=⟨_,rfl⟩
  rw [hW3] at hend
  have hg3:W2.grownBy W3 (some (W0.heap.size + 1)):=by rw [←hW3];exact grownBy_putObj_a _ _ _
  have hv3:W3.heap[w.heap.size]? =some (.cells #[v] 25 (0,0)):=by rw [←hW3];exact (World.putObj_heap_other (by omega)).trans hv
  have hK3:W3.heap[W0.heap.size]? =some (.deferred (some [])):=by rw [←hW3];exact (World.putObj_heap_other (by omega)).trans h2.K
  have hrow3:=hrow.kept hg3 (ownsRow_ne_a hrow h2.L (fun cur e=> by first | cases e | exact hne (Obj.cells.inj e).2.1))
  have hb3:Below w.heap.size w W3:=h2.below.grown hg3 h2.below.size (fun k e=> by cases e;omega)
  obtain ⟨hc3,hf3⟩:=cell_of_box_a hv3
  clear hW3
  refine ⟨none,W3,hend,?_⟩
  gi_wp2
  rw [←hs0]
  refine ⟨by simp,.inl ⟨_,_,rfl,run_takeDeferred hK3,?_⟩⟩
  exact ⟨_,results_tmp rfl _ _ _,v,ss,rfl,hS,hrow3.kept (grownBy_putObj_a _ _ _) (ownsRow_ne_a hrow3 hK3 (fun cur e=> by first | cases e | exact hne (Obj.cells.inj e).2.1)),hnil,hb3.grown (grownBy_putObj_a _ _ _) hb3.size (fun k e=> by cases e;omega)⟩
set_option maxHeartbeats 1000000 in
theorem collectP_in (F:Fence) (n:Nat) (h8:F.fn 76) (h11:F.fn 120) (hro:F.round=none) (hn:3≤n) (g:Nat) (lb:Array Value) (hFg:F.fn g) (eg:∀args w,(callFunc g args).run Tryz.prog w= .ok (.enter g args) w)
  (S:List Pr→Prop) (N:Nat) (hN:N≤maxLen) (hNb:N * 16≤140737488355328) (w:World) (hseq:SeqGives F (n - 1 - 1) Tryz.prog g lb pairV S N w):
  CallsIn F n Tryz.prog 76 #[.func (.func g) #[] lb] w fun e w'=> ∃(v:Value) (ss:List Pr),e= .returned v∧S ss∧w'.ownsRow w.heap.size 67 2 v ss.length (ss.flatMap pairCl)∧(v= .slice none 0 0↔ss= [])∧Below w.heap.size w w':=by
 have h1:1≤n:=by omega
 refine callsIn_of_wp Tryz.func76 rfl h8 ?_ hro
 simp only [Tryz.ntmps76,List.size_toArray,List.length_cons,List.length_nil,Nat.reduceAdd,Nat.reduceSub,Array.replicate_succ,Array.replicate_zero,List.push_toArray,List.append_toArray,List.nil_append,List.cons_append]
 gi_wp2_with (gi_at_call 120;refine (appendSeqP_in F (n - 1) h11 hro (by omega) g lb hFg eg S N hN hNb _ hseq).mono ?_;rintro e w' ⟨v,ss,rfl,hS,hrow,hnil,hb⟩)
 go_ret
 exact ⟨v,ss,rfl,hS,hrow,hnil,hb⟩
end Go.Proofs.YtiklglcjecopcaaGreatDoor
namespace Go.Proofs.YtiklglcjecopcaaGreatDoor
open Go.RowKit Go.Maps Go.Sort Go.Shelf Go.WideElems Go.WideShapes
def KeysAre (ents:Array MapEntry) (l:List Pr):Prop:=ents.toList.map (fun e=> e.key)=l.map pairV
theorem ownsRow_at {w:World} {base n:Nat} {v:Value} {ss:List Pr} (h:w.ownsRow base 67 2 v ss.length (ss.flatMap pairCl)) (S:Nat→Prop) (hn:n=ss.length):
  ∃b,OwnAt S w 2 (ss.map fun x=> [.v (.int .i64 x.1),.v (.int .i64 x.2)]) v b∧∀c,b=some c→base≤c∧c < w.heap.size:=by
 obtain ⟨hlen,hcase⟩:=h
 have h1:∀e∈(ss.map fun x=> ([.v (.int .i64 x.1),.v (.int .i64 x.2)]:List D)),e.length=2:=fun e he=> by
  obtain ⟨x,_,rfl⟩:=List.mem_map.1 he
  rfl
 rcases hcase with ⟨rfl,hz⟩ | ⟨g,cap,cur,rfl,hge,hg,hnc,hcm,hcs,ht⟩
 ·have:ss= []:=List.eq_nil_of_length_eq_zero hz
  subst this
  exact ⟨none,⟨h1,Or.inl ⟨rfl,rfl,none,rfl⟩⟩,fun c hc=> by cases hc⟩
 ·refine ⟨some g,⟨h1,Or.inr ⟨g,_,cur,cap,rfl,by rw [List.length_map],hg,by rw [List.length_map];exact hnc,hcm,hcs,fun i j e x he hx=> ?_⟩⟩,fun c hc=> by injection hc with hc;subst hc;exact ⟨hge,lt_of_block hg⟩⟩
  rw [List.getElem?_map] at he
  cases hq:ss[i]? with
  | none=> rw [hq] at he;cases he
  | some y=>
   rw [hq] at he
   injection he with he
   subst he
   have hi:=(List.getElem?_eq_some_iff.1 hq).1
   have hj:j < 2:=by
    have:=(List.getElem?_eq_some_iff.1 hx).1
    simpa using this
   have hy:ss[i]=y:=(List.getElem?_eq_some_iff.1 hq).2
   have hf:=flat_get pairCl 2 (fun _=> rfl) ss i j hi hj
   rw [←ht,List.getElem?_take_of_lt (by omega),hy] at hf
   match j,hj with
   | 0,_=>
    injection hx with hx
    subst hx
    exact ⟨.int .i64 y.1,by simpa [pairCl] using hf,.v _ rfl⟩
   | 1,_=>
    injection hx with hx
    subst hx
    exact ⟨.int .i64 y.2,by simpa [pairCl] using hf,.v _ rfl⟩
theorem collect_keys (l:List Pr) (hl:l.length≤1000000) (hr:∀x∈l,inR x) (w:World) (bb mb:Nat) (ents:Array MapEntry) (clock:Nat) (hbb:bb < w.heap.size) (hcell:w.cell? ⟨bb,0,none⟩=some (.map (some mb)))
  (hmb:w.heap[mb]? =some (.map ents clock)) (hst:MapKept.Stamped ents clock) (hk:KeysAre ents l):
  Calls Tryz.prog 76 #[.func (.func 78) #[] #[.pointer (some ⟨bb,0,none⟩)]] w fun e w'=> ∃(v:Value) (ss:List Pr) (b:Option Nat),e= .returned v∧ss.Perm l∧Below w.heap.size w w'∧OwnAt (fun _=> False) w' 2 (ss.map fun x=> [.v (.int .i64 x.1),.v (.int .i64 x.2)]) v b∧∀c,b=some c→w.heap.size≤c∧c < w'.heap.size:=by
 let R:Value→Option (DataW Unit×List MemPlace):=fun _=> some (.lit (.bool true),[])
 have hsz:ents.size=l.length:=by
  have:=congrArg List.length hk
  simpa using this
 have hkey:∀(j:Nat) (e:MapEntry),ents[j]? =some e→∃x,l[j]? =some x∧e.key=pairV x:=by
  intro j e he
  have h1:(ents.toList.map (fun e=> e.key))[j]? =some e.key:=by
   rw [List.getElem?_map,Array.getElem?_toList,he]
   rfl
  rw [hk,List.getElem?_map] at h1
  cases hq:l[j]? with
  | none=> rw [hq] at h1;cases h1
  | some x=>
   rw [hq] at h1
   injection h1 with h1
   exact ⟨x,rfl,h1.symm⟩
 have hrd:∀(j:Nat) (e:MapEntry),ents[j]? =some e→∃x,l[j]? =some x∧rd Tryz.prog 67 R e=some (klit x,.lit (.bool true)):=by
  intro j e he
  obtain ⟨x,hx,hex⟩:=hkey j e he
  have h1:keyOf Tryz.prog 67 e.key=some (klit x):=by rw [hex];exact key_pair67 (hr x (List.mem_of_getElem? hx))
  exact ⟨x,hx,rd_mk (R:=R) (val:=e.val) (born:=e.born) h1 rfl⟩
 have hF:Fit Tryz.prog 67 R ents clock:=⟨by rw [hsz];simp only [maxLen];omega,hst,fun x hx=> by
  obtain ⟨j,hj⟩:=List.getElem?_of_mem hx
  obtain ⟨k,_,h2⟩:=hrd j x (by simpa using hj)
  exact ⟨_,h2⟩⟩
 let D0:DataW Unit:= .map ((ents.toList.map (rg Tryz.prog 67 R)).foldr DataW.insert [])
 have hown:w.ownsMap Tryz.prog 67 R mb ents.size D0:=⟨ents,clock,hmb,hF,Nat.le_refl _,rfl⟩
 have hfold:∀q:List (Lit×DataW Unit),(q.foldr DataW.insert []).Perm q:=fun q=> by
  induction q with
  | nil=> exact .nil
  | cons x q ih=> exact (insert_perm x _).trans (ih.cons x)
 have hperm:=hfold (ents.toList.map (rg Tryz.prog 67 R))
 have hsize:Maps.size D0=l.length:=by
  show ((ents.toList.map (rg Tryz.prog 67 R)).foldr DataW.insert []).length=_
  rw [hperm.length_eq,List.length_map,Array.length_toList,hsz]
 have hkeys:((ents.toList.map (rg Tryz.prog 67 R)).map fun p=> p.1)=l.map klit:=by
  apply List.ext_getElem?
  intro j
  rw [List.map_map,List.getElem?_map,List.getElem?_map]
  cases he:ents.toList[j]? with
  | none=>
   have:ents.size≤j:=by simpa using he
   rw [List.getElem?_eq_none (by omega)]
   rfl
  | some e=>
   obtain ⟨x,hx,h2⟩:=hrd j e (by simpa using he)
   rw [hx]
   simp only [Option.map_some,Function.comp,rg_of h2]
 have hhas:∀x,inR x→(has D0 (klit x)=true↔x∈l):=by
  intro x hx
  show has (.map _) (klit x)=true↔_
  rw [has_eq,List.any_eq_true]
  constructor
  ·rintro ⟨p,hp,hs⟩
   have hp':p.1∈l.map klit:=by rw [←hkeys];exact List.mem_map_of_mem (hperm.mem_iff.1 hp)
   obtain ⟨y,hy,hyp⟩:=List.mem_map.1 hp'
   rw [←hyp,same_klit] at hs
   rw [←klit_inj (hr y hy) hx hs]
   exact hy
  ·intro hm
   have:klit x∈(ents.toList.map (rg Tryz.prog 67 R)).map fun p=> p.1:=by rw [hkeys];exact List.mem_map_of_mem hm
   obtain ⟨p,hp,hpx⟩:=List.mem_map.1 this
   exact ⟨p,hperm.mem_iff.2 hp,by rw [hpx];exact (same_klit x x).2 rfl⟩
 have hnd:l.Nodup:=by
  have h1:(l.map pairV).Nodup:=by
   rw [←hk]
   exact hst.2.2
  exact (List.pairwise_map.1 h1).imp fun h e=> h (by rw [e])
 have hseq:SeqGives Fence.wide 3 Tryz.prog 78 #[.pointer (some ⟨bb,0,none⟩)] pairV (CollP D0 fun _=> false) (Maps.size D0) w:=
  keysP_gives Fence.wide _ trivial rfl (by omega) bb mb ents.size D0 w hbb hcell hown
 have cS:=collectP_in Fence.wide 5 trivial trivial rfl (by omega) 78 #[.pointer (some ⟨bb,0,none⟩)] trivial (fun args w=> Tryz.call78 args w) _ (Maps.size D0) (by rw [hsize];simp only [maxLen];omega) (by rw [hsize];omega) w hseq
 refine ((callsIn_wide (n:=5)).1 cS).mono ?_
 rintro e w' ⟨v,ss,rfl,hS,hrow,hnil,hb⟩
 have hp:ss.Perm l:=(List.perm_ext_iff_of_nodup hS.nodup hnd).2 fun x=> by
  constructor
  ·intro hx
   have hi:=hS.rng x hx
   exact (hhas x hi).1 ((hS.mem x hi).1 hx).1
  ·intro hx
   have hi:=hr x hx
   exact (hS.mem x hi).2 ⟨(hhas x hi).2 hx,rfl⟩
 obtain ⟨b,hb1,hb2⟩:=ownsRow_at hrow (fun _=> False) rfl
 exact ⟨v,ss,b,rfl,hp,hb,hb1,hb2⟩
end Go.Proofs.YtiklglcjecopcaaGreatDoor
namespace Go.Proofs.YtiklglcjecopcaaGreatDoor
open Go.Shelf Go.RowKit Go.Lib Go.Sort
structure SortOk {A:Type} (c:A→A→Option Int) (l:List A) (cf:A→A→Int):Prop where
 total:∀x y,c x y=some (cf x y)
 swo:SWO (ltOf cf)
 anti:∀x∈l,∀y∈l,ltOf cf x y=false→ltOf cf y x=false→x=y
 size:l.length < 4611686018427387904
open Classical in
noncomputable def sortF {A:Type} (c:A→A→Option Int) (l:List A):Option (List A):=if h:∃cf,SortOk c l cf then some (l.mergeSort fun x y=> !(ltOf h.choose y x)) else none
theorem sortF_eq {A:Type} {c:A→A→Option Int} {l:List A} {cf:A→A→Int} (h:SortOk c l cf):sortF c l=some (l.mergeSort fun x y=> !(ltOf cf y x)):=by
 have hx:∃cf,SortOk c l cf:=⟨cf,h⟩
 unfold sortF
 rw [dif_pos hx]
 have:hx.choose=cf:=by
  funext x y
  have h1:=hx.choose_spec.total x y
  rw [h.total x y] at h1
  injection h1 with h1
  exact h1.symm
 rw [this]
theorem sortF_inv {A:Type} {c:A→A→Option Int} {l r:List A} (h:sortF c l=some r):∃cf,SortOk c l cf∧r=l.mergeSort fun x y=> !(ltOf cf y x):=by
 unfold sortF at h
 split at h
 ·rename_i hx
  injection h with h
  exact ⟨_,hx.choose_spec,h.symm⟩
 ·cases h
theorem below_grow {w w':World} (h:BelowD True w.heap.size w w'):∃q os,w'=grow (w.drewN q) os:=by
 refine ⟨w'.drawn - w.drawn,w'.heap.extract w.heap.size w'.heap.size,?_⟩
 have hh:w'.heap=w.heap ++ w'.heap.extract w.heap.size w'.heap.size:=by
  apply Array.ext_getElem?
  intro k
  rw [Array.getElem?_append]
  split
  ·rename_i hk
   exact h.block k hk
  ·rename_i hk
   rw [Array.getElem?_extract]
   split
   ·rename_i h2
    congr 1
    omega
   ·rename_i h2
    rw [Array.getElem?_eq_none]
    simp at h2
    omega
 have hd:w.drawn + (w'.drawn - w.drawn)=w'.drawn:=by have:=h.drawn trivial;omega
 have h1:=h.os
 have h2:=h.tape
 have h3:=h.output
 unfold grow World.drewN
 cases w
 cases w'
 simp only at hh hd h1 h2 h3 ⊢
 subst h1 h2 h3
 rw [hd,←hh]
section
variable {dr : Prop} {P : Program} {f g : FuncId} {sz : Nat} {A : Type}
def Cell (enc:A→List D) (S:Nat→Prop) (w:World) (sz:Nat) (p:A×List Value):Prop:=p.2.length=sz∧∀(j:Nat) (d:D) (v:Value),(enc p.1)[j]? =some d→p.2[j]? =some v→RelD S w d v
theorem sort_world_heap {α:Type} [Inhabited α] (enc:α→List Value) (k:Nat) (w:World) (blk off n:Nat) (d:Array α) (os:Array Obj) (hb:blk < w.heap.size):
  (sortWorldK enc k w blk off n d os).os=w.os∧(sortWorldK enc k w blk off n d os).tape=w.tape∧(sortWorldK enc k w blk off n d os).output=w.output∧(sortWorldK enc k w blk off n d os).drawn=w.drawn + n∧w.heap.size≤(sortWorldK enc k w blk off n d os).heap.size∧
  (∀j,j < w.heap.size→j≠blk→(sortWorldK enc k w blk off n d os).heap[j]? =w.heap[j]?)∧∀c e fr,w.heap[blk]? =some (.cells c e fr)→(sortWorldK enc k w blk off n d os).heap[blk]? =some (.cells (Go.Sort.putCells id off (flatK enc k d) c) e fr):=by
 refine ⟨rfl,rfl,rfl,rfl,?_,fun j hj hne=> ?_,fun c e fr hc=> ?_⟩
 ·show _≤((w.heap.modify blk _) ++ os).size
  simp
 ·show ((w.heap.modify blk _) ++ os)[j]? =_
  rw [Array.getElem?_append,if_pos (by simpa using hj),Array.getElem?_modify,if_neg (fun e=> hne e.symm)]
 ·show ((w.heap.modify blk _) ++ os)[blk]? =_
  rw [Array.getElem?_append,if_pos (by simpa using hb),Array.getElem?_modify,if_pos rfl,hc]
  rfl
theorem cell_of_heap {w:World} {b:Nat} {c:Array Value} {T:TypeId} (h:w.heap[b]? =some (.cells c T (0,0))) (j:Nat) (hj:j < c.size):w.cell? ⟨b,j,none⟩=some (c.getD j undef)∧w.frozen? ⟨b,j,none⟩=false:=by
 refine ⟨?_,?_⟩
 ·rw [cell_of_row _ _ _ c T (0,0) h]
  simp [Array.getD,hj]
 ·unfold World.frozen?
  simp [h]
theorem sortF_fnw (enc:A→List D) (hz:∀x,(enc x).length=sz) (hz0:0 < sz) {c:A→A→Option Int} {gc:List AV}
  (he:∀(args:Array Value) (w:World),(callFunc f args).run P w= .ok (.enter f args) w)
  (hs:∀(α:Type) (_:Inhabited α) (enc:α→List Value) (_:∀x,(enc x).length=sz) (_:∀x,∀v∈enc x,v.oneCell'=true) (cf:α→α→Int) (_:SWO (ltOf cf)) (g:Nat) (cb:Array Value) (blk off cap:Nat) (d:Array α) (w:World)
   (_:∀args w,(callFunc g args).run P w= .ok (.enter g args) w) (_:CmpLays P g cb enc sz cf blk off d.size w) (_:HoldsK enc sz w blk off d) (_:blk < w.heap.size) (_:d.size < 4611686018427387904),
   Calls P f #[.slice (some ⟨blk,off,none⟩) d.size cap,.func (.func g) #[] cb] w fun e w'=> e= .returned (.tuple #[])∧∃d' n os,PermIn 0 d.size d d'∧SortedIn (ltOf cf) 0 d.size d'∧w'=sortWorldK enc sz w blk off n d' os)
  (hn:∀(p:Option Addr) (cap:Nat) (fv:Value) (w:World),Calls P f #[.slice p 0 cap,fv] w fun e w'=> e= .returned (.tuple #[])∧w'=w)
  (_hgc:gc.all capd=true) (hP:∀x y z,c x y=some z→Fn True P g ([.agg ((enc x).map .d),.agg ((enc y).map .d)] ++ gc) (.d (.v (.int .i64 z))))
  {l r:List A} (h:sortF c l=some r):FnW dr P f sz (l.map enc) [.fn g gc] (.ow sz (r.map enc)):=by
 obtain ⟨cf,hok,rfl⟩:=sortF_inv h
 refine ⟨he,?_⟩
 intro w U S sl b vals hI hnT hU hSU hown hb hrel
 obtain ⟨fv,vs',hvs,hfv,hnil⟩:=hrel.cons_inv
 have:=hnil.nil_inv
 subst this
 have hvals:vals= #[fv]:=by apply Array.ext';simpa using hvs
 subst hvals
 obtain ⟨cb,rfl,hcb⟩:∃cb:Array Value,fv= .func (.func g) #[] cb∧RelL (cx0 U w) gc cb.toList:=by
  cases hfv with
  | @fn _ _ vs hl hh=> exact ⟨vs,rfl,by simpa using hl,fun j c v hc hv=> hh j c v hc (by simpa using hv)⟩
 by_cases hl:l= []
 ·subst hl
  have hown':=hown
  obtain ⟨h1,h2⟩:=hown'
  obtain ⟨p,cap,rfl⟩:∃p cap,sl= .slice p 0 cap:=by
   rcases h2 with ⟨_,_,A',rfl⟩ | ⟨_,_,_,cap,_,rfl,_⟩
   ·exact ⟨A',0,rfl⟩
   ·exact ⟨_,cap,rfl⟩
  refine (hn p cap _ w).mono ?_
  rintro e w' ⟨rfl,rfl⟩
  refine ⟨_,rfl,⟨rfl,rfl,rfl,Nat.le_refl _,fun _ _ _=> rfl,fun _=> Nat.le_refl _⟩,rfl,S,fun c hc=> ⟨hU c (hSU c hc),Or.inl hc⟩,by simpa using hown,fun c hc hS=> (hb c hc).2 (hSU c hS)⟩
 ·obtain ⟨h1,h2⟩:=hown
  rcases h2 with ⟨_,h2,_⟩ | ⟨blk,T,cur,cap,rfl,rfl,hh,hle,hm,hcs,hra⟩
  ·simp [hl] at h2
  obtain ⟨hblk,hnU⟩:=hb blk rfl
  let α:={p:A×List Value // Cell enc S w sz p}
  let cell:Nat→Nat→Value:=fun i j=> cur.getD (i * sz + j) undef
  have hcell:∀(i:Nat) (x:A),l[i]? =some x→Cell enc S w sz (x,(List.range sz).map (cell i)):=by
   intro i x hx
   refine ⟨by simp,fun j d v hd hv=> ?_⟩
   have hes:(l.map enc)[i]? =some (enc x):=by rw [List.getElem?_map,hx];rfl
   obtain ⟨u,hu,hr⟩:=hra i j (enc x) d hes hd
   rw [List.getElem?_map] at hv
   have hj:j < sz:=by
    have:=(List.getElem?_eq_some_iff.1 hd).1
    rw [hz] at this
    exact this
   rw [List.getElem?_range hj] at hv
   simp at hv
   subst hv
   have:cell i j=u:=by
    show cur.getD (i * sz + j) undef=u
    simp only [Array.getD_eq_getD_getElem?,hu,Option.getD_some]
   rw [this]
   exact hr
  have hpos:0 < l.length:=List.length_pos_iff.2 hl
  have inh:Inhabited α:=⟨⟨(l[0],(List.range sz).map (cell 0)),hcell 0 _ (List.getElem?_eq_getElem hpos)⟩⟩
  let encα:α→List Value:=fun p=> p.1.2
  let cfα:α→α→Int:=fun p q=> cf p.1.1 q.1.1
  obtain ⟨d,hds,hdg⟩:∃d:Array α,d.size=l.length∧∀i (hi:i < l.length),d[i]! =⟨(l[i],(List.range sz).map (cell i)),hcell i _ (List.getElem?_eq_getElem hi)⟩:=by
   refine ⟨Array.ofFn fun i:Fin l.length=> ⟨(l[i],(List.range sz).map (cell i)),hcell i _ (List.getElem?_eq_getElem i.2)⟩,by simp,fun i hi=> ?_⟩
   rw [getElem!_pos _ i (by simpa using hi)]
   simp
  have hk:∀x,(encα x).length=sz:=fun x=> x.2.1
  have h1c:∀x,∀v∈encα x,v.oneCell'=true:=by
   intro x v hv
   obtain ⟨j,hj,rfl⟩:=List.mem_iff_getElem.1 hv
   have hj':j < sz:=by rw [←hk x];exact hj
   have hd:(enc x.1.1)[j]? =some ((enc x.1.1)[j]'(by rw [hz];exact hj')):=List.getElem?_eq_getElem _
   exact (x.2.2 j _ _ hd (List.getElem?_eq_getElem hj)).one
  have hO:SWO (ltOf cfα):=⟨fun x=> hok.swo.irrefl _,fun x y z=> hok.swo.trans _ _ _,fun x y z=> hok.swo.ntrans _ _ _⟩
  have eg:∀args w,(callFunc g args).run P w= .ok (.enter g args) w:=(hP l[0] l[0] _ (hok.total _ _)).1
  have hH:HoldsK encα sz w blk 0 d:=by
   intro t ht
   rw [size_flatK,hds] at ht
   rw [get_flatK _ _ _ _ (by rw [hds];exact ht)]
   have hti:t / sz < l.length:=by
    rw [Nat.div_lt_iff_lt_mul hz0]
    exact ht
   rw [hdg _ hti]
   have hmod:t % sz < sz:=Nat.mod_lt _ hz0
   have hval:((List.range sz).map (cell (t / sz)))[t % sz]! =cur.getD t undef:=by
    rw [getElem!_pos _ _ (by simpa using hmod)]
    simp only [List.getElem_map,List.getElem_range,cell]
    rw [Nat.mul_comm,Nat.div_add_mod]
   show w.cell? ⟨blk,0 + t,none⟩=some (((List.range sz).map (cell (t / sz)))[t % sz]!)∧_
   rw [hval,Nat.zero_add]
   refine cell_of_heap hh t ?_
   rw [hcs]
   simp only [List.length_map] at hle
   exact Nat.lt_of_lt_of_le ht (Nat.mul_le_mul_right _ hle)
  have hcmp:CmpLays P g cb encα sz cfα blk 0 d.size w:=by
   intro m os dk hdk x y
   obtain ⟨q1,q2,q3,q4,q5,q6,q7⟩:=sort_world_heap encα sz w blk 0 m dk os hblk
   generalize sortWorldK encα sz w blk 0 m dk os=W at q1 q2 q3 q4 q5 q6 q7
   have hle:(cx0 U w).Le (cx0 U W):=⟨fun _=> Nat.le_refl _,fun _ _ _=> rfl,fun _ h=> h,fun c hc=> q6 c (hU c hc) fun e=> hnU (e ▸ hc)⟩
   have item:∀p:α,Rel (cx0 U W) (.agg ((enc p.1.1).map .d)) (.agg (encα p).toArray):=by
    intro p
    refine .agg (by simp [hz];exact p.2.1) fun j c v hc hv=> ?_
    rw [List.getElem?_map] at hc
    cases hq:(enc p.1.1)[j]? with
    | none=> rw [hq] at hc;simp at hc
    | some dd=>
     rw [hq] at hc
     simp at hc
     subst hc
     exact .d ((p.2.2 j dd v hq (by simpa using hv)).mono hSU fun c hc=> q6 c (hU c (hSU c hc)) fun e=> hnU (e ▸ hSU c hc))
   refine ((hP x.1.1 y.1.1 _ (hok.total _ _)).2 W U _ (hI.keep fun k hk=> q6 k (hI.lt hk) fun e=> hnT blk rfl (e ▸ hk)) (fun c hc=> Nat.lt_of_lt_of_le (hU c hc) q5) ?_).mono ?_
   ·have:(#[Value.agg (encα x).toArray,.agg (encα y).toArray] ++ cb).toList= [Value.agg (encα x).toArray,.agg (encα y).toArray] ++ cb.toList:=by simp
    rw [this]
    exact RelL.append (.cons (item x) (.cons (item y) (.nil _))) (hcb.mono hle)
   ·rintro e w' ⟨v,S',bs,rfl,hbel,_,hres,_⟩
    obtain ⟨b,_,hres,_⟩:=hres
    refine ⟨?_,below_grow hbel⟩
    cases hres with
    | v _ _=> rfl
  have hcall:=hs α inh encα hk h1c cfα hO g cb blk 0 cap d w eg hcmp hH hblk (by rw [hds];exact hok.size)
  rw [List.length_map] at hle ⊢
  have e2:(#[Value.slice (some ⟨blk,0,none⟩) l.length cap] ++ #[.func (.func g) #[] cb])= #[.slice (some ⟨blk,0,none⟩) d.size cap,.func (.func g) #[] cb]:=by rw [hds];rfl
  rw [e2]
  refine hcall.mono ?_
  rintro e w' ⟨rfl,d',n,os,hperm,hsort,rfl⟩
  obtain ⟨q1,q2,q3,q4,q5,q6,q7⟩:=sort_world_heap encα sz w blk 0 n d' os hblk
  have hd's:d'.size=l.length:=hperm.1.trans hds
  have hcur:=q7 cur T (0,0) hh
  have hlist:(d'.toList.map fun p=> p.1.1)=l.mergeSort fun x y=> !(ltOf cf y x):=by
   have hp1:d'.toList.Perm d.toList:=by
    have:=hperm.2.2
    have e1:d'.extract 0 d.size=d':=by rw [←hperm.1];exact Array.extract_size
    rw [e1,Array.extract_size] at this
    exact this
   have hdl:d.toList.map (fun p=> p.1.1)=l:=by
    apply List.ext_getElem?
    intro i
    rw [List.getElem?_map]
    by_cases hi:i < l.length
    ·rw [List.getElem?_eq_getElem hi,List.getElem?_eq_getElem (by simpa using (by rw [hds];exact hi))]
     have:=hdg i hi
     rw [getElem!_pos d i (by rw [hds];exact hi)] at this
     simp [this]
    ·have n1:d.toList[i]? =none:=List.getElem?_eq_none (by rw [Array.length_toList,hds];omega)
     have n2:l[i]? =none:=List.getElem?_eq_none (by omega)
     rw [n1,n2]
     rfl
   have hp2:=hp1.map fun p=> p.1.1
   rw [hdl] at hp2
   refine List.Perm.eq_of_pairwise (le:=fun x y=> (!ltOf cf y x)=true) ?_ ?_ ?_ (hp2.trans (List.mergeSort_perm _ _).symm)
   ·intro a b ha hb' h1 h2
    simp only [Bool.not_eq_true'] at h1 h2
    exact hok.anti a (hp2.mem_iff.1 ha) b ((List.mergeSort_perm _ _).mem_iff.1 hb') h2 h1
   ·rw [List.pairwise_map,List.pairwise_iff_getElem]
    intro i j hi hj hij
    have:=hsort i j (Nat.zero_le _) hij (by rw [hds,←hd's];simpa using hj)
    rw [getElem!_pos d' j (by simpa using hj),getElem!_pos d' i (by simpa using hi)] at this
    simp only [Bool.not_eq_true',Array.getElem_toList]
    exact this
   ·refine List.pairwise_mergeSort (le:=fun x y=> !ltOf cf y x) ?_ ?_ l
    ·intro a b c h1 h2
     simp only [Bool.not_eq_true'] at h1 h2 ⊢
     exact hok.swo.ntrans _ _ _ h2 h1
    ·intro a b
     cases h1:ltOf cf b a
     ·simp
     ·cases h2:ltOf cf a b
      ·simp
      ·have:=hok.swo.trans _ _ _ h1 h2
       rw [hok.swo.irrefl] at this
       cases this
  refine ⟨_,rfl,⟨q1,q2,q3,q5,fun k hk hne=> q6 k hk fun e=> hne (by rw [e]),by rw [q4];omega⟩,rfl,S,fun c hc=> ⟨Nat.lt_of_lt_of_le (hU c (hSU c hc)) q5,Or.inl hc⟩,?_,fun c hc hS=> by injection hc with hc;subst hc;exact hnU (hSU _ hS)⟩
  refine ⟨fun e he=> by obtain ⟨x,_,rfl⟩:=List.mem_map.1 he;exact hz x,Or.inr ⟨blk,T,_,cap,rfl,by simp,hcur,by simpa using hle,hm,by simp [Go.Sort.putCells,hcs],fun i j e x hei hxj=> ?_⟩⟩
  rw [←hlist,List.getElem?_map,List.getElem?_map] at hei
  cases hq:d'.toList[i]? with
  | none=> rw [hq] at hei;simp at hei
  | some p=>
   rw [hq] at hei
   simp only [Option.map_some,Option.some.injEq] at hei
   subst hei
   have hi:i < l.length:=by
    have:=(List.getElem?_eq_some_iff.1 hq).1
    rw [←hd's]
    simpa using this
   have hj:j < sz:=by
    have:=(List.getElem?_eq_some_iff.1 hxj).1
    rw [hz] at this
    exact this
   have hlt:i * sz + j < l.length * sz:=by
    have:=Nat.mul_le_mul_right sz (show i + 1≤l.length from hi)
    rw [Nat.add_mul,Nat.one_mul] at this
    omega
   have hlt2:i * sz + j < cur.size:=by
    rw [hcs]
    exact Nat.lt_of_lt_of_le hlt (Nat.mul_le_mul_right _ hle)
   have hv:(encα p)[j]? =some ((encα p)[j]'(by rw [hk];exact hj)):=List.getElem?_eq_getElem _
   refine ⟨(encα p)[j]'(by rw [hk];exact hj),?_,?_⟩
   ·unfold Go.Sort.putCells
    rw [Array.getElem?_mapIdx,Array.getElem?_eq_getElem hlt2]
    simp only [Option.map_some,Nat.zero_le,true_and,Nat.zero_add,size_flatK,hd's,hlt,if_true,Nat.sub_zero,id]
    rw [get_flatK _ _ _ _ (by rw [hd's];exact hlt)]
    have e1:(i * sz + j) / sz=i:=by
     rw [Nat.mul_comm,Nat.mul_add_div hz0,Nat.div_eq_of_lt hj,Nat.add_zero]
    have e2:(i * sz + j) % sz=j:=by
     rw [Nat.mul_comm,Nat.mul_add_mod,Nat.mod_eq_of_lt hj]
    rw [e1,e2]
    have:d'[i]! =p:=by
     have hi2:i < d'.size:=by rw [hd's];exact hi
     rw [getElem!_pos d' i hi2]
     have:=hq
     rw [Array.getElem?_toList,Array.getElem?_eq_getElem hi2] at this
     injection this
    rw [this,getElem!_pos _ _ (by rw [hk];exact hj)]
   ·exact (p.2.2 j x _ hxj hv).mono (fun _ h=> h) fun c hc=> q6 c (hU c (hSU c hc)) fun e=> hnU (e ▸ hSU c hc)
end
end Go.Proofs.YtiklglcjecopcaaGreatDoor
namespace Go.Proofs
open Go.Shelf
def Tryz.sort77_ren:Go.Shelf.Ren:=⟨fun | 6=> 77 | 15=> 122 | 14=> 121 | 28=> 204 | 29=> 205 | 20=> 196 | 21=> 197 | 22=> 198 | 23=> 199 | 24=> 200 | 25=> 201 | 26=> 202 | 27=> 203 | 46=> 307 | 47=> 308 | 48=> 309 | 49=> 310 | 50=> 311 | 57=> 398 | n=> n,fun | 22=> 25 | 24=> 67 | 25=> 104 | 3=> 3 | 39=> 207 | 0=> 0 | 53=> 293 | 55=> 295 | 4=> 4 | 46=> 287 | 45=> 286 | 50=> 89 | 5=> 5 | 9=> 9 | 66=> 386 | 70=> 390 | 76=> 469 | 77=> 470 | n=> n,fun | n=> n⟩
theorem Tryz.sort77:Go.Proofs.SlLaysF0.n6 Tryz.prog Tryz.sort77_ren:={
 mixed:=by kernel_rfl
 f6:=⟨Tryz.f77.name,by decide,Tryz.func77.trans (congrArg some (by kernel_rfl))⟩
 f14:=⟨Tryz.f121.name,by decide,Tryz.func121.trans (congrArg some (by kernel_rfl))⟩
 f15:=Tryz.func122.trans (congrArg some (by kernel_rfl))
 f20:=⟨Tryz.f196.name,by decide,Tryz.func196.trans (congrArg some (by kernel_rfl))⟩
 f21:=⟨Tryz.f197.name,by decide,Tryz.func197.trans (congrArg some (by kernel_rfl))⟩
 f22:=⟨Tryz.f198.name,by decide,Tryz.func198.trans (congrArg some (by kernel_rfl))⟩
 f23:=⟨Tryz.f199.name,by decide,Tryz.func199.trans (congrArg some (by kernel_rfl))⟩
 f24:=⟨Tryz.f200.name,by decide,Tryz.func200.trans (congrArg some (by kernel_rfl))⟩
 f25:=⟨Tryz.f201.name,by decide,Tryz.func201.trans (congrArg some (by kernel_rfl))⟩
 f26:=⟨Tryz.f202.name,by decide,Tryz.func202.trans (congrArg some (by kernel_rfl))⟩
 f27:=⟨Tryz.f203.name,by decide,Tryz.func203.trans (congrArg some (by kernel_rfl))⟩
 f28:=Tryz.func204.trans (congrArg some (by kernel_rfl))
 f29:=Tryz.func205.trans (congrArg some (by kernel_rfl))
 f46:=⟨Tryz.f307.name,by decide,Tryz.func307.trans (congrArg some (by kernel_rfl))⟩
 f47:=Tryz.func308.trans (congrArg some (by kernel_rfl))
 f48:=Tryz.func309.trans (congrArg some (by kernel_rfl))
 f49:=⟨Tryz.f310.name,by decide,Tryz.func310.trans (congrArg some (by kernel_rfl))⟩
 f50:=⟨Tryz.f311.name,by decide,Tryz.func311.trans (congrArg some (by kernel_rfl))⟩
 f57:=⟨Tryz.f398.name,by decide,Tryz.func398.trans (congrArg some (by kernel_rfl))⟩
 t0:=Tryz.underlying0
 a0:=Tryz.isAgg0
 z0:=Tryz.sizeOf0
 v0:=Tryz.zeroValue0
 t3:=Tryz.underlying3
 a3:=Tryz.isAgg3
 z3:=Tryz.sizeOf3
 v3:=Tryz.zeroValue3
 t4:=Tryz.underlying4
 a4:=Tryz.isAgg4
 z4:=Tryz.sizeOf4
 v4:=Tryz.zeroValue4
 t5:=Tryz.underlying5
 a5:=Tryz.isAgg5
 z5:=Tryz.sizeOf5
 v5:=Tryz.zeroValue5
 t9:=Tryz.underlying9
 a9:=Tryz.isAgg9
 z9:=Tryz.sizeOf9
 v9:=Tryz.zeroValue9
 t22:=Tryz.underlying25
 a22:=Tryz.isAgg25
 z22:=Tryz.sizeOf25
 v22:=Tryz.zeroValue25
 t25:=Tryz.underlying104
 a25:=Tryz.isAgg104
 z25:=Tryz.sizeOf104
 v25:=Tryz.zeroValue104
 t39:=Tryz.underlying207
 a39:=Tryz.isAgg207
 z39:=Tryz.sizeOf207
 v39:=Tryz.zeroValue207
 t45:=Tryz.underlying286
 a45:=Tryz.isAgg286
 z45:=Tryz.sizeOf286
 v45:=Tryz.zeroValue286
 t46:=Tryz.underlying287
 a46:=Tryz.isAgg287
 z46:=Tryz.sizeOf287
 v46:=Tryz.zeroValue287
 t50:=Tryz.underlying89
 a50:=Tryz.isAgg89
 z50:=Tryz.sizeOf89
 v50:=Tryz.zeroValue89
 t53:=Tryz.underlying293
 a53:=Tryz.isAgg293
 z53:=Tryz.sizeOf293
 v53:=Tryz.zeroValue293
 t55:=Tryz.underlying295
 a55:=Tryz.isAgg295
 z55:=Tryz.sizeOf295
 v55:=Tryz.zeroValue295
 t66:=Tryz.underlying386
 a66:=Tryz.isAgg386
 z66:=Tryz.sizeOf386
 v66:=Tryz.zeroValue386
 t70:=Tryz.underlying390
 a70:=Tryz.isAgg390
 z70:=Tryz.sizeOf390
 v70:=Tryz.zeroValue390
 t76:=Tryz.underlying469
 a76:=Tryz.isAgg469
 z76:=Tryz.sizeOf469
 v76:=Tryz.zeroValue469
 t77:=Tryz.underlying470
 a77:=Tryz.isAgg470
 z77:=Tryz.sizeOf470
 v77:=Tryz.zeroValue470}
end Go.Proofs
namespace Go.Proofs.YtiklglcjecopcaaGreatDoor
open Go.RowKit Go.Sort Go.Shelf
def cmpI (x y:Int):Int:=if x < y then -1 else if y < x then 1 else 0
theorem cmp_Compare_eq (x y:Int):cmp_Compare_int x y=some (cmpI x y):=by
 unfold cmp_Compare_int cmp_isNaN_int cmpI
 have h1:∀z:Int,(z !=z)=false:=fun z=> by simp
 simp only [h1,Option.bind_some,cond_false]
 by_cases h:x < y
 ·simp [h]
 ·by_cases h':y < x
  ·simp [h,h']
  ·simp [h,h']
theorem cmp_Or_eq (a b:Int):cmp_Or_int [a,b]=some (if a≠0 then a else b):=by
 have step:∀i:Nat,∀x,[a,b][i]? =some x→cmp_Or_int_L1 [a,b] (i:Int)=bif x !=0 then some (.inr (.inr x)) else some (.inl ((i:Int) + 1)):=by
  intro i x hx
  have hi:i < 2:=(List.getElem?_eq_some_iff.1 hx).1
  have hlt:((i:Int) < ((([a,b]:List Int).length:Nat):Int)):=by simp only [List.length_cons,List.length_nil];omega
  unfold cmp_Or_int_L1
  simp only [hlt,decide_true,cond_true]
  rw [bind_some_of (show getI [a,b] (i:Int)=some x by rw [getI_nat];exact hx),wrap64 (n:=(i:Int) + 1) (by omega) (by omega)]
 have s0:=step 0 a rfl
 have s1:=step 1 b rfl
 have s2:cmp_Or_int_L1 [a,b] 2=some (.inr (.inl ())):=by
  unfold cmp_Or_int_L1
  rfl
 unfold cmp_Or_int
 by_cases ha:a=0
 ·subst ha
  rw [loopF_next (s':=1) (by simpa using s0)]
  by_cases hb:b=0
  ·subst hb
   rw [loopF_next (s':=2) (by simpa using s1),loopF_stop s2]
   rfl
  ·have:(b !=0)=true:=by simpa using hb
   rw [loopF_stop (b:= .inr b) (by simpa [this] using s1)]
   simp [seqF]
 ·have:(a !=0)=true:=by simpa using ha
  rw [loopF_stop (b:= .inr a) (by simpa [this] using s0)]
  simp [seqF,ha]
def leP (x y:Pr):Bool:=decide (x.1 < y.1) || (decide (x.1=y.1) && decide (x.2≤y.2))
theorem leP_iff {x y:Pr}:leP x y=true↔x.1 < y.1∨x.1=y.1∧x.2≤y.2:=by simp [leP]
theorem leP_not {x y:Pr}:leP x y=false↔¬(x.1 < y.1∨x.1=y.1∧x.2≤y.2):=by rw [←leP_iff];simp
def sortP (l:List Pr):List Pr:=l.mergeSort leP
theorem sortP_perm (l:List Pr):(sortP l).Perm l:=List.mergeSort_perm _ _
theorem sortP_pw (l:List Pr):(sortP l).Pairwise fun x y=> leP x y=true:=List.pairwise_mergeSort (le:=leP) (fun a b c h1 h2=> by rw [leP_iff] at *;omega) (fun a b=> by
 rw [Bool.or_eq_true,leP_iff,leP_iff];omega) l
def toA (x:Pr):api_Debt:=⟨x.1,x.2⟩
def ofA (x:api_Debt):Pr:=(x.Event,x.Net)
def cmpP (x y:api_Debt):Int:=if cmpI x.Event y.Event≠0 then cmpI x.Event y.Event else cmpI x.Net y.Net
theorem debts_cmp (x y:api_Debt):audit_Debts_1 x y=some (cmpP x y):=by
 unfold audit_Debts_1
 rw [cmp_Compare_eq,cmp_Compare_eq,bind_some_of rfl,bind_some_of rfl,cmp_Or_eq]
 rfl
theorem ltOf_cmpP (x y:api_Debt):ltOf cmpP x y= !leP (ofA y) (ofA x):=by
 have h1:∀a b:Int,cmpI a b < 0↔a < b:=fun a b=> by
  unfold cmpI
  split
  ·simp [*]
  ·split <;> simp <;> omega
 have h2:∀a b:Int,cmpI a b=0↔a=b:=fun a b=> by
  unfold cmpI
  split
  ·simp;omega
  ·split <;> simp <;> omega
 have h3:cmpP x y < 0↔¬(y.Event < x.Event∨y.Event=x.Event∧y.Net≤x.Net):=by
  unfold cmpP
  by_cases h:cmpI x.Event y.Event=0
  ·rw [if_neg (by simpa using h),h1]
   have:=(h2 _ _).1 h
   omega
  ·rw [if_pos h,h1]
   have:¬x.Event=y.Event:=fun e=> h ((h2 _ _).2 e)
   omega
 have h4:(!leP (ofA y) (ofA x))=true↔¬(y.Event < x.Event∨y.Event=x.Event∧y.Net≤x.Net):=by
  rw [Bool.not_eq_true',leP_not]
  rfl
 have h5:ltOf cmpP x y=true↔cmpP x y < 0:=by simp [ltOf]
 rw [Bool.eq_iff_iff,h5,h4,h3]
theorem sort_debts {l ss:List Pr} (hp:ss.Perm l) (hl:l.length≤1000000):sortF audit_Debts_1 (ss.map toA)=some ((sortP l).map toA):=by
 have hok:SortOk audit_Debts_1 (ss.map toA) cmpP:=by
  refine ⟨debts_cmp,⟨fun x=> ?_,fun x y z h1 h2=> ?_,fun x y z h1 h2=> ?_⟩,fun x _ y _ h1 h2=> ?_,?_⟩
  ·rw [ltOf_cmpP];simp [leP]
  ·simp only [ltOf_cmpP,Bool.not_eq_true',leP_not] at *;omega
  ·simp only [ltOf_cmpP,Bool.not_eq_false',leP_iff] at *;omega
  ·simp only [ltOf_cmpP,Bool.not_eq_false',leP_iff] at *
   cases x;cases y
   simp only [ofA] at *
   congr 1 <;> omega
  ·have:=hp.length_eq
   simp;omega
 rw [sortF_eq hok]
 congr 1
 refine List.Perm.eq_of_pairwise (le:=fun x y=> leP (ofA x) (ofA y)=true) (fun a b _ _ h1 h2=> ?_) ?_ ?_ ?_
 ·rw [leP_iff] at *
  cases a;cases b
  simp only [ofA] at *
  congr 1 <;> omega
 ·have:=List.pairwise_mergeSort (le:=fun x y=> !ltOf cmpP y x) (fun a b c h1 h2=> by
   simp only [ltOf_cmpP,Bool.not_not,leP_iff] at *;omega) (fun a b=> by simp only [ltOf_cmpP,Bool.not_not,Bool.or_eq_true,leP_iff];omega) (ss.map toA)
  refine this.imp fun h=> ?_
  simpa [ltOf_cmpP] using h
 ·rw [List.pairwise_map]
  exact sortP_pw l
 ·exact (List.mergeSort_perm _ _).trans ((hp.trans (sortP_perm l).symm).map toA)
theorem vsort_fn {dr:Prop} {c:api_Debt→api_Debt→Option Int} {cF:FuncId} {cC:List AV} (cH:cC.all capd=true) (cP:∀(q0 q1:api_Debt) (z:Int),c q0 q1=some z→Fn True Tryz.prog cF ([.agg (api_Debt.av q0),.agg (api_Debt.av q1)] ++ cC) (.d (.v (.int .i64 z)))) {l r:List api_Debt} (h:sortF c l=some r):FnW dr Tryz.prog 77 2 (List.map api_Debt.enc l) [.fn cF cC] (.ow 2 (List.map api_Debt.enc r)):=
 sortF_fnw api_Debt.enc (fun _=> rfl) (by decide) Tryz.call77 (fun α _ enc hk h1 cf hO g cb blk off cap d w eg hcmp hH hblk hsz=> AnyQ.slices_SortFunc Tryz.sort77 2 Tryz.isAgg67 Tryz.sizeOf67 enc hk h1 cf hO g cb blk off cap d w eg hcmp hH hblk hsz) (fun p cap fv w=> AnyF.slices_SortFunc_none Tryz.sort77 p cap fv w) cH cP h
theorem enc_toA (l:List Pr):(l.map fun x=> ([.v (.int .i64 x.1),.v (.int .i64 x.2)]:List D))=(l.map toA).map api_Debt.enc:=by
 rw [List.map_map]
 rfl
theorem ownAt_plain {S T:Nat→Prop} {w:World} {sz:Nat} {es:List (List D)} {v:Value} {b:Option Nat} (hp:∀e∈es,∀d∈e,∃x:Value,d= .v x) (h:OwnAt S w sz es v b):OwnAt T w sz es v b:=by
 obtain ⟨h1,h2⟩:=h
 refine ⟨h1,?_⟩
 rcases h2 with h2 | ⟨g,ty,cur,cap,e1,e2,e3,e4,e5,e6,e7⟩
 ·exact Or.inl h2
 ·refine Or.inr ⟨g,ty,cur,cap,e1,e2,e3,e4,e5,e6,fun i j e x he hx=> ?_⟩
  obtain ⟨y,hy,hr⟩:=e7 i j e x he hx
  obtain ⟨z,rfl⟩:=hp e (List.mem_of_getElem? he) x (List.mem_of_getElem? hx)
  exact ⟨y,hy,by cases hr;exact .v _ ‹_›⟩
theorem below_x {w w1 w2:World} {b:Option Nat} (h1:Below w.heap.size w w1) (h2:BelowX False (fun c=> b=some c) w1 w2) (hb:∀c,b=some c→w.heap.size≤c∧c < w1.heap.size):Below w.heap.size w w2:=
 ⟨h2.os.trans h1.os,h2.tape.trans h1.tape,h2.output.trans h1.output,Nat.le_trans h1.size h2.size,fun k hk=> (h2.block k (Nat.lt_of_lt_of_le hk h1.size) (fun e=> by have:=(hb k e).1;omega)).trans (h1.block k hk)⟩
set_option maxRecDepth 100000 in
set_option maxHeartbeats 2000000 in
theorem vsortedf_own (l:List Pr) (hl:l.length≤1000000) (hr:∀x∈l,inR x) (w:World) (hI:Inv w) (bb mb:Nat) (ents:Array MapEntry) (clock:Nat) (hbb:bb < w.heap.size) (hcell:w.cell? ⟨bb,0,none⟩=some (.map (some mb)))
  (hmb:w.heap[mb]? =some (.map ents clock)) (hst:MapKept.Stamped ents clock) (hk:KeysAre ents l):
  Calls Tryz.prog 25 #[.func (.func 78) #[] #[.pointer (some ⟨bb,0,none⟩)],.func (.func 27) #[] #[]] w fun e w'=> ∃v b,e= .returned v∧OwnAt (fun _=> False) w' 2 ((sortP l).map toA |>.map api_Debt.enc) v b∧Below w.heap.size w w'∧∀c,b=some c→w.heap.size≤c∧c < w'.heap.size:=by
 have HC:=Lib.hid (collect_keys l hl hr w bb mb ents clock hbb hcell hmb hst hk)
 have HI:=Lib.hid hI
 clear hr hbb hcell hmb hst hk hI
 have HL:=Lib.hid hl
 clear hl
 go_enter Tryz.func25,Tryz.ntmps25
 go_wp2_with (go_at_call 76;refine HC.out.mono ?_;rintro e w1 ⟨v,ss,b,rfl,hp,hb1,how,hb⟩)
 refine ((vsort_fn (dr:=False) (c:=audit_Debts_1) (cF:=27) (cC:= []) rfl (fun q0 q1 z h=> audit_Debts_1_fn h) (sort_debts hp HL.out)).2 w1 (fun _=> False) (fun _=> False) v b #[.func (.func 27) #[] #[]] (inv_below HI.out hb1) (fun c hc hT=> by have:=HI.out.lt hT;have:=(hb c hc).1;omega) (fun _ h=> h.elim) (fun _ h=> h) (by rw [←enc_toA];exact how) (fun c hc=> ⟨(hb c hc).2,fun h=> h⟩) ⟨rfl,fun j c v hc hv=> by
  match j,hc,hv with
  | 0,hc,hv=>
   injection hc with hc
   injection hv with hv
   subst hc hv
   exact .fn rfl fun j c v h=> by simp at h⟩).mono ?_
 rintro e w2 ⟨v2,rfl,hx,hres⟩
 obtain ⟨rfl,S',hS',how2,_⟩:=hres
 have HX:=Lib.hid hx
 have HO:=Lib.hid how2
 have HB1:=Lib.hid hb1
 have HB:=Lib.hid hb
 clear hx hS' how2 hb1 hb how hp
 go_wp2_with fail
 go_ret
 refine ⟨v,b,rfl,ownAt_plain (fun e he d hd=> ?_) HO.out,below_x HB1.out HX.out HB.out,fun c hc=> ⟨(HB.out c hc).1,Nat.lt_of_lt_of_le (HB.out c hc).2 HX.out.size⟩⟩
 obtain ⟨x,_,rfl⟩:=List.mem_map.1 he
 simp only [api_Debt.enc,List.mem_cons,List.not_mem_nil,or_false] at hd
 rcases hd with rfl | rfl <;> exact ⟨_,rfl⟩
def api_Debt.key (x:api_Debt):Value:= .agg #[.int .i64 x.Event,.int .i64 x.Net]
instance:BEq api_Debt:=⟨fun a b=> (a.Event==b.Event && (a.Net==b.Net && true))⟩
def leD (x y:api_Debt):Bool:=decide (x.Event < y.Event) || (x.Event==y.Event && decide (x.Net≤y.Net))
def debtR (x:api_Debt):Bool:=(Lit.int .i64 x.Event).wf && (Lit.int .i64 x.Net).wf
def sortedDF (ks:List api_Debt):Option (List api_Debt):=bif ks.all debtR && decide (ks.length≤1000000) then some (ks.mergeSort leD) else none
theorem sortP_toA (ks:List api_Debt):(sortP (ks.map ofA)).map toA=ks.mergeSort leD:=by
 unfold sortP
 rw [List.map_mergeSort (f:=toA) (s:=leD) (fun a _ b _=> by unfold leP leD toA;cases h:decide (a.1=b.1) <;> simp_all),List.map_map]
 congr 1
 exact List.map_id _
theorem slices_SortedFunc_api_Debt_fnx {V:Type} {ve:V→D} {l:List (api_Debt×V)} {r:List api_Debt} (h:sortedDF (l.map Prod.fst)=some r):
  FnX False Tryz.prog 25 [.fn 78 [.ow 1 ((mapE api_Debt.key ve l).map fun p=> [.v p.1])],.fn 27 []] (.ow 2 (List.map api_Debt.enc r)):=by
 unfold sortedDF at h
 cases hc:((l.map Prod.fst).all debtR && decide ((l.map Prod.fst).length≤1000000))
 ·rw [hc] at h;cases h
 rw [hc] at h
 injection h with h
 subst h
 obtain ⟨h1,h2⟩:=(Bool.and_eq_true _ _ ▸ hc:_∧_)
 have h2:=of_decide_eq_true h2
 refine ⟨2,_,rfl,Tryz.call25,fun w bb mb ents clock hI hbb hcell hmb hst hsz hk=> ?_⟩
 have hl:((l.map Prod.fst).map ofA).length≤1000000:=by rw [List.length_map];exact h2
 have hr:∀x∈(l.map Prod.fst).map ofA,inR x:=fun x hx=> by
  obtain ⟨y,hy,rfl⟩:=List.mem_map.1 hx
  have:=List.all_eq_true.1 h1 y hy
  unfold debtR at this
  rw [Bool.and_eq_true] at this
  exact this
 have hka:KeysAre ents ((l.map Prod.fst).map ofA):=by
  unfold KeysAre
  apply List.ext_getElem?
  intro j
  simp only [List.getElem?_map]
  have hsz':ents.size=l.length:=by rw [hsz];simp [mapE]
  cases he:ents.toList[j]? with
  | none=>
   have:ents.size≤j:=by simpa using he
   rw [List.getElem?_eq_none (by omega)]
   rfl
  | some e=>
   have hj:j < l.length:=by
    have:=(List.getElem?_eq_some_iff.1 he).1
    rw [Array.length_toList] at this
    omega
   have hlj:=List.getElem?_eq_getElem hj
   rw [hlj]
   have:=hk j [.v (api_Debt.key l[j].1)] e (by simp [mapE,hlj]) (by simpa using he)
   simp only [Option.map_some]
   injection this with this
   injection this with this
   rw [←this]
   rfl
 refine (vsortedf_own ((l.map Prod.fst).map ofA) hl hr w hI bb mb ents clock hbb hcell hmb hst hka).mono ?_
 rintro e w' ⟨v,b,rfl,ho,hb,hbs⟩
 rw [sortP_toA] at ho
 exact ⟨v,b,rfl,⟨hb,fun h=> h.elim⟩,ho,hbs⟩
end Go.Proofs.YtiklglcjecopcaaGreatDoor

/-
Evaluation of Go code on plain data: runs of an operation's steps. Over any program.
-/
import Derived.Test.YtmgcnoigihdhpaaGreatDoorQ09
import Derived.Deep.MidRow
import Derived.Deep.Slices
namespace Go.Proofs.YtmgcnoigihdhpaaGreatDoor
open Go.RowKit
inductive Step.Runs (F:FuncId→List AV→AV→Prop):Step→Mem→AV→Mem→Prop
 | ret {v:AV} {m:Mem}:Runs F (.ret v) m v m
 | rdb {s g:Nat} {k:List AV→Step} {m m':Mem} {v:AV} {cs:List AV} (h:m.at_ s g=some (.box cs)) (r:Runs F (k cs) m v m'):Runs F (.rdb s g k) m v m'
 | rdr {s g:Nat} {k:List (List D)→Step} {m m':Mem} {v:AV} {sz:Nat} {es:List (List D)} {ro:Bool} (h:m.at_ s g=some (.rows sz es ro)) (r:Runs F (k es) m v m'):Runs F (.rdr s g k) m v m'
 | rdm {s g:Nat} {k:CK→List (Value×D)→Step} {m m':Mem} {v:AV} {ck:CK} {es:List (Value×D)} (h:m.at_ s g=some (.mapi ck es)) (r:Runs F (k ck es) m v m'):Runs F (.rdm s g k) m v m'
 | rww {s g:Nat} {k:Nat→List (List D)→Step} {m m':Mem} {v:AV} {sz:Nat} {es:List (List D)} (h:m.at_ s g=some (.rows sz es false)) (r:Runs F (k sz es) m v m'):Runs F (.rww s g k) m v m'
 | rdz {s g z:Nat} {k:Step} {m m':Mem} {v:AV} {es:List (List D)} {ro:Bool} (h:m.at_ s g=some (.rows z es ro)) (r:Runs F k m v m'):Runs F (.rdz s g z k) m v m'
 | wr {s g:Nat} {i:Inst} {k:Step} {m m':Mem} {v:AV} (r:Runs F k (m.set s g (some i)) v m'):Runs F (.wr s g i k) m v m'
 | new {s:Nat} {i:Inst} {k:Nat→Step} {m m':Mem} {v:AV} (r:Runs F (k (m.gen s + 1)) (m.add s i) v m'):Runs F (.new s i k) m v m'
 | app {s g sz:Nat} {xs:List (List D)} {k:Nat→Step} {m m':Mem} {v:AV} {es:List (List D)} (h:m.at_ s g=some (.rows sz es false)) (r:Runs F (k (m.gen s + 1)) ((m.set s g none).add s (.rows sz (es ++ xs) false)) v m'):Runs F (.app s g sz xs k) m v m'
 | frz {s g sz:Nat} {es:List (List D)} {ro:Bool} {k:Step} {m m':Mem} {v:AV} (h:m.at_ s g=some (.rows sz es ro)) (r:Runs F k (m.set s g (some (.rows sz es true))) v m'):Runs F (.frz s g k) m v m'
 | elem {es:List (List D)} {i:Nat} {k:List D→Step} {m m':Mem} {v:AV} {c:List D} (h:es[i]? =some c) (r:Runs F (k c) m v m'):Runs F (.elem es i k) m v m'
 | call {f:FuncId} {args:List AV} {k:AV→Step} {m m':Mem} {v x:AV} (h:F f args x) (r:Runs F (k x) m v m'):Runs F (.call f args k) m v m'
 | chk {p:Prop} {k:Step} {m m':Mem} {v:AV} (h:p) (r:Runs F k m v m'):Runs F (.chk p k) m v m'
 | br {b:Bool} {x y:Step} {m m':Mem} {v:AV} (r:Runs F (bif b then x else y) m v m'):Runs F (.br b x y) m v m'
theorem Step.wp_runs {F:FuncId→List AV→AV→Prop} (s:Step):∀(m:Mem) (K:AV→Mem→Prop),s.wp F m K→∃v m',s.Runs F m v m'∧K v m':=by
 induction s with
 | ret v=> exact fun m K h=> ⟨v,m,.ret,h⟩
 | rdb s g k ih=>
  intro m K h
  simp only [Step.wp] at h
  split at h
  ·rename_i cs hc
   obtain ⟨v,m',hr,hk⟩:=ih _ _ _ h
   exact ⟨v,m',.rdb hc hr,hk⟩
  ·exact h.elim
 | rdr s g k ih=>
  intro m K h
  simp only [Step.wp] at h
  split at h
  ·rename_i sz es ro hc
   obtain ⟨v,m',hr,hk⟩:=ih _ _ _ h
   exact ⟨v,m',.rdr hc hr,hk⟩
  ·exact h.elim
 | rdm s g k ih=>
  intro m K h
  simp only [Step.wp] at h
  split at h
  ·rename_i ck es hc
   obtain ⟨v,m',hr,hk⟩:=ih _ _ _ _ h
   exact ⟨v,m',.rdm hc hr,hk⟩
  ·exact h.elim
 | rww s g k ih=>
  intro m K h
  simp only [Step.wp] at h
  split at h
  ·rename_i sz es hc
   obtain ⟨v,m',hr,hk⟩:=ih _ _ _ _ h
   exact ⟨v,m',.rww hc hr,hk⟩
  ·exact h.elim
 | rdz s g z k ih=>
  intro m K h
  simp only [Step.wp] at h
  split at h
  ·rename_i sz es ro hc
   by_cases he:sz=z
   ·subst he
    simp only [Nat.beq_refl,cond_true] at h
    obtain ⟨v,m',hr,hk⟩:=ih _ _ h
    exact ⟨v,m',.rdz hc hr,hk⟩
   ·rw [beq_dec] at h
    simp only [he,decide_false,cond_false] at h
  ·exact h.elim
 | wr s g i k ih=>
  intro m K h
  obtain ⟨v,m',hr,hk⟩:=ih _ _ h
  exact ⟨v,m',.wr hr,hk⟩
 | new s i k ih=>
  intro m K h
  obtain ⟨v,m',hr,hk⟩:=ih _ _ _ h
  exact ⟨v,m',.new hr,hk⟩
 | app s g sz xs k ih=>
  intro m K h
  simp only [Step.wp] at h
  split at h
  ·rename_i sz' es hc
   by_cases he:sz=sz'
   ·subst he
    simp only [Nat.beq_refl,cond_true] at h
    obtain ⟨v,m',hr,hk⟩:=ih _ _ _ h
    exact ⟨v,m',.app hc hr,hk⟩
   ·rw [beq_dec] at h
    simp only [he,decide_false,cond_false] at h
  ·exact h.elim
 | frz s g k ih=>
  intro m K h
  simp only [Step.wp] at h
  split at h
  ·rename_i sz es ro hc
   obtain ⟨v,m',hr,hk⟩:=ih _ _ h
   exact ⟨v,m',.frz hc hr,hk⟩
  ·exact h.elim
 | elem es i k ih=>
  rintro m K ⟨c,hc,h⟩
  obtain ⟨v,m',hr,hk⟩:=ih _ _ _ h
  exact ⟨v,m',.elem hc hr,hk⟩
 | call f args k ih=>
  rintro m K ⟨r,hf,h⟩
  obtain ⟨v,m',hr,hk⟩:=ih _ _ _ h
  exact ⟨v,m',.call hf hr,hk⟩
 | chk p k ih=>
  rintro m K ⟨hp,h⟩
  obtain ⟨v,m',hr,hk⟩:=ih _ _ h
  exact ⟨v,m',.chk hp hr,hk⟩
 | br b x y ihx ihy=>
  rintro m K ⟨h1,h2⟩
  cases b
  ·obtain ⟨v,m',hr,hk⟩:=ihy _ _ (h2 rfl)
   exact ⟨v,m',.br hr,hk⟩
  ·obtain ⟨v,m',hr,hk⟩:=ihx _ _ (h1 rfl)
   exact ⟨v,m',.br hr,hk⟩
 | fail=> exact fun m K h=> h.elim
def RelL (κ:Cx) (cs:List AV) (vs:List Value):Prop:=vs.length=cs.length∧∀(j:Nat) (c:AV) (v:Value),cs[j]? =some c→vs[j]? =some v→Rel κ c v
theorem RelL.mono {κ κ':Cx} (h:κ.Le κ') {cs:List AV} {vs:List Value} (hr:RelL κ cs vs):RelL κ' cs vs:=⟨hr.1,fun j c v hc hv=> (hr.2 j c v hc hv).mono h⟩
theorem RelL.nil (κ:Cx):RelL κ [] []:=⟨rfl,fun j c v h=> by simp at h⟩
theorem RelL.cons {κ:Cx} {c:AV} {cs:List AV} {v:Value} {vs:List Value} (h:Rel κ c v) (hs:RelL κ cs vs):RelL κ (c::cs) (v::vs):=
 ⟨by simp [hs.1],fun j x y hx hy=> by
  cases j with
  | zero=> simp at hx hy;subst hx hy;exact h
  | succ j=> exact hs.2 j x y (by simpa using hx) (by simpa using hy)⟩
theorem RelL.cons_inv {κ:Cx} {c:AV} {cs:List AV} {vs:List Value} (h:RelL κ (c::cs) vs):∃v vs',vs=v::vs'∧Rel κ c v∧RelL κ cs vs':=by
 cases vs with
 | nil=> have:=h.1;simp at this
 | cons v vs'=> exact ⟨v,vs',rfl,h.2 0 c v rfl rfl,by have:=h.1;simpa using this,fun j x y hx hy=> h.2 (j + 1) x y (by simpa using hx) (by simpa using hy)⟩
theorem RelL.nil_inv {κ:Cx} {vs:List Value} (h:RelL κ [] vs):vs= []:=List.eq_nil_of_length_eq_zero h.1
theorem RelL.get {κ:Cx} {cs:List AV} {vs:List Value} (h:RelL κ cs vs) {j:Nat} {c:AV} (hc:cs[j]? =some c):∃v,vs[j]? =some v∧Rel κ c v:=by
 have hj:j < vs.length:=by rw [h.1];exact (List.getElem?_eq_some_iff.1 hc).1
 exact ⟨vs[j],List.getElem?_eq_getElem hj,h.2 j c _ hc (List.getElem?_eq_getElem hj)⟩
theorem RelL.take {κ:Cx} {cs:List AV} {vs:List Value} (h:RelL κ cs vs) (n:Nat):RelL κ (cs.take n) (vs.take n):=⟨by simp [h.1],fun j c v hc hv=> by
 rw [List.getElem?_take] at hc hv
 split at hc
 ·rename_i hj
  rw [if_pos hj] at hv
  exact h.2 j c v hc hv
 ·cases hc⟩
theorem RelL.drop {κ:Cx} {cs:List AV} {vs:List Value} (h:RelL κ cs vs) (n:Nat):RelL κ (cs.drop n) (vs.drop n):=⟨by simp [h.1],fun j c v hc hv=> by
 rw [List.getElem?_drop] at hc hv
 exact h.2 _ c v hc hv⟩
theorem RelL.append {κ:Cx} {cs cs':List AV} {vs vs':List Value} (h:RelL κ cs vs) (h':RelL κ cs' vs'):RelL κ (cs ++ cs') (vs ++ vs'):=by
 induction cs generalizing vs with
 | nil=> rw [h.nil_inv];exact h'
 | cons c cs ih=>
  obtain ⟨v,vs1,rfl,hv,hs⟩:=h.cons_inv
  exact .cons hv (ih hs)
theorem RelL.over {κ:Cx} {cs cs':List AV} {vs vs':List Value} (h:RelL κ cs vs) (h':RelL κ cs' vs') (o:Nat):RelL κ (over cs o cs') (over vs o vs'):=by
 unfold Go.Proofs.YtmgcnoigihdhpaaGreatDoor.over
 have e:=h'.1
 rw [e]
 exact ((h.take o).append h').append (h.drop _)
theorem Rel.agg_inv {κ:Cx} {cs:List AV} {v:Value} (h:Rel κ (.agg cs) v):∃vs,v= .agg vs∧RelL κ cs vs.toList:=by
 cases h with
 | agg hl h=> exact ⟨_,rfl,by simpa using hl,fun j c v hc hv=> h j c v hc (by simpa using hv)⟩
theorem Rel.tup_inv {κ:Cx} {cs:List AV} {v:Value} (h:Rel κ (.tup cs) v):∃vs,v= .tuple vs∧RelL κ cs vs.toList:=by
 cases h with
 | tup hl h=> exact ⟨_,rfl,by simpa using hl,fun j c v hc hv=> h j c v hc (by simpa using hv)⟩
theorem Rel.agg_mk {κ:Cx} {cs:List AV} {vs:List Value} (h:RelL κ cs vs):Rel κ (.agg cs) (.agg vs.toArray):= .agg (by simpa using h.1) fun j c v hc hv=> h.2 j c v hc (by simpa using hv)
theorem Rel.tup_mk {κ:Cx} {cs:List AV} {vs:List Value} (h:RelL κ cs vs):Rel κ (.tup cs) (.tuple vs.toArray):= .tup (by simpa using h.1) fun j c v hc hv=> h.2 j c v hc (by simpa using hv)
theorem Rel.cells {κ:Cx} {x:AV} {v:Value} (h:Rel κ x v) (h1:(cellsOf x).all isOne=true):RelL κ (cellsOf x) v.cells.toList∧∀u∈v.cells.toList,u.oneCell'=true:=by
 have key:∀{cs:List AV} {vs:List Value},RelL κ cs vs→cs.all isOne=true→∀u∈vs,u.oneCell'=true:=by
  intro cs vs hr ha u hu
  obtain ⟨j,hj,rfl⟩:=List.getElem_of_mem hu
  have hj':j < cs.length:=by rw [←hr.1];exact hj
  exact (hr.2 j cs[j] vs[j] (List.getElem?_eq_getElem hj') (List.getElem?_eq_getElem hj)).one (List.all_eq_true.1 ha _ (List.getElem_mem hj'))
 have one:∀{y:AV},cellsOf y= [y]→Rel κ y v→isOne y=true→RelL κ (cellsOf y) v.cells.toList∧∀u∈v.cells.toList,u.oneCell'=true:=by
  intro y hy hr hy1
  have e:v.cells= #[v]:=by
   have:=hr.one hy1
   cases v <;> first | rfl | cases this
  rw [hy,e]
  have:RelL κ [y] #[v].toList:= .cons hr (.nil κ)
  exact ⟨this,fun u hu=> by simp at hu;subst hu;exact hr.one hy1⟩
 cases x with
 | agg cs=>
  obtain ⟨vs,rfl,hr⟩:=h.agg_inv
  exact ⟨hr,key hr h1⟩
 | tup vs=> simp [cellsOf,isOne] at h1
 | ow sz es=> simp [cellsOf,isOne] at h1
 | _=> exact one rfl h rfl
def OwnAt (S:Nat→Prop) (w:World) (sz:Nat) (es:List (List D)) (v:Value) (b:Option Nat):Prop:=
 (∀e∈es,e.length=sz)∧((b=none∧es= []∧∃A,v= .slice A 0 0)∨
  ∃g T cur cap,b=some g∧v= .slice (some ⟨g,0,none⟩) es.length cap∧w.heap[g]? =some (.cells cur T (0,0))∧es.length≤cap∧cap≤maxLen∧cur.size=cap * sz∧
   ∀(i j:Nat) (e:List D) (x:D),es[i]? =some e→e[j]? =some x→∃v,cur[i * sz + j]? =some v∧RelD S w x v)
def Res1 (S:Nat→Prop) (w:World):AV→Value→Option Nat→Prop
 | .ow sz es,v,b=> OwnAt S w sz es v b
 | .d x,v,b=> RelD S w x v∧b=none
 | _,_,_=> False
def ResL (S:Nat→Prop) (w:World):List AV→List Value→List (Option Nat)→Prop
 | [],vs,bs=> vs= []∧bs= []
 | c::r,vs,bs=> ∃v vs' b b2,vs=v::vs'∧bs=b::b2∧Res1 S w c v b∧ResL S w r vs' b2
def ResC (S:Nat→Prop) (w:World):AV→Value→List (Option Nat)→Prop
 | .agg cs,v,bs=> ∃xs,v= .agg xs∧ResL S w cs xs.toList bs
 | c,v,bs=> ∃b,bs= [b]∧Res1 S w c v b
def ResT (S:Nat→Prop) (w:World):List AV→List Value→List (Option Nat)→Prop
 | [],vs,bs=> vs= []∧bs= []
 | c::r,vs,bs=> ∃v vs' b1 b2,vs=v::vs'∧bs=b1 ++ b2∧ResC S w c v b1∧ResT S w r vs' b2
def Res (S:Nat→Prop) (w:World):AV→Value→List (Option Nat)→Prop
 | .tup vs,v,bs=> ∃xs,v= .tuple xs∧ResT S w vs xs.toList bs
 | c,v,bs=> ResC S w c v bs
def Apart (bs:List (Option Nat)):Prop:=(bs.filterMap id).Nodup
def cx0 (A:Nat→Prop) (w:World):Cx:=⟨fun _ _=> ⟨none,0,0,0⟩,fun _=> 0,A,w⟩
def Fn (dr:Prop) (P:Program) (f:FuncId) (args:List AV) (r:AV):Prop:=
 (∀(args:Array Value) (w:World),(callFunc f args).run P w= .ok (.enter f args) w)∧∀(w:World) (A:Nat→Prop) (vals:Array Value),Inv w→(∀b,A b→b < w.heap.size)→RelL (cx0 A w) args vals.toList→
  Calls P f vals w fun e w'=> ∃v S' bs,e= .returned v∧BelowD dr w.heap.size w w'∧(∀b,S' b→b < w'.heap.size∧(A b∨w.heap.size≤b))∧Res S' w' r v bs∧Apart bs∧∀b,some b∈bs→w.heap.size≤b∧b < w'.heap.size∧¬S' b
def OwnRes (A S:Nat→Prop) (w w':World) (sl:Value) (b:Option Nat) (v:Value):AV→Prop
 | .ow sz es=> v= .tuple #[]∧∃S',(∀c,S' c→c < w'.heap.size∧(S c∨w.heap.size≤c))∧OwnAt S' w' sz es sl b∧∀c,b=some c→¬S' c
 | .tup [.ow sz es]=> ∃S' b',(∀c,S' c→c < w'.heap.size∧(A c∨w.heap.size≤c))∧OwnAt S' w' sz es v b'∧∀c,b'=some c→(b=some c∨w.heap.size≤c)∧c < w'.heap.size∧¬S' c
 | _=> False
def FnW (dr:Prop) (P:Program) (f:FuncId) (sz:Nat) (es:List (List D)) (args:List AV) (r:AV):Prop:=
 (∀(args:Array Value) (w:World),(callFunc f args).run P w= .ok (.enter f args) w)∧∀(w:World) (A S:Nat→Prop) (sl:Value) (b:Option Nat) (vals:Array Value),Inv w→(∀c,b=some c→¬Tab c)→(∀c,A c→c < w.heap.size)→(∀c,S c→A c)→OwnAt S w sz es sl b→(∀c,b=some c→c < w.heap.size∧¬A c)→RelL (cx0 A w) args vals.toList→
  Calls P f (#[sl] ++ vals) w fun e w'=> ∃v,e= .returned v∧BelowX dr (fun c=> b=some c) w w'∧OwnRes A S w w' sl b v r
def FnKeys (P:Program) (f:FuncId) (r:AV):Prop:=∃kf,r= .fn kf []∧(∀(args:Array Value) (w:World),(callFunc f args).run P w= .ok (.enter f args) w)∧
 ∃ty,∀(mb:Nat) (w:World),Calls P f #[.map (some mb)] w fun e w'=> e= .returned (.func (.func kf) #[] #[.pointer (some ⟨w.heap.size,0,none⟩)])∧w'=w.alloc (.cells #[.map (some mb)] ty)
def FnSKeys (dr:Prop) (P:Program) (f kf:FuncId) (es:List (List D)) (r:AV):Prop:=∃rs,r= .ow 1 rs∧(∀(args:Array Value) (w:World),(callFunc f args).run P w= .ok (.enter f args) w)∧
 ∀(w:World) (bb mb:Nat) (ents:Array MapEntry) (clock:Nat),bb < w.heap.size→w.cell? ⟨bb,0,none⟩=some (.map (some mb))→w.heap[mb]? =some (.map ents clock)→MapKept.Stamped ents clock→ents.size=es.length→
  (∀(j:Nat) (c:List D) (e:MapEntry),es[j]? =some c→ents[j]? =some e→c= [.v e.key])→
  Calls P f #[.func (.func kf) #[] #[.pointer (some ⟨bb,0,none⟩)]] w fun e w'=> ∃v b,e= .returned v∧BelowD dr w.heap.size w w'∧OwnAt (fun _=> False) w' 1 rs v b∧∀c,b=some c→w.heap.size≤c∧c < w'.heap.size
def FnSKeysF (dr:Prop) (P:Program) (f kf cf:FuncId) (es:List (List D)) (r:AV):Prop:=∃sz rs,r= .ow sz rs∧(∀(args:Array Value) (w:World),(callFunc f args).run P w= .ok (.enter f args) w)∧
 ∀(w:World) (bb mb:Nat) (ents:Array MapEntry) (clock:Nat),Inv w→bb < w.heap.size→w.cell? ⟨bb,0,none⟩=some (.map (some mb))→w.heap[mb]? =some (.map ents clock)→MapKept.Stamped ents clock→ents.size=es.length→
  (∀(j:Nat) (c:List D) (e:MapEntry),es[j]? =some c→ents[j]? =some e→c= [.v e.key])→
  Calls P f #[.func (.func kf) #[] #[.pointer (some ⟨bb,0,none⟩)],.func (.func cf) #[] #[]] w fun e w'=> ∃v b,e= .returned v∧BelowD dr w.heap.size w w'∧OwnAt (fun _=> False) w' sz rs v b∧∀c,b=some c→w.heap.size≤c∧c < w'.heap.size
def FnGrow (dr:Prop) (P:Program) (f:FuncId) (n:Int) (r:AV):Prop:=∃sz rs,r= .ow sz rs∧(∀(args:Array Value) (w:World),(callFunc f args).run P w= .ok (.enter f args) w)∧
 ∀(B:Option Addr) (w:World),Calls P f #[.slice B 0 0,.int .i64 n] w fun e w'=> ∃v b,e= .returned v∧BelowD dr w.heap.size w w'∧OwnAt (fun _=> False) w' sz rs v b∧∀c,b=some c→w.heap.size≤c∧c < w'.heap.size
def instC:AV→Option Inst
 | .ib cs=> some (.box cs)
 | .im ck es=> some (.mapi ck es)
 | _=> none
def cxO (S:Nat→Prop) (w:World) (locs:Nat→Loc) (n:Nat):Cx:=⟨fun s _=> locs (s - 1000000),fun s=> if 1000000 < s∧s≤1000000 + n then 1 else 0,S,w⟩
theorem cxO_φ (S:Nat→Prop) (w:World) (locs:Nat→Loc) (n i:Nat):(cxO S w locs n).φ (1000001 + i) 1=locs (i + 1):=by
 show locs (1000001 + i - 1000000)=_
 rw [show 1000001 + i - 1000000=i + 1 by omega]
theorem cxO_gn (S:Nat→Prop) (w:World) (locs:Nat→Loc) {n i:Nat} (h:i < n):1≤(cxO S w locs n).gn (1000001 + i):=by
 show 1≤if 1000000 < 1000001 + i∧1000001 + i≤1000000 + n then 1 else 0
 rw [if_pos (by omega)]
 exact Nat.le_refl 1
structure ObjsOk (S:Nat→Prop) (w:World) (locs:Nat→Loc) (is:List AV):Prop where
 ok:∀(i:Nat) (a:AV),is[i]? =some a→∃inst,instC a=some inst∧InstOk (cxO S w locs is.length) (locs (i + 1)) inst
 blk:∀(i b:Nat),i < is.length→(locs (i + 1)).blk=some b→b < w.heap.size∧¬S b
 sep:∀(i j b:Nat),i < is.length→j < is.length→(locs (i + 1)).blk=some b→(locs (j + 1)).blk=some b→i=j
def mergeO:List AV→List AV→List AV
 | a::is,b::js=> (bif isNlA b then a else b)::mergeO is js
 | [],js=> js
 | _::_,[]=> []
def ResO (κ:Cx) (r:AV) (v:Value) (bs:List (Option Nat)):Prop:=match r with
 | .lp s g o=> Rel κ (.lp s g o) v∧bs= []
 | .mp s g=> Rel κ (.mp s g) v∧bs= []
 | r=> Res κ.S κ.w r v bs
def FnO (dr:Prop) (P:Program) (f:FuncId) (is:List AV) (args:List AV) (r:AV):Prop:=∃v js,r= .hp (v::js)∧is.length≤js.length∧(∀(args:Array Value) (w:World),(callFunc f args).run P w= .ok (.enter f args) w)∧
 ∀(w:World) (A:Nat→Prop) (locs:Nat→Loc) (vals:Array Value),Inv w→(∀c,A c→c < w.heap.size)→ObjsOk A w locs is→(∀i b,i < is.length→(locs (i + 1)).blk=some b→¬Tab b)→RelL (cxO A w locs is.length) args vals.toList→
  Calls P f vals w fun e w'=> ∃x S' locs' bs,e= .returned x∧BelowX dr (fun c=> ∃i,i < is.length∧(locs (i + 1)).blk=some c) w w'∧(∀b,S' b→b < w'.heap.size∧(A b∨w.heap.size≤b))∧(∀i,i < is.length→locs' (i + 1)=locs (i + 1))∧ObjsOk S' w' locs' (mergeO is js)∧
   (∀i b,is.length≤i→i < js.length→(locs' (i + 1)).blk=some b→w.heap.size≤b)∧ResO (cxO S' w' locs' js.length) v x bs∧Apart bs∧∀b,some b∈bs→w.heap.size≤b∧b < w'.heap.size∧¬S' b∧∀i,i < js.length→(locs' (i + 1)).blk≠some b
def FnX (dr:Prop) (P:Program) (f:FuncId):List AV→AV→Prop
 | .hp is::args,r=> FnO dr P f is args r
 | .ow sz es::args,r=> FnW dr P f sz es args r
 | [.tup [.ow 0 []]],r=> FnKeys P f r
 | [.tup [.ow 0 []],.d (.v (.int .i64 n))],r=> FnGrow dr P f n r
 | [.fn kf [.ow 1 es]],r=> FnSKeys dr P f kf es r
 | [.fn kf [.ow 1 es],.fn cf []],r=> FnSKeysF dr P f kf cf es r
 | args,r=> Fn dr P f args r
theorem FnX.fn {dr:Prop} {P:Program} {f:FuncId} {args:List AV} {r:AV} (h:FnX dr P f args r) {κ:Cx} {vs:List Value} (hr:RelL κ args vs):Fn dr P f args r:=by
 unfold FnX at h
 split at h
 ·obtain ⟨v,vs',_,hx,_⟩:=hr.cons_inv
  cases hx
 ·obtain ⟨v,vs',_,hx,_⟩:=hr.cons_inv
  cases hx
 ·obtain ⟨v,vs',_,hx,_⟩:=hr.cons_inv
  cases hx with
  | @tup _ us hl hh=>
   have hlt:0 < us.size:=by rw [hl];simp
   have h0:us[0]? =some (us[0]'hlt):=Array.getElem?_eq_getElem hlt
   cases hh 0 _ _ rfl h0
 ·obtain ⟨v,vs',_,hx,_⟩:=hr.cons_inv
  cases hx with
  | @tup _ us hl hh=>
   have hlt:0 < us.size:=by rw [hl];simp
   have h0:us[0]? =some (us[0]'hlt):=Array.getElem?_eq_getElem hlt
   cases hh 0 _ _ rfl h0
 ·obtain ⟨v,vs',_,hx,_⟩:=hr.cons_inv
  cases hx with
  | @fn _ _ us hl hh=>
   have hlt:0 < us.size:=by rw [hl];simp
   have h0:us[0]? =some (us[0]'hlt):=Array.getElem?_eq_getElem hlt
   cases hh 0 _ _ rfl h0
 ·obtain ⟨v,vs',_,hx,_⟩:=hr.cons_inv
  cases hx with
  | @fn _ _ us hl hh=>
   have hlt:0 < us.size:=by rw [hl];simp
   have h0:us[0]? =some (us[0]'hlt):=Array.getElem?_eq_getElem hlt
   cases hh 0 _ _ rfl h0
 ·exact h
section
variable {F : FuncId → List AV → AV → Prop} {w0 : Start} {A : Nat → Prop}
theorem settle_runs (s:Nat) (cz:List Nat):∀(cs:List AV) (j:Nat) (k:List AV→Step) (m:Mem) (κ:Cx) (vs:List Value) (v:AV) (m':Mem),Sim w0 A m κ→RelL κ cs vs→(settle s cz j cs k).Runs F m v m'→
  ∃m1 κ1 cs1,Sim w0 A m1 κ1∧κ.Le κ1∧κ1.w=κ.w∧RelL κ1 cs1 vs∧(k cs1).Runs F m1 v m'
 | [],j,k,m,κ,vs,v,m',hs,hr,h=> ⟨m,κ,[],hs,.refl κ,rfl,hr,h⟩
 | c::cs,j,k,m,κ,vs,v,m',hs,hr,h=> by
  obtain ⟨x,vs',rfl,hx,hr'⟩:=hr.cons_inv
  by_cases hc:c= .nl
  ·subst hc
   simp only [settle] at h
   cases h with
   | new h=>
    cases hx with
    | nl A'=>
     have:=hs.add (BelowD.refl _ _) (s + 65536 * (j + 1)) (.rows (cz.getD j 0) [] false) ⟨none,0,0,0⟩ (fun b hb=> by cases hb) rfl (fun _=> ⟨rfl,fun e he=> by simp at he,Or.inl ⟨rfl,rfl⟩⟩)
     obtain ⟨hs1,hle⟩:=this
     obtain ⟨m1,κ1,cs1,g1,g2,g3,g4,g5⟩:=settle_runs s cz cs (j + 1) _ _ _ vs' v m' hs1 (hr'.mono hle) h
     refine ⟨m1,κ1,_,g1,hle.trans g2,g3,.cons ?_ g4,g5⟩
     have hgn:m.gen (s + 65536 * (j + 1)) + 1=κ.gn (s + 65536 * (j + 1)) + 1:=by rw [hs.gn]
     rw [hgn]
     refine Rel.mono g2 (.row0 A' ?_ ?_ ?_)
     ·rw [Cx.put_gn];exact Nat.le_refl _
     ·rw [Cx.put_new]
     ·rw [Cx.put_new]
  ·have e:settle s cz j (c::cs) k=settle s cz (j + 1) cs fun r=> k (c::r):=by
    cases c <;> first | rfl | exact absurd rfl hc
   rw [e] at h
   obtain ⟨m1,κ1,cs1,g1,g2,g3,g4,g5⟩:=settle_runs s cz cs (j + 1) _ _ _ vs' v m' hs hr' h
   exact ⟨m1,κ1,_,g1,g2,g3,.cons (hx.mono g2) g4,g5⟩
theorem rows_data {κ:Cx} {l:Loc} {sz:Nat} {es:List (List D)} {ro:Bool} (h:InstOk κ l (.rows sz es ro)) {S:Nat→Prop} (h1:∀b,κ.S b→S b) (h2:∀b,l.blk=some b→S b):
  RelD S κ.w (.fz es) (match l.blk with | some b=> .slice (some ⟨b,0,none⟩) l.len l.cap | none=> .slice none 0 0):=by
 obtain ⟨e1,e2,h⟩:=h
 rcases h with ⟨hb,rfl⟩ | ⟨b,T,cur,hb,hz,hh,hl,hm,hc,hr⟩
 ·rw [hb]
  exact .fz0 _ _ fun _=> rfl
 ·rw [hb,←e1]
  refine .fz es b 0 sz l.cap (fun j=> cur.getD j undef) e2 (h2 b hb) (by rw [e1];exact hl) (fun j hj=> ?_) (fun i j e x he hx=> ?_)
  ·rw [Nat.zero_add,cell_of_row _ _ _ cur T (0,0) hh]
   have:j < cur.size:=by
    rw [hc]
    exact Nat.lt_of_lt_of_le hj (Nat.mul_le_mul_right _ (by rw [e1];exact hl))
   rw [Array.getElem?_eq_getElem this]
   simp [Array.getD,this]
  ·obtain ⟨v,hv,hd⟩:=hr i j e x he hx
   have:(cur.getD (i * sz + j) undef)=v:=by
    simp only [Array.getD_eq_getD_getElem?,hv,Option.getD_some]
   rw [this]
   exact hd.mono h1 (fun _ _=> rfl)
theorem sub_data {S:Nat→Prop} {w:World} {es:List (List D)} {v:Value} (h:RelD S w (.fz es) v) {b c l sz:Nat} (hv:v= .slice (some ⟨b,0,none⟩) l c) (hs:∀e∈es,e.length=sz) (o n cc:Nat) (hn:o + n≤es.length) (hcc:n≤cc):
  RelD S w (.fz ((es.drop o).take n)) (.slice (some ⟨b,o * sz,none⟩) n cc):=by
 have hlen:((es.drop o).take n).length=n:=by simp;omega
 by_cases h0:n=0
 ·subst h0
  rw [List.take_zero]
  exact .fz0 _ _ fun h=> by cases h
 ·cases h with
  | fz0 A c _=> simp at hn;omega
  | fz _ b' o' sz' c' vs hs' hb hcap hc hr=>
   injection hv with hv1 hv2 hv3
   injection hv1 with hv1
   injection hv1 with hv1 hv4 _
   subst hv1 hv4
   have hsz:sz'=sz:=by
    obtain ⟨e,es',rfl⟩:=List.exists_cons_of_length_pos (l:=es) (by omega)
    rw [←hs e (by simp),hs' e (by simp)]
   subst hsz
   have:=RelD.fz (S:=S) (w:=w) ((es.drop o).take n) b' (o * sz') sz' cc (fun j=> vs (o * sz' + j)) (fun e he=> hs e (List.mem_of_mem_drop (List.mem_of_mem_take he))) hb (by rw [hlen];exact hcc)
    (fun j hj=> by
     rw [hlen] at hj
     have h2:=hc (o * sz' + j) (by
      have:(o + n) * sz'≤es.length * sz':=Nat.mul_le_mul_right _ hn
      rw [Nat.add_mul] at this
      omega)
     rw [Nat.zero_add] at h2
     exact h2)
    (fun i j e x he hx=> by
     rw [List.getElem?_take] at he
     split at he
     ·rw [List.getElem?_drop] at he
      have:=hr (o + i) j e x he hx
      rw [Nat.add_mul,Nat.add_assoc] at this
      exact this
     ·cases he)
   rw [hlen] at this
   exact this
theorem row_read {κ:Cx} {m:Mem} (hs:Sim w0 A m κ) {s g sz n:Nat} {es:List (List D)} {ro:Bool} (hi:m.at_ s g=some (.rows sz es ro)) {u:Value} (hu:Rel κ (.row s g n) u) {S:Nat→Prop} (h1:∀b,κ.S b→S b) (h2:∀b,(κ.φ s g).blk=some b→S b):
  RelD S κ.w (.fz es) u∧es.length=n:=by
 have ho:=hs.ok s g _ hi
 have hd:=rows_data ho h1 h2
 cases hu with
 | row0 A' hg hb hl=>
  have e:es= []:=List.eq_nil_of_length_eq_zero (by rw [ho.1,hl])
  subst e
  exact ⟨.fz0 _ _ fun _=> rfl,rfl⟩
 | row hg hb=>
  rw [hb] at hd
  exact ⟨hd,ho.1⟩
theorem sub_read {κ:Cx} {m:Mem} (hs:Sim w0 A m κ) {s g sz o n:Nat} {es:List (List D)} {ro:Bool} (hi:m.at_ s g=some (.rows sz es ro)) {u:Value} (hu:Rel κ (.sub s g o n) u) {S:Nat→Prop} (h1:∀b,κ.S b→S b) (h2:∀b,(κ.φ s g).blk=some b→S b):
  RelD S κ.w (.fz ((es.drop o).take n)) u∧o + n≤es.length:=by
 have ho:=hs.ok s g _ hi
 have hd:=rows_data ho h1 h2
 cases hu with
 | sub0 A' hg hb hl=>
  have e:es= []:=List.eq_nil_of_length_eq_zero (by rw [ho.1,hl])
  subst e
  exact ⟨.fz0 _ _ fun _=> rfl,by simp⟩
 | sub A' hg hb hA hn=>
  rw [hb] at hd
  obtain ⟨e1,e2,h3⟩:=ho
  rw [e1]
  refine ⟨?_,hn⟩
  rcases h3 with ⟨h4,_⟩ | ⟨b',T,cur,hb',hz,hh,hl,hm,hc,hr⟩
  ·rw [h4] at hb;cases hb
  ·rcases hA with ⟨rfl,hA⟩ | rfl
   ·rw [List.take_zero]
    exact .fz0 _ _ fun _=> hA
   ·rw [hz]
    exact sub_data hd rfl e2 o n _ (by rw [e1];exact hn) (by omega)
theorem dataOf_runs {x:AV} {k:D→Step} {m:Mem} {κ:Cx} {u:Value} {v:AV} {m':Mem} (hs:Sim w0 A m κ) (hu:Rel κ x u) (h:(dataOf x k).Runs F m v m'):
  ∃m1 κ1 y,Sim w0 A m1 κ1∧κ.Le κ1∧κ1.w=κ.w∧RelD κ1.S κ1.w y u∧(k y).Runs F m1 v m':=by
 cases x with
 | d y=>
  cases hu with
  | d hu=> exact ⟨m,κ,y,hs,.refl κ,rfl,hu,h⟩
 | nl=>
  cases hu with
  | nl A'=> exact ⟨m,κ,.fz [],hs,.refl κ,rfl,.fz0 _ _ fun _=> rfl,h⟩
 | row s g n=>
  cases h with
  | rdr hi h=>
   cases h with
   | frz hi' h=>
    rw [hi] at hi'
    injection hi' with hi'
    injection hi' with q1 q2 q3
    subst q1 q2 q3
    obtain ⟨h1,h2⟩:=hs.frz hi
    exact ⟨_,_,_,h1,h2,rfl,(row_read hs hi hu h2.S (fun _ hb=> Or.inr hb)).1,h⟩
 | sub s g o n=>
  cases h with
  | rdr hi h=>
   cases h with
   | frz hi' h=>
    rw [hi] at hi'
    injection hi' with hi'
    injection hi' with q1 q2 q3
    subst q1 q2 q3
    obtain ⟨h1,h2⟩:=hs.frz hi
    exact ⟨_,_,_,h1,h2,rfl,(sub_read hs hi hu h2.S (fun _ hb=> Or.inr hb)).1,h⟩
 | _=> cases h
theorem dataList_runs:∀(cs:List AV) (k:List D→Step) (m:Mem) (κ:Cx) (vs:List Value) (v:AV) (m':Mem),Sim w0 A m κ→RelL κ cs vs→(dataList cs k).Runs F m v m'→
  ∃m1 κ1 ds,Sim w0 A m1 κ1∧κ.Le κ1∧κ1.w=κ.w∧(ds.length=vs.length∧∀(j:Nat) (d:D) (u:Value),ds[j]? =some d→vs[j]? =some u→RelD κ1.S κ1.w d u)∧(k ds).Runs F m1 v m'
 | [],k,m,κ,vs,v,m',hs,hr,h=> ⟨m,κ,[],hs,.refl κ,rfl,⟨by rw [hr.nil_inv];rfl,fun j d u hd=> by simp at hd⟩,h⟩
 | c::cs,k,m,κ,vs,v,m',hs,hr,h=> by
  obtain ⟨x,vs',rfl,hx,hr'⟩:=hr.cons_inv
  obtain ⟨m1,κ1,y,g1,g2,g3,g4,g5⟩:=dataOf_runs hs hx h
  obtain ⟨m2,κ2,ds,q1,q2,q3,q4,q5⟩:=dataList_runs cs _ _ _ vs' v m' g1 (hr'.mono g2) g5
  refine ⟨m2,κ2,_,q1,g2.trans q2,q3.trans g3,⟨by simp [q4.1],fun j d u hd hu=> ?_⟩,q5⟩
  cases j with
  | zero=> simp at hd hu;subst hd hu;exact q2.relD g4
  | succ j=> exact q4.2 j d u (by simpa using hd) (by simpa using hu)
def Src (κ:Cx) (es:List (List D)) (y:Value):Prop:=
 (es= []∧∃A' c,y= .slice A' 0 c)∨∃(b q c sz:Nat) (vs:Nat→Value),y= .slice (some ⟨b,q,none⟩) es.length c∧(∀e∈es,e.length=sz)∧(∀j,j < es.length * sz→κ.w.cell? ⟨b,q + j,none⟩=some (vs j))∧
  ∀(i j:Nat) (e:List D) (x:D),es[i]? =some e→e[j]? =some x→RelD κ.S κ.w x (vs (i * sz + j))
theorem elemsOf_runs {x:AV} {k:List (List D)→Step} {m:Mem} {κ:Cx} {u:Value} {v:AV} {m':Mem} (hs:Sim w0 A m κ) (hu:Rel κ x u) (h:(elemsOf x k).Runs F m v m'):
  ∃es,Src κ es u∧(k es).Runs F m v m':=by
 have rowSrc:∀(s g sz:Nat) (es:List (List D)) (ro:Bool),m.at_ s g=some (.rows sz es ro)→∀(b q n c:Nat),(κ.φ s g).blk=some b→q + n≤es.length→Src κ ((es.drop q).take n) (.slice (some ⟨b,q * (κ.φ s g).sz,none⟩) n c):=by
  intro s g sz es ro hi b q n c hb hqn
  obtain ⟨e1,e2,h3⟩:=hs.ok s g _ hi
  rcases h3 with ⟨h4,_⟩ | ⟨b',tt,cur,hb',hz,hh,hl,hm,hcs,hra⟩
  ·rw [h4] at hb;cases hb
  ·rw [hb] at hb'
   injection hb' with hb'
   subst hb'
   have hlen:((es.drop q).take n).length=n:=by simp;omega
   refine Or.inr ⟨b,q * (κ.φ s g).sz,c,sz,fun j=> cur.getD (q * sz + j) undef,by rw [hlen],fun e he=> e2 e (List.mem_of_mem_drop (List.mem_of_mem_take he)),fun j hj=> ?_,fun i j e x he hx=> ?_⟩
   ·rw [hlen] at hj
    rw [hz,cell_of_row _ _ _ cur tt (0,0) hh]
    have:q * sz + j < cur.size:=by
     rw [hcs]
     have h5:(q + n) * sz≤(κ.φ s g).cap * sz:=Nat.mul_le_mul_right _ (by omega)
     rw [Nat.add_mul] at h5
     omega
    rw [Array.getElem?_eq_getElem this]
    simp [Array.getD,this]
   ·rw [List.getElem?_take] at he
    split at he
    ·rw [List.getElem?_drop] at he
     obtain ⟨v,hv,hd⟩:=hra _ j e x he hx
     have:cur.getD (q * sz + (i * sz + j)) undef=v:=by
      rw [Nat.add_mul,Nat.add_assoc] at hv
      simp only [Array.getD_eq_getD_getElem?,hv,Option.getD_some]
     show RelD κ.S κ.w x (cur.getD (q * sz + (i * sz + j)) undef)
     rw [this]
     exact hd
    ·cases he
 cases x with
 | d y=>
  cases y with
  | v y=>
   unfold elemsOf at h
   split at h
   all_goals first
    | (rename_i he;cases he;done)
    | cases h;done
    | skip
   ·rename_i he
    injection he with he
    injection he with he
    subst he
    cases hu with
    | d hu=>
     cases hu with
     | v _ _=> exact ⟨[],Or.inl ⟨rfl,_,_,rfl⟩,h⟩
  | fz es=>
   cases hu with
   | d hu=>
    refine ⟨es,?_,h⟩
    cases hu with
    | fz0 A' c _=> exact Or.inl ⟨rfl,A',c,rfl⟩
    | fz _ b q sz c vs hs hb hcap hc hr=> exact Or.inr ⟨b,q,c,sz,vs,rfl,hs,hc,hr⟩
  | _=> cases h
 | nl=>
  cases hu with
  | nl A'=> exact ⟨[],Or.inl ⟨rfl,A',0,rfl⟩,h⟩
 | row s g n=>
  cases h with
  | rdr hi h=>
   refine ⟨_,?_,h⟩
   cases hu with
   | row0 A' hg hb hl=>
    have e:=(hs.ok s g _ hi).1
    rw [hl] at e
    exact Or.inl ⟨List.eq_nil_of_length_eq_zero e,A',0,rfl⟩
   | row hg hb=>
    have e:=(hs.ok s g _ hi).1
    have:=rowSrc s g _ _ _ hi _ 0 (κ.φ s g).len (κ.φ s g).cap hb (by omega)
    rw [Nat.zero_mul,List.drop_zero,←e,List.take_length] at this
    rw [←e]
    exact this
 | sub s g q n=>
  cases h with
  | rdr hi h=>
   refine ⟨_,?_,h⟩
   have e:=(hs.ok s g _ hi).1
   cases hu with
   | sub0 A' hg hb hl=> exact Or.inl ⟨by simp,A',0,rfl⟩
   | sub A' hg hb hA hn=>
    rcases hA with ⟨rfl,hA⟩ | rfl
    ·exact Or.inl ⟨by simp,A',_,rfl⟩
    ·exact rowSrc s g _ _ _ hi _ q n _ hb (by omega)
 | _=> cases h
def BlkOf (κ:Cx) (l:List (Nat×Nat)) (b:Nat):Prop:=∃p∈l,(κ.φ p.1 p.2).blk=some b
def RowsOf (m:Mem) (l:List (Nat×Nat)):Prop:=∀p∈l,∃i,m.at_ p.1 p.2=some i
theorem cx0_mono {S S':Nat→Prop} {w:World} (h:∀b,S b→S' b):(cx0 S w).Le (cx0 S' w):=⟨fun _=> Nat.le_refl _,fun _ _ _=> rfl,h,fun _ _=> rfl⟩
theorem mp_read {κ:Cx} {m:Mem} (hs:Sim w0 A m κ) {s g:Nat} {ck:CK} {es:List (Value×D)} (hi:m.at_ s g=some (.mapi ck es)) {u:Value} (hu:Rel κ (.mp s g) u) {S:Nat→Prop} (h1:∀b,κ.S b→S b) (h2:∀b,(κ.φ s g).blk=some b→S b):RelD S κ.w (.mz ck es) u:=by
 obtain ⟨b,ents,clock,hb,hh,hm,hst⟩:=hs.ok s g _ hi
 cases hu with
 | mp hg hb'=>
  rw [hb] at hb'
  injection hb' with e
  subst e
  exact .map_mk (h2 _ hb) hh hst ⟨hm.1,fun j p e hp he=> ⟨(hm.2 j p e hp he).1,(hm.2 j p e hp he).2.1.mono h1 (fun _ _=> rfl),(hm.2 j p e hp he).2.2⟩⟩
theorem map_block {m:Mem} {κ:Cx} (hs:Sim w0 A m κ) {s g:Nat} {ck:CK} {es:List (Value×D)} (hi:m.at_ s g=some (.mapi ck es)) {u:Value} (hu:Rel κ (.mp s g) u):∃b ents clock,u= .map (some b)∧(κ.φ s g).blk=some b∧κ.w.heap[b]? =some (.map ents clock)∧MapAt κ ck ents es∧MapKept.Stamped ents clock:=by
 obtain ⟨b,ents,clock,hb,hh,hm⟩:=hs.ok s g _ hi
 cases hu with
 | mp hg hb'=>
  rw [hb] at hb'
  injection hb' with hb'
  subst hb'
  exact ⟨_,_,_,rfl,hb,hh,hm⟩
theorem box_data {S:Nat→Prop} {w:World} {b o:Nat} {T:TypeId} {vs:Array Value} {ds:List D} (hh:w.heap[b]? =some (.cells vs T (0,0))) (g2:ds.length=(vs.toList.drop o).length) (g3:∀(j:Nat) (x:D) (u:Value),ds[j]? =some x→(vs.toList.drop o)[j]? =some u→RelD S w x u):
  (∀j,j < ds.length→w.cell? ⟨b,o + j,none⟩=some (((vs.toList.drop o)[j]?).getD undef))∧∀(j:Nat) (x:D),ds[j]? =some x→RelD S w x (((vs.toList.drop o)[j]?).getD undef):=by
 have cell:∀j,j < ds.length→∃y,(vs.toList.drop o)[j]? =some y∧w.cell? ⟨b,o + j,none⟩=some y:=by
  intro j hj
  rw [g2] at hj
  refine ⟨(vs.toList.drop o)[j],List.getElem?_eq_getElem hj,?_⟩
  rw [cell_of_row _ _ _ vs T (0,0) hh]
  have:=List.getElem?_eq_getElem hj
  rw [List.getElem?_drop] at this
  simp
 refine ⟨fun j hj=> ?_,fun j x hx=> ?_⟩
 ·obtain ⟨y,e1,e2⟩:=cell j hj
  rw [e2,e1]
  rfl
 ·have hj:j < ds.length:=(List.getElem?_eq_some_iff.1 hx).1
  obtain ⟨y,e1,e2⟩:=cell j hj
  rw [e1]
  exact g3 j x y hx e1
theorem blk_cons {κ:Cx} {p:Nat×Nat} {l:List (Nat×Nat)} {b:Nat} (h:κ.S b∨BlkOf κ l b):κ.S b∨BlkOf κ (p::l) b:=h.imp id fun ⟨q,hq,hb⟩=> ⟨q,by simp [hq],hb⟩
theorem blk_left {κ:Cx} {l l':List (Nat×Nat)} {b:Nat} (h:κ.S b∨BlkOf κ l b):κ.S b∨BlkOf κ (l ++ l') b:=h.imp id fun ⟨q,hq,hb⟩=> ⟨q,by simp [hq],hb⟩
theorem blk_right {κ:Cx} {l l':List (Nat×Nat)} {b:Nat} (h:κ.S b∨BlkOf κ l' b):κ.S b∨BlkOf κ (l ++ l') b:=h.imp id fun ⟨q,hq,hb⟩=> ⟨q,by simp [hq],hb⟩
theorem rows_cons {m:Mem} {p:Nat×Nat} {i:Inst} {l:List (Nat×Nat)} (h:m.at_ p.1 p.2=some i) (hl:RowsOf m l):RowsOf m (p::l):=fun q hq=> by
 rcases List.mem_cons.1 hq with rfl | hq
 ·exact ⟨_,h⟩
 ·exact hl q hq
theorem cells_cons {κ:Cx} {l:List (Nat×Nat)} {S:Nat→Prop} {x0:D} {u0:Value} {ds:List D} {vs:List Value} (h0:RelD S κ.w x0 u0) (hS:∀b,(κ.S b∨BlkOf κ l b)→S b) (h:∀(j:Nat) (x:D) (u:Value),ds[j]? =some x→vs[j]? =some u→RelD (fun b=> κ.S b∨BlkOf κ l b) κ.w x u):
  ∀(j:Nat) (x:D) (u:Value),(x0::ds)[j]? =some x→(u0::vs)[j]? =some u→RelD S κ.w x u:=by
 intro j x u hj hu
 cases j with
 | zero=>
  simp at hj hu
  subst hj hu
  exact h0
 | succ j=> exact (h j x u (by simpa using hj) (by simpa using hu)).mono hS (fun _ _=> rfl)
theorem cellL0_runs:∀(cs:List AV) (k:List D→List (Nat×Nat)→Step) (m:Mem) (κ:Cx) (vs:List Value) (v:AV) (m':Mem),Sim w0 A m κ→RelL κ cs vs→(cellL0 cs k).Runs F m v m'→
  ∃ds l,(k ds l).Runs F m v m'∧ds.length=vs.length∧(∀(j:Nat) (x:D) (u:Value),ds[j]? =some x→vs[j]? =some u→RelD (fun b=> κ.S b∨BlkOf κ l b) κ.w x u)∧RowsOf m l
 | [],k,m,κ,vs,v,m',hs,hr,h=> ⟨[],[],h,by rw [hr.nil_inv];rfl,fun j x u hj=> by simp at hj,fun p hp=> by simp at hp⟩
 | c::cs,k,m,κ,vs,v,m',hs,hr,h=> by
  obtain ⟨u0,vs',rfl,hx,hr'⟩:=hr.cons_inv
  cases c with
  | d y=>
   obtain ⟨ds,l,g1,g2,g3,g4⟩:=cellL0_runs cs _ m κ vs' v m' hs hr' h
   cases hx with
   | d hd=> exact ⟨_,_,g1,by simp [g2],cells_cons (hd.mono (fun _ h=> Or.inl h) (fun _ _=> rfl)) (fun b hb=> hb) g3,g4⟩
  | row s g n=>
   cases h with
   | rdr hi h=>
    obtain ⟨ds,l,g1,g2,g3,g4⟩:=cellL0_runs cs _ m κ vs' v m' hs hr' h
    exact ⟨_,_,g1,by simp [g2],cells_cons (row_read hs hi hx (fun _ h=> Or.inl h) (fun b hb=> Or.inr ⟨(s,g),by simp,hb⟩)).1 (fun b hb=> blk_cons hb) g3,rows_cons (p:=(s,g)) hi g4⟩
  | mp s g=>
   cases h with
   | rdm hi h=>
    obtain ⟨ds,l,g1,g2,g3,g4⟩:=cellL0_runs cs _ m κ vs' v m' hs hr' h
    exact ⟨_,_,g1,by simp [g2],cells_cons (mp_read hs hi hx (fun _ h=> Or.inl h) (fun b hb=> Or.inr ⟨(s,g),by simp,hb⟩)) (fun b hb=> blk_cons hb) g3,rows_cons (p:=(s,g)) hi g4⟩
  | _=> cases h
theorem cellL_runs:∀(cs:List AV) (k:List D→List (Nat×Nat)→Step) (m:Mem) (κ:Cx) (vs:List Value) (v:AV) (m':Mem),Sim w0 A m κ→RelL κ cs vs→(cellL cs k).Runs F m v m'→
  ∃ds l,(k ds l).Runs F m v m'∧ds.length=vs.length∧(∀(j:Nat) (x:D) (u:Value),ds[j]? =some x→vs[j]? =some u→RelD (fun b=> κ.S b∨BlkOf κ l b) κ.w x u)∧RowsOf m l
 | [],k,m,κ,vs,v,m',hs,hr,h=> ⟨[],[],h,by rw [hr.nil_inv];rfl,fun j x u hj=> by simp at hj,fun p hp=> by simp at hp⟩
 | c::cs,k,m,κ,vs,v,m',hs,hr,h=> by
  obtain ⟨u0,vs',rfl,hx,hr'⟩:=hr.cons_inv
  cases c with
  | d y=>
   obtain ⟨ds,l,g1,g2,g3,g4⟩:=cellL_runs cs _ m κ vs' v m' hs hr' h
   cases hx with
   | d hd=> exact ⟨_,_,g1,by simp [g2],cells_cons (hd.mono (fun _ h=> Or.inl h) (fun _ _=> rfl)) (fun b hb=> hb) g3,g4⟩
  | row s g n=>
   cases h with
   | rdr hi h=>
    obtain ⟨ds,l,g1,g2,g3,g4⟩:=cellL_runs cs _ m κ vs' v m' hs hr' h
    exact ⟨_,_,g1,by simp [g2],cells_cons (row_read hs hi hx (fun _ h=> Or.inl h) (fun b hb=> Or.inr ⟨(s,g),by simp,hb⟩)).1 (fun b hb=> blk_cons hb) g3,rows_cons (p:=(s,g)) hi g4⟩
  | mp s g=>
   cases h with
   | rdm hi h=>
    obtain ⟨ds,l,g1,g2,g3,g4⟩:=cellL_runs cs _ m κ vs' v m' hs hr' h
    exact ⟨_,_,g1,by simp [g2],cells_cons (mp_read hs hi hx (fun _ h=> Or.inl h) (fun b hb=> Or.inr ⟨(s,g),by simp,hb⟩)) (fun b hb=> blk_cons hb) g3,rows_cons (p:=(s,g)) hi g4⟩
  | fp cs1=>
   obtain ⟨ds,l,g1,g2,g3,g4⟩:=cellL_runs cs _ m κ vs' v m' hs hr' h
   cases hx with
   | fp us hb hc hrd=> exact ⟨_,_,g1,by simp [g2],cells_cons (.pz _ _ _ us (Or.inl hb) hc fun j x hx=> (hrd j x hx).mono (fun _ h=> Or.inl h) (fun _ _=> rfl)) (fun b hb=> hb) g3,g4⟩
  | lp s g o=>
   cases h with
   | rdb hi h=>
    obtain ⟨b,T,us,hb,hh,hn,hr⟩:=hs.ok s g _ hi
    have hL:=RelL.drop (κ:=κ) (cs:=_) (vs:=us.toList) ⟨by simpa using hn,fun j c u hc hu=> (hr j c u hc (by simpa using hu)).1⟩ o
    obtain ⟨ds0,l0,q1,q2,q3,q4⟩:=cellL0_runs _ _ m κ _ v m' hs hL h
    obtain ⟨ds,l,g1,g2,g3,g4⟩:=cellL_runs cs _ m κ vs' v m' hs hr' q1
    refine ⟨_,_,g1,by simp [g2],cells_cons ?_ (fun b hb=> blk_cons (blk_right hb)) g3,rows_cons (p:=(s,g)) hi fun p hp=> ?_⟩
    ·cases hx with
     | @lp _ _ _ b' hg hb'=>
      rw [hb] at hb'
      injection hb' with hb'
      subst hb'
      obtain ⟨e1,e2⟩:=box_data (S:=fun b=> κ.S b∨BlkOf κ ((s,g)::(l0 ++ l)) b) hh q2 fun j x u hx hu=> (q3 j x u hx hu).mono (fun b hb=> blk_cons (blk_left hb)) (fun _ _=> rfl)
      exact .pz _ _ _ _ (Or.inr ⟨(s,g),by simp,hb⟩) e1 e2
    ·rcases List.mem_append.1 hp with hp | hp
     ·exact q4 p hp
     ·exact g4 p hp
  | _=> cases h
theorem arg0_runs {x:AV} {k:AV→List (Nat×Nat)→Step} {m:Mem} {κ:Cx} {u:Value} {v:AV} {m':Mem} (hs:Sim w0 A m κ) (hu:Rel κ x u) (h:(arg0 x k).Runs F m v m'):
  ∃y l,(k y l).Runs F m v m'∧Rel (cx0 (fun b=> κ.S b∨BlkOf κ l b) κ.w) y u∧RowsOf m l:=by
 cases x with
 | d y=>
  cases hu with
  | d hu=> exact ⟨_,[],h,.d (hu.mono (fun _ h=> Or.inl h) (fun _ _=> rfl)),fun p hp=> by simp at hp⟩
 | nl=>
  cases hu with
  | nl A'=> exact ⟨_,[],h,.d (.fz0 _ _ fun _=> rfl),fun p hp=> by simp at hp⟩
 | row s g n=>
  cases h with
  | rdr hi h=> exact ⟨_,[(s,g)],h,.d (row_read hs hi hu (fun _ h=> Or.inl h) (fun b hb=> Or.inr ⟨(s,g),by simp,hb⟩)).1,fun p hp=> by simp at hp;subst hp;exact ⟨_,hi⟩⟩
 | sub s g o n=>
  cases h with
  | rdr hi h=> exact ⟨_,[(s,g)],h,.d (sub_read hs hi hu (fun _ h=> Or.inl h) (fun b hb=> Or.inr ⟨(s,g),by simp,hb⟩)).1,fun p hp=> by simp at hp;subst hp;exact ⟨_,hi⟩⟩
 | lp s g o=>
  cases h with
  | rdb hi h=>
   obtain ⟨b,T,vs,hb,hh,hn,hr⟩:=hs.ok s g _ hi
   have hL:=RelL.drop (κ:=κ) (cs:=_) (vs:=vs.toList) ⟨by simpa using hn,fun j c u hc hu=> (hr j c u hc (by simpa using hu)).1⟩ o
   obtain ⟨ds,l,g1,g2,g3,g4⟩:=cellL_runs _ _ m κ _ v m' hs hL h
   refine ⟨_,_,g1,?_,rows_cons (p:=(s,g)) hi g4⟩
   cases hu with
   | @lp _ _ _ b' hg hb'=>
    rw [hb] at hb'
    injection hb' with hb'
    subst hb'
    obtain ⟨e1,e2⟩:=box_data (S:=fun b=> κ.S b∨BlkOf κ ((s,g)::l) b) hh g2 fun j x u hx hu=> (g3 j x u hx hu).mono (fun b hb=> blk_cons hb) (fun _ _=> rfl)
    exact .fp _ (Or.inr ⟨(s,g),by simp,hb⟩) e1 e2
 | fp ds=>
  cases hu with
  | fp vs hb hc hr=> exact ⟨_,[],h,.fp vs (Or.inl hb) hc fun j x hx=> (hr j x hx).mono (fun _ h=> Or.inl h) (fun _ _=> rfl),fun p hp=> by simp at hp⟩
 | _=> cases h
theorem argL_runs:∀(cs:List AV) (k:List AV→List (Nat×Nat)→Step) (m:Mem) (κ:Cx) (vs:List Value) (v:AV) (m':Mem),Sim w0 A m κ→RelL κ cs vs→(argL cs k).Runs F m v m'→
  ∃ys l,(k ys l).Runs F m v m'∧RelL (cx0 (fun b=> κ.S b∨BlkOf κ l b) κ.w) ys vs∧RowsOf m l
 | [],k,m,κ,vs,v,m',hs,hr,h=> ⟨[],[],h,by rw [hr.nil_inv];exact .nil _,fun p hp=> by simp at hp⟩
 | c::cs,k,m,κ,vs,v,m',hs,hr,h=> by
  obtain ⟨x,vs',rfl,hx,hr'⟩:=hr.cons_inv
  obtain ⟨y,l,g1,g2,g3⟩:=arg0_runs hs hx h
  obtain ⟨ys,l',q1,q2,q3⟩:=argL_runs cs _ m κ vs' v m' hs hr' g1
  refine ⟨_,_,q1,.cons (g2.mono (cx0_mono fun b hb=> ?_)) (q2.mono (cx0_mono fun b hb=> ?_)),fun p hp=> ?_⟩
  ·rcases hb with hb | ⟨p,hp,hb⟩
   ·exact Or.inl hb
   ·exact Or.inr ⟨p,by simp [hp],hb⟩
  ·rcases hb with hb | ⟨p,hp,hb⟩
   ·exact Or.inl hb
   ·exact Or.inr ⟨p,by simp [hp],hb⟩
  ·rcases List.mem_append.1 hp with hp | hp
   ·exact g3 p hp
   ·exact q3 p hp
theorem arg1_runs {x:AV} {k:AV→List (Nat×Nat)→Step} {m:Mem} {κ:Cx} {u:Value} {v:AV} {m':Mem} (hs:Sim w0 A m κ) (hu:Rel κ x u) (h:(arg1 x k).Runs F m v m'):
  ∃y l,(k y l).Runs F m v m'∧Rel (cx0 (fun b=> κ.S b∨BlkOf κ l b) κ.w) y u∧RowsOf m l:=by
 cases x with
 | fn f cs=>
  cases hu with
  | @fn _ _ vs hl hh=>
   obtain ⟨ys,l,g1,g2,g3⟩:=argL_runs cs _ m κ vs.toList v m' hs ⟨by simpa using hl,fun j c y hc hy=> hh j c y hc (by simpa using hy)⟩ h
   exact ⟨_,l,g1,.fn (by have:=g2.1;simpa using this) fun j c y hc hy=> g2.2 j c y hc (by simpa using hy),g3⟩
 | _=> exact arg0_runs hs hu h
theorem argT_runs:∀(cs:List (Option AV)) (k:List AV→List (Nat×Nat)→Step) (m:Mem) (κ:Cx) (vs:List Value) (v:AV) (m':Mem),Sim w0 A m κ→vs.length=cs.length→
  (∀(j:Nat) (c:AV) (u:Value),cs[j]? =some (some c)→vs[j]? =some u→Rel κ c u)→(argT cs k).Runs F m v m'→
  ∃ys l,(k ys l).Runs F m v m'∧RelL (cx0 (fun b=> κ.S b∨BlkOf κ l b) κ.w) ys vs∧RowsOf m l
 | [],k,m,κ,vs,v,m',hs,hn,hr,h=> ⟨[],[],h,by rw [List.eq_nil_of_length_eq_zero hn];exact .nil _,fun p hp=> by simp at hp⟩
 | none::cs,k,m,κ,vs,v,m',hs,hn,hr,h=> by cases h
 | some c::cs,k,m,κ,vs,v,m',hs,hn,hr,h=> by
  cases vs with
  | nil=> simp at hn
  | cons x vs'=>
  have hx:=hr 0 c x rfl rfl
  have hr':∀(j:Nat) (c:AV) (u:Value),cs[j]? =some (some c)→vs'[j]? =some u→Rel κ c u:=fun j d u hd hu=> hr (j + 1) d u (by simpa using hd) (by simpa using hu)
  have key:∃(y:AV) (l:List (Nat×Nat)),(argT cs fun xs m=> k (y::xs) (l ++ m)).Runs F m v m'∧Rel (cx0 (fun b=> κ.S b∨BlkOf κ l b) κ.w) y x∧RowsOf m l:=by
   by_cases hc:∃ds,c= .agg ds
   ·obtain ⟨ds,rfl⟩:=hc
    obtain ⟨us,rfl,hus⟩:=hx.agg_inv
    obtain ⟨ys,l,g1,g2,g3⟩:=argL_runs ds _ m κ us.toList v m' hs hus h
    exact ⟨.agg ys,l,g1,by have:=Rel.agg_mk g2;simpa using this,g3⟩
   ·have e:argT (some c::cs) k=arg1 c fun x l=> argT cs fun xs m=> k (x::xs) (l ++ m):=by
     cases c <;> first | rfl | exact absurd ⟨_,rfl⟩ hc
    rw [e] at h
    exact arg1_runs hs hx h
  obtain ⟨y,l,g1,g2,g3⟩:=key
  obtain ⟨ys,l',q1,q2,q3⟩:=argT_runs cs _ m κ vs' v m' hs (by simpa using hn) hr' g1
  refine ⟨_,_,q1,.cons (g2.mono (cx0_mono fun b hb=> ?_)) (q2.mono (cx0_mono fun b hb=> ?_)),fun p hp=> ?_⟩
  ·rcases hb with hb | ⟨p,hp,hb⟩
   ·exact Or.inl hb
   ·exact Or.inr ⟨p,by simp [hp],hb⟩
  ·rcases hb with hb | ⟨p,hp,hb⟩
   ·exact Or.inl hb
   ·exact Or.inr ⟨p,by simp [hp],hb⟩
  ·rcases List.mem_append.1 hp with hp | hp
   ·exact g3 p hp
   ·exact q3 p hp
theorem arg0W_runs {x:AV} {k:AV→List (Nat×Nat)→Step} {m:Mem} {κ:Cx} {u:Value} {v:AV} {m':Mem} (hs:Sim w0 A m κ) (hu:Rel κ x u) (h:(arg0W x k).Runs F m v m'):
  ∃y l,(k y l).Runs F m v m'∧Rel (cx0 (fun b=> κ.S b∨BlkOf κ l b) κ.w) y u∧RowsOf m l:=by
 cases x with
 | lp s g o=>
  cases h with
  | rdb hi h=>
   obtain ⟨b,T,vs,hb,hh,hn,hr⟩:=hs.ok s g _ hi
   have hL:=RelL.drop (κ:=κ) (cs:=_) (vs:=vs.toList) ⟨by simpa using hn,fun j c u hc hu=> (hr j c u hc (by simpa using hu)).1⟩ o
   obtain ⟨ds,l,g1,g2,g3,g4⟩:=cellL_runs _ _ m κ _ v m' hs hL h
   refine ⟨_,_,g1,?_,rows_cons (p:=(s,g)) hi g4⟩
   cases hu with
   | @lp _ _ _ b' hg hb'=>
    rw [hb] at hb'
    injection hb' with hb'
    subst hb'
    obtain ⟨e1,e2⟩:=box_data (S:=fun b=> κ.S b∨BlkOf κ ((s,g)::l) b) hh g2 fun j x u hx hu=> (g3 j x u hx hu).mono (fun b hb=> blk_cons hb) (fun _ _=> rfl)
    exact .fp _ (Or.inr ⟨(s,g),by simp,hb⟩) e1 e2
 | _=> exact arg0_runs hs hu h
theorem argLW_runs:∀(cs:List AV) (k:List AV→List (Nat×Nat)→Step) (m:Mem) (κ:Cx) (vs:List Value) (v:AV) (m':Mem),Sim w0 A m κ→RelL κ cs vs→(argLW cs k).Runs F m v m'→
  ∃ys l,(k ys l).Runs F m v m'∧RelL (cx0 (fun b=> κ.S b∨BlkOf κ l b) κ.w) ys vs∧RowsOf m l
 | [],k,m,κ,vs,v,m',hs,hr,h=> ⟨[],[],h,by rw [hr.nil_inv];exact .nil _,fun p hp=> by simp at hp⟩
 | c::cs,k,m,κ,vs,v,m',hs,hr,h=> by
  obtain ⟨x,vs',rfl,hx,hr'⟩:=hr.cons_inv
  obtain ⟨y,l,g1,g2,g3⟩:=arg0W_runs hs hx h
  obtain ⟨ys,l',q1,q2,q3⟩:=argLW_runs cs _ m κ vs' v m' hs hr' g1
  refine ⟨_,_,q1,.cons (g2.mono (cx0_mono fun b hb=> ?_)) (q2.mono (cx0_mono fun b hb=> ?_)),fun p hp=> ?_⟩
  ·rcases hb with hb | ⟨p,hp,hb⟩
   ·exact Or.inl hb
   ·exact Or.inr ⟨p,by simp [hp],hb⟩
  ·rcases hb with hb | ⟨p,hp,hb⟩
   ·exact Or.inl hb
   ·exact Or.inr ⟨p,by simp [hp],hb⟩
  ·rcases List.mem_append.1 hp with hp | hp
   ·exact g3 p hp
   ·exact q3 p hp
theorem arg1W_runs {x:AV} {k:AV→List (Nat×Nat)→Step} {m:Mem} {κ:Cx} {u:Value} {v:AV} {m':Mem} (hs:Sim w0 A m κ) (hu:Rel κ x u) (h:(arg1W x k).Runs F m v m'):
  ∃y l,(k y l).Runs F m v m'∧Rel (cx0 (fun b=> κ.S b∨BlkOf κ l b) κ.w) y u∧RowsOf m l:=by
 cases x with
 | fn f cs=>
  cases hu with
  | @fn _ _ vs hl hh=>
   obtain ⟨ys,l,g1,g2,g3⟩:=argLW_runs cs _ m κ vs.toList v m' hs ⟨by simpa using hl,fun j c y hc hy=> hh j c y hc (by simpa using hy)⟩ h
   exact ⟨_,l,g1,.fn (by have:=g2.1;simpa using this) fun j c y hc hy=> g2.2 j c y hc (by simpa using hy),g3⟩
 | _=> exact arg0_runs hs hu h
theorem argTW_runs:∀(cs:List (Option AV)) (k:List AV→List (Nat×Nat)→Step) (m:Mem) (κ:Cx) (vs:List Value) (v:AV) (m':Mem),Sim w0 A m κ→vs.length=cs.length→
  (∀(j:Nat) (c:AV) (u:Value),cs[j]? =some (some c)→vs[j]? =some u→Rel κ c u)→(argTW cs k).Runs F m v m'→
  ∃ys l,(k ys l).Runs F m v m'∧RelL (cx0 (fun b=> κ.S b∨BlkOf κ l b) κ.w) ys vs∧RowsOf m l
 | [],k,m,κ,vs,v,m',hs,hn,hr,h=> ⟨[],[],h,by rw [List.eq_nil_of_length_eq_zero hn];exact .nil _,fun p hp=> by simp at hp⟩
 | none::cs,k,m,κ,vs,v,m',hs,hn,hr,h=> by cases h
 | some c::cs,k,m,κ,vs,v,m',hs,hn,hr,h=> by
  cases vs with
  | nil=> simp at hn
  | cons x vs'=>
  have hx:=hr 0 c x rfl rfl
  have hr':∀(j:Nat) (c:AV) (u:Value),cs[j]? =some (some c)→vs'[j]? =some u→Rel κ c u:=fun j d u hd hu=> hr (j + 1) d u (by simpa using hd) (by simpa using hu)
  have key:∃(y:AV) (l:List (Nat×Nat)),(argTW cs fun xs m=> k (y::xs) (l ++ m)).Runs F m v m'∧Rel (cx0 (fun b=> κ.S b∨BlkOf κ l b) κ.w) y x∧RowsOf m l:=by
   by_cases hc:∃ds,c= .agg ds
   ·obtain ⟨ds,rfl⟩:=hc
    obtain ⟨us,rfl,hus⟩:=hx.agg_inv
    obtain ⟨ys,l,g1,g2,g3⟩:=argL_runs ds _ m κ us.toList v m' hs hus h
    exact ⟨.agg ys,l,g1,by have:=Rel.agg_mk g2;simpa using this,g3⟩
   ·have e:argTW (some c::cs) k=arg1W c fun x l=> argTW cs fun xs m=> k (x::xs) (l ++ m):=by
     cases c <;> first | rfl | exact absurd ⟨_,rfl⟩ hc
    rw [e] at h
    exact arg1W_runs hs hx h
  obtain ⟨y,l,g1,g2,g3⟩:=key
  obtain ⟨ys,l',q1,q2,q3⟩:=argTW_runs cs _ m κ vs' v m' hs (by simpa using hn) hr' g1
  refine ⟨_,_,q1,.cons (g2.mono (cx0_mono fun b hb=> ?_)) (q2.mono (cx0_mono fun b hb=> ?_)),fun p hp=> ?_⟩
  ·rcases hb with hb | ⟨p,hp,hb⟩
   ·exact Or.inl hb
   ·exact Or.inr ⟨p,by simp [hp],hb⟩
  ·rcases hb with hb | ⟨p,hp,hb⟩
   ·exact Or.inl hb
   ·exact Or.inr ⟨p,by simp [hp],hb⟩
  ·rcases List.mem_append.1 hp with hp | hp
   ·exact g3 p hp
   ·exact q3 p hp
theorem frzL_runs:∀(l:List (Nat×Nat)) (k:Step) (m:Mem) (κ:Cx) (v:AV) (m':Mem),Sim w0 A m κ→(frzL l k).Runs F m v m'→
  ∃m1 S1,Sim w0 A m1 {κ with S:=S1}∧κ.Le {κ with S:=S1}∧(∀b,S1 b↔κ.S b∨BlkOf κ l b)∧(∀s g i,m1.at_ s g=some i→∃i',m.at_ s g=some i')∧k.Runs F m1 v m'
 | [],k,m,κ,v,m',hs,h=> ⟨m,κ.S,hs,.refl κ,fun b=> by simp [BlkOf],fun s g i hi=> ⟨i,hi⟩,h⟩
 | (s,g)::l,k,m,κ,v,m',hs,h=> by
  cases h with
  | frz hi h=>
   obtain ⟨h1,h2⟩:=hs.frz hi
   obtain ⟨m1,S1,q1,q2,q3,q4,q5⟩:=frzL_runs l k _ _ v m' h1 h
   refine ⟨m1,S1,q1,h2.trans q2,fun b=> ?_,fun x y i hx=> ?_,q5⟩
   ·rw [q3 b]
    constructor
    ·rintro ((hb | hb) | ⟨p,hp,hb⟩)
     ·exact Or.inl hb
     ·exact Or.inr ⟨(s,g),by simp,hb⟩
     ·exact Or.inr ⟨p,by simp [hp],hb⟩
    ·rintro (hb | ⟨p,hp,hb⟩)
     ·exact Or.inl (Or.inl hb)
     ·rcases List.mem_cons.1 hp with rfl | hp
      ·exact Or.inl (Or.inr hb)
      ·exact Or.inr ⟨p,hp,hb⟩
   ·obtain ⟨i',hi'⟩:=q4 x y i hx
    rw [setAt] at hi'
    split at hi'
    ·rename_i hxy
     obtain ⟨rfl,rfl⟩:=hxy
     exact ⟨_,hi⟩
    ·exact ⟨_,hi'⟩
theorem OwnAt.mono {S S':Nat→Prop} {w:World} (hS:∀b,S b→S' b) {sz:Nat} {es:List (List D)} {v:Value} {b:Option Nat} (h:OwnAt S w sz es v b):OwnAt S' w sz es v b:=by
 refine ⟨h.1,h.2.imp id ?_⟩
 rintro ⟨g,T,cur,cap,q1,q2,q3,q4,q5,q6,q7⟩
 exact ⟨g,T,cur,cap,q1,q2,q3,q4,q5,q6,fun i j e x he hx=> let ⟨v,hv,hd⟩:=q7 i j e x he hx;⟨v,hv,hd.mono hS (fun _ _=> rfl)⟩⟩
theorem Res1.mono {S S':Nat→Prop} {w:World} (hS:∀b,S b→S' b) {x:AV} {v:Value} {b:Option Nat} (h:Res1 S w x v b):Res1 S' w x v b:=by
 cases x with
 | ow sz es=> exact OwnAt.mono hS h
 | d x=> exact ⟨h.1.mono hS (fun _ _=> rfl),h.2⟩
 | _=> exact h
theorem ResL.mono {S S':Nat→Prop} {w:World} (hS:∀b,S b→S' b):∀{cs:List AV} {vs:List Value} {bs:List (Option Nat)},ResL S w cs vs bs→ResL S' w cs vs bs
 | [],_,_,h=> h
 | _::_,_,_,⟨v,vs',b,b2,h1,h2,h3,h4⟩=> ⟨v,vs',b,b2,h1,h2,h3.mono hS,ResL.mono hS h4⟩
theorem ResC.mono {S S':Nat→Prop} {w:World} (hS:∀b,S b→S' b) {x:AV} {v:Value} {bs:List (Option Nat)} (h:ResC S w x v bs):ResC S' w x v bs:=by
 cases x with
 | agg cs=> exact let ⟨xs,h1,h2⟩:=h;⟨xs,h1,h2.mono hS⟩
 | _=> exact let ⟨b,h1,h2⟩:=h;⟨b,h1,h2.mono hS⟩
theorem ResT.mono {S S':Nat→Prop} {w:World} (hS:∀b,S b→S' b):∀{cs:List AV} {vs:List Value} {bs:List (Option Nat)},ResT S w cs vs bs→ResT S' w cs vs bs
 | [],_,_,h=> h
 | _::_,_,_,⟨v,vs',b,b2,h1,h2,h3,h4⟩=> ⟨v,vs',b,b2,h1,h2,h3.mono hS,ResT.mono hS h4⟩
theorem Res.mono {S S':Nat→Prop} {w:World} (hS:∀b,S b→S' b) {x:AV} {v:Value} {bs:List (Option Nat)} (h:Res S w x v bs):Res S' w x v bs:=by
 have hc:= @ResC.mono S S' w hS x v bs
 cases x with
 | tup cs=> exact let ⟨xs,h1,h2⟩:=h;⟨xs,h1,h2.mono hS⟩
 | _=> exact hc h
def Free (w0:Start) (m:Mem) (κ:Cx) (b:Nat):Prop:=w0.New b∧b < κ.w.heap.size∧¬κ.S b∧∀s g i,m.at_ s g=some i→(κ.φ s g).blk≠some b
theorem recv1_runs {s:Nat} {x:AV} {k:AV→Step} {m:Mem} {κ:Cx} {u:Value} {b:Option Nat} {v:AV} {m':Mem} (hs:Sim w0 A m κ) (hx:Res1 κ.S κ.w x u b) (hf:∀c,b=some c→Free w0 m κ c) (h:(recv1 s x k).Runs F m v m'):
  ∃m1 κ1 y,Sim w0 A m1 κ1∧κ.Le κ1∧κ1.w=κ.w∧κ1.S=κ.S∧Rel κ1 y u∧(k y).Runs F m1 v m'∧∀c,Free w0 m κ c→b≠some c→Free w0 m1 κ1 c:=by
 cases x with
 | d y=> exact ⟨m,κ,.d y,hs,.refl κ,rfl,rfl,.d hx.1,h,fun c hc _=> hc⟩
 | ow sz es=>
  cases h with
  | new h=>
   obtain ⟨h1,h2⟩:=hx
   have hgn:m.gen s + 1=κ.gn s + 1:=by rw [hs.gn]
   have fre:∀l:Loc,l.blk=b→∀c,Free w0 m κ c→b≠some c→Free w0 (m.add s (.rows sz es false)) (κ.put s l κ.w) c:=by
    intro l hl c hc hne
    refine ⟨hc.1,hc.2.1,hc.2.2.1,fun x y i hi e=> ?_⟩
    rw [addAt] at hi
    split at hi
    ·rename_i hxy
     obtain ⟨rfl,rfl⟩:=hxy
     rw [hgn,Cx.put_new,hl] at e
     exact hne e
    ·have hle:=κ.put_le s l κ.w (fun _ _=> rfl)
     rw [hle.φ x y (by rw [hs.gn];exact hs.gens x y i hi)] at e
     exact hc.2.2.2 x y i hi e
   rcases h2 with ⟨rfl,rfl,A',rfl⟩ | ⟨g,T,cur,cap,rfl,rfl,hh,hl,hm,hc,hr⟩
   ·obtain ⟨hs1,hle⟩:=hs.add (BelowD.refl _ _) s (.rows sz [] false) ⟨none,0,0,0⟩ (fun b hb=> by cases hb) rfl (fun _=> ⟨rfl,h1,Or.inl ⟨rfl,rfl⟩⟩)
    refine ⟨_,_,_,hs1,hle,rfl,rfl,?_,h,fre _ rfl⟩
    rw [hgn]
    exact .row0 A' (by rw [Cx.put_gn];exact Nat.le_refl _) (by rw [Cx.put_new]) (by rw [Cx.put_new])
   ·obtain ⟨hs1,hle⟩:=hs.add (BelowD.refl _ _) s (.rows sz es false) ⟨some g,cap,sz,es.length⟩ (fun b hb=> by injection hb with hb;subst hb;exact hf _ rfl) rfl
     (fun hle=> ⟨rfl,h1,Or.inr ⟨g,T,cur,rfl,rfl,hh,hl,hm,hc,fun i j e x he hx=> let ⟨v,hv,hd⟩:=hr i j e x he hx;⟨v,hv,hle.relD hd⟩⟩⟩)
    refine ⟨_,_,_,hs1,hle,rfl,rfl,?_,h,fre _ rfl⟩
    rw [hgn]
    have:=Rel.row (κ:=κ.put s ⟨some g,cap,sz,es.length⟩ κ.w) (s:=s) (g:=κ.gn s + 1) (b:=g) (by rw [Cx.put_gn];exact Nat.le_refl _) (by rw [Cx.put_new])
    rw [Cx.put_new] at this
    exact this
 | _=> exact hx.elim
theorem recvL_runs (s:Nat):∀(cs:List AV) (j:Nat) (k:List AV→Step) (m:Mem) (κ:Cx) (us:List Value) (bs:List (Option Nat)) (v:AV) (m':Mem),Sim w0 A m κ→ResL κ.S κ.w cs us bs→Apart bs→(∀c,some c∈bs→Free w0 m κ c)→(recvL s j cs k).Runs F m v m'→
  ∃m1 κ1 ys,Sim w0 A m1 κ1∧κ.Le κ1∧κ1.w=κ.w∧κ1.S=κ.S∧RelL κ1 ys us∧(k ys).Runs F m1 v m'∧∀c,Free w0 m κ c→some c∉bs→Free w0 m1 κ1 c
 | [],j,k,m,κ,us,bs,v,m',hs,hr,ha,hf,h=> ⟨m,κ,[],hs,.refl κ,rfl,rfl,by rw [hr.1];exact .nil _,h,fun c hc _=> hc⟩
 | x::cs,j,k,m,κ,us,bs,v,m',hs,⟨u,us',b,b2,e1,e2,hx,hr⟩,ha,hf,h=> by
  subst e1 e2
  obtain ⟨m1,κ1,y,g1,g2,g3,g4,g5,g6,g7⟩:=recv1_runs hs hx (fun c hc=> hf c (by simp [hc])) h
  have ha':Apart b2:=by
   unfold Apart at ha ⊢
   cases b with
   | none=> simpa using ha
   | some c=> simp at ha;exact ha.2
  have hnb:∀c,some c∈b2→b≠some c:=by
   intro c hc e
   subst e
   unfold Apart at ha
   simp at ha
   exact ha.1 hc
  obtain ⟨m2,κ2,ys,q1,q2,q3,q4,q5,q6,q7⟩:=recvL_runs s cs (j + 1) _ m1 κ1 us' b2 v m' g1 (by rw [g4,g3];exact hr) ha' (fun c hc=> g7 c (hf c (by simp [hc])) (hnb c hc)) g6
  refine ⟨m2,κ2,_,q1,g2.trans q2,q3.trans g3,q4.trans g4,.cons (g5.mono q2) q5,q6,fun c hc hn=> q7 c (g7 c hc fun e=> hn (by simp [e])) fun e=> hn (by simp [e])⟩
theorem recvC_runs {s:Nat} {x:AV} {k:AV→Step} {m:Mem} {κ:Cx} {u:Value} {bs:List (Option Nat)} {v:AV} {m':Mem} (hs:Sim w0 A m κ) (hx:ResC κ.S κ.w x u bs) (ha:Apart bs) (hf:∀c,some c∈bs→Free w0 m κ c)
  (h:(recvC s x k).Runs F m v m'):
  ∃m1 κ1 y,Sim w0 A m1 κ1∧κ.Le κ1∧κ1.w=κ.w∧κ1.S=κ.S∧Rel κ1 y u∧(k y).Runs F m1 v m'∧∀c,Free w0 m κ c→some c∉bs→Free w0 m1 κ1 c:=by
 by_cases hc:∃cs,x= .agg cs
 ·obtain ⟨cs,rfl⟩:=hc
  obtain ⟨xs,rfl,hx⟩:=hx
  obtain ⟨m1,κ1,ys,g1,g2,g3,g4,g5,g6,g7⟩:=recvL_runs s cs 0 _ m κ xs.toList bs v m' hs hx ha hf h
  exact ⟨m1,κ1,_,g1,g2,g3,g4,by have:=Rel.agg_mk g5;simpa using this,g6,g7⟩
 ·have hx':∃b,bs= [b]∧Res1 κ.S κ.w x u b:=by
   cases x <;> first | exact hx | exact absurd ⟨_,rfl⟩ hc
  obtain ⟨b,rfl,hx'⟩:=hx'
  have h':(recv1 s x k).Runs F m v m':=by
   cases x <;> first | exact h | exact absurd ⟨_,rfl⟩ hc
  obtain ⟨m1,κ1,y,g1,g2,g3,g4,g5,g6,g7⟩:=recv1_runs hs hx' (fun c hc=> hf c (by simp [hc])) h'
  exact ⟨m1,κ1,y,g1,g2,g3,g4,g5,g6,fun c hc hn=> g7 c hc fun e=> hn (by simp [e])⟩
theorem recvT_runs (s:Nat):∀(cs:List AV) (j:Nat) (k:List AV→Step) (m:Mem) (κ:Cx) (us:List Value) (bs:List (Option Nat)) (v:AV) (m':Mem),Sim w0 A m κ→ResT κ.S κ.w cs us bs→Apart bs→(∀c,some c∈bs→Free w0 m κ c)→(recvT s j cs k).Runs F m v m'→
  ∃m1 κ1 ys,Sim w0 A m1 κ1∧κ.Le κ1∧κ1.w=κ.w∧κ1.S=κ.S∧RelL κ1 ys us∧(k ys).Runs F m1 v m'
 | [],j,k,m,κ,us,bs,v,m',hs,hr,ha,hf,h=> ⟨m,κ,[],hs,.refl κ,rfl,rfl,by rw [hr.1];exact .nil _,h⟩
 | x::cs,j,k,m,κ,us,bs,v,m',hs,⟨u,us',b1,b2,e1,e2,hx,hr⟩,ha,hf,h=> by
  subst e1 e2
  have ha1:Apart b1:=by
   unfold Apart at ha ⊢
   rw [List.filterMap_append] at ha
   exact (List.nodup_append.1 ha).1
  have ha2:Apart b2:=by
   unfold Apart at ha ⊢
   rw [List.filterMap_append] at ha
   exact (List.nodup_append.1 ha).2.1
  have hnb:∀c,some c∈b2→some c∉b1:=by
   intro c hc hc1
   unfold Apart at ha
   rw [List.filterMap_append] at ha
   exact (List.nodup_append.1 ha).2.2 c (List.mem_filterMap.2 ⟨_,hc1,rfl⟩) c (List.mem_filterMap.2 ⟨_,hc,rfl⟩) rfl
  obtain ⟨m1,κ1,y,g1,g2,g3,g4,g5,g6,g7⟩:=recvC_runs (k:=fun y=> recvT s (j + 1) cs fun r=> k (y::r)) hs hx ha1 (fun c hc=> hf c (by simp [hc])) h
  obtain ⟨m2,κ2,ys,q1,q2,q3,q4,q5,q6⟩:=recvT_runs s cs (j + 1) _ m1 κ1 us' b2 v m' g1 (by rw [g4,g3];exact hr) ha2 (fun c hc=> g7 c (hf c (by simp [hc])) (hnb c hc)) g6
  exact ⟨m2,κ2,_,q1,g2.trans q2,q3.trans g3,q4.trans g4,.cons (g5.mono q2) q5,q6⟩
theorem recv_runs {s:Nat} {x:AV} {k:AV→Step} {m:Mem} {κ:Cx} {u:Value} {bs:List (Option Nat)} {v:AV} {m':Mem} (hs:Sim w0 A m κ) (hx:Res κ.S κ.w x u bs) (ha:Apart bs) (hf:∀c,some c∈bs→Free w0 m κ c) (h:(recv s x k).Runs F m v m'):
  ∃m1 κ1 y,Sim w0 A m1 κ1∧κ.Le κ1∧κ1.w=κ.w∧Rel κ1 y u∧(k y).Runs F m1 v m':=by
 by_cases hc:∃cs,x= .tup cs
 ·obtain ⟨cs,rfl⟩:=hc
  obtain ⟨xs,rfl,hx⟩:=hx
  obtain ⟨m1,κ1,ys,g1,g2,g3,g4,g5,g6⟩:=recvT_runs s cs 0 _ m κ xs.toList bs v m' hs hx ha hf h
  exact ⟨m1,κ1,_,g1,g2,g3,by have:=Rel.tup_mk g5;simpa using this,g6⟩
 ·have hx':ResC κ.S κ.w x u bs:=by
   cases x <;> first | exact hx | exact absurd ⟨_,rfl⟩ hc
  have h':(recvC s x k).Runs F m v m':=by
   cases x <;> first | exact h | exact absurd ⟨_,rfl⟩ hc
  obtain ⟨m1,κ1,y,g1,g2,g3,g4,g5,g6,g7⟩:=recvC_runs hs hx' ha hf h'
  exact ⟨m1,κ1,y,g1,g2,g3,g5,g6⟩
theorem scalar_res {S S':Nat→Prop} {w:World} {x:AV} {v:Value} {bs:List (Option Nat)} (hx:scalar x=true) (h:Res S w x v bs):Res S' w x v bs:=by
 have one:∀{y:AV} {v:Value} {b:Option Nat},(match y with | .d (.v _)=> true | _=> false)=true→Res1 S w y v b→Res1 S' w y v b:=by
  intro y v b hy h
  cases y with
  | d y=>
   cases y with
   | v z=>
    obtain ⟨h,e⟩:=h
    cases h with
    | v _ h=> exact ⟨.v _ h,e⟩
   | _=> cases hy
  | _=> cases hy
 have many:∀{cs:List AV} {vs:List Value} {bs:List (Option Nat)},cs.all (fun v=> match v with | .d (.v _)=> true | _=> false)=true→ResL S w cs vs bs→ResL S' w cs vs bs:=by
  intro cs
  induction cs with
  | nil=> exact fun _ h=> h
  | cons c cs ih=>
   rintro vs bs hc ⟨v,vs',b,b2,h1,h2,h3,h4⟩
   simp only [List.all_cons,Bool.and_eq_true] at hc
   exact ⟨v,vs',b,b2,h1,h2,one hc.1 h3,ih hc.2 h4⟩
 have manyT:∀{cs:List AV} {vs:List Value} {bs:List (Option Nat)},cs.all (fun v=> match v with | .d (.v _)=> true | _=> false)=true→ResT S w cs vs bs→ResT S' w cs vs bs:=by
  intro cs
  induction cs with
  | nil=> exact fun _ h=> h
  | cons c cs ih=>
   rintro vs bs hc ⟨v,vs',b,b2,h1,h2,h3,h4⟩
   simp only [List.all_cons,Bool.and_eq_true] at hc
   refine ⟨v,vs',b,b2,h1,h2,?_,ih hc.2 h4⟩
   have hc1:=hc.1
   cases c with
   | d y=> exact let ⟨b,e,h⟩:=h3;⟨b,e,one hc1 h⟩
   | _=> cases hc1
 cases x with
 | d y=> exact let ⟨b,e,h⟩:=h;⟨b,e,one (by cases y <;> first | rfl | cases hx) h⟩
 | tup cs=> exact let ⟨xs,e,h⟩:=h;⟨xs,e,manyT hx h⟩
 | agg cs=> exact let ⟨xs,e,h⟩:=h;⟨xs,e,many hx h⟩
 | _=> cases hx
end
end Go.Proofs.YtmgcnoigihdhpaaGreatDoor
namespace Go.Proofs.YtmgcnoigihdhpaaGreatDoor
open Go.RowKit
def SizeIs (P:Program) (t n:Nat):Prop:=(P.info? t).map (·.size)=some n
def KOk (P:Program):TK→TypeDesc→Prop
 | .int k,d=> d= .int k
 | .bool,d=> d= .bool
 | .str,d=> d= .string
 | .slice e sz,d=> d= .slice e∧SizeIs P e sz
 | .array n e sz,d=> d= .array n e∧SizeIs P e sz
 | .struct fs,d=> ∃fields,d= .struct fields∧fields.toList.map (fun f=> (f.offset,f.type))=fs.map (fun x=> (x.1,x.2.1))∧∀x∈fs,SizeIs P x.2.1 x.2.2
 | .map kt et,d=> d= .map kt et
 | .ptr,d=> ∃e,d= .pointer e
 | .other,_=> True
 | .none_,_=> True
structure EqS (P:Program) (t:Nat) (ek:List CK):Prop where
 eq:∀(w:World) (xs ys:Array Value) (cs ds:List AV) (b:Bool) (x y:Operand) (κ:Cx),RelL κ cs xs.toList→RelL κ ds ys.toList→eqCells ek cs ds=some b→
  (eqGuard .eql t x y (.agg xs) (.agg ys)).run P w= .ok () w∧(eqGuard .neq t x y (.agg xs) (.agg ys)).run P w= .ok () w∧(Op.equal t (.agg xs) (.agg ys)).run P w= .ok b w
 key:ek.all isI64=true→∀(w:World) (e:Bool) (xs:Array Value),xs.toList.length=ek.length→xs.toList.all i64V=true→(Instr.checkKey e 10000 t (.agg xs)).run P w= .ok () w
structure TOk1 (P:Program) (t:Nat) (ti:TI):Prop where
 info:∃i,P.info? t=some i∧i.size=ti.size∧i.bytes=ti.bytes∧i.zero=some ti.zero
 und:∃d,P.underlying t=some d∧d.isRow=ti.agg∧KOk P ti.k d
 zok:okConst ti.zero=true
 zsz:ti.zero.cells.size=ti.size
 eq:ti.eqs=true→EqS P t ti.ek
def TOk (P:Program) (T:Nat→TI):Prop:=∀t,(T t).known=true→TOk1 P t (T t)
theorem TOk.of {P:Program} {T:Nat→TI} (h:TOk P T) {t:Nat} {k:TK} (hk:(T t).k=k) (hn:k≠ .none_):TOk1 P t (T t):=h t (by
 unfold TI.known
 rw [hk]
 cases k <;> first | rfl | exact absurd rfl hn)
theorem TOk.kok {P:Program} {T:Nat→TI} (h:TOk P T) {t:Nat} {k:TK} (hk:(T t).k=k) (hn:k≠ .none_):∃d,P.underlying t=some d∧KOk P k d:=by
 obtain ⟨d,h1,_,h2⟩:=(h.of hk hn).und
 rw [hk] at h2
 exact ⟨d,h1,h2⟩
section
variable {P : Program} {o : Oper} {a : Act} {w w' : World} {K : Act → World → Prop} {Q : Exit → Act → World → Prop}
theorem wp_val {x:Value} (h:(execOp a.eval o).run P w= .ok (.value x) w') (hk:K (a.put o.dst x) w'):o.wp P a w K Q:=by
 unfold Oper.wp
 rw [h]
 exact hk
theorem wp_skp (h:(execOp a.eval o).run P w= .ok .skip w') (hk:K (a.put o.dst undef) w'):o.wp P a w K Q:=by
 unfold Oper.wp
 rw [h]
 exact hk
theorem run_load_one {t:TypeId} {d:TypeDesc} (hu:P.underlying t=some d) (hd:d.isRow=false) {b q:Nat} {v:Value} (hc:w.cell? ⟨b,q,none⟩=some v):
  (Instr.loadAt t (.pointer (some ⟨b,q,none⟩))).run P w= .ok v w:=by
 have hagg:(isAgg t).run P w= .ok false w:=by
  unfold isAgg
  rw [Sem.run_bind,run_underlying hu w]
  cases d <;> simp_all
 simp [Instr.loadAt,Instr.sureAddr,loadVar,hagg,hc]
theorem run_part {t:TypeId} {d:TypeDesc} (hu:P.underlying t=some d) {n:Nat} (hn:SizeIs P t n) (cs:Array Value) (off:Nat):
  (part t cs off).run P w=if d.isRow then .ok (.agg (cs.extract off (off + n))) w else (match cs[off]? with | some v=> .ok v w | none=> .halt (.stuck "part: no such cell") w):=by
 have hagg:(isAgg t).run P w= .ok d.isRow w:=by
  unfold isAgg
  rw [Sem.run_bind,run_underlying hu w]
  cases d <;> simp_all
 unfold SizeIs at hn
 cases hq:P.info? t with
 | none=> simp [hq] at hn
 | some i=>
  have hs:i.size=n:=by simpa [hq] using hn
  cases hr:d.isRow
  ·simp [part,hagg,hr]
   cases cs[off]? <;> simp [stuck]
  ·simp [part,hagg,hr,sizeOf,typeInfo,hq,hs]
end
theorem const1_rel (κ:Cx) (x:Value) (h:x.oneCell'=true):Rel κ (const1 x) x:=by
 unfold const1
 split
 ·exact .nl none
 ·exact .kb _
 ·exact .d (.v _ h)
theorem ofConst_rel (κ:Cx) (x:Value) (h:okConst x=true):Rel κ (ofConst x) x:=by
 have hk:=const1_rel κ x
 cases x with
 | agg cs=>
  simp only [okConst] at h
  refine .agg (by simp) fun j c v hc hv=> ?_
  rw [List.getElem?_map] at hc
  have hv':cs.toList[j]? =some v:=by simpa using hv
  rw [hv'] at hc
  injection hc with hc
  subst hc
  exact const1_rel κ v (List.all_eq_true.1 h v (List.mem_of_getElem? hv'))
 | tuple=> cases h
 | _=> exact hk h
theorem raw_rel {κ:Cx} {env:Nat→Option AV} {a:Act} (h:EnvOk κ env a.tmps) {x:Operand} {c:AV} (hx:rawOf env x=some c):Rel κ c (a.eval x):=by
 cases x with
 | tmp t=>
  obtain ⟨y,hy,hr⟩:=h t c hx
  have:a.eval (.tmp t)=y:=by
   show a.tmps.getD t undef=y
   rw [Array.getD_eq_getD_getElem?,hy]
   rfl
  rw [this]
  exact hr
 | const y=>
  simp only [rawOf] at hx
  cases hk:okConst y
  ·simp [hk] at hx
  ·simp [hk] at hx
   subst hx
   exact ofConst_rel κ y hk
 | func f=>
  simp only [rawOf] at hx
  injection hx with hx
  subst hx
  exact .fn rfl fun j c v hc=> by simp at hc
 | global g=> simp [rawOf] at hx
theorem ev_rel {κ:Cx} {env:Nat→Option AV} {a:Act} (h:EnvOk κ env a.tmps) {x:Operand} {c:AV} (hx:rhoOf env x=some c):Rel κ c (a.eval x):=by
 unfold rhoOf at hx
 cases hq:rawOf env x with
 | none=> rw [hq] at hx;cases hx
 | some q=>
  rw [hq] at hx
  injection hx with hx
  subst hx
  exact (raw_rel h hq).unk
def After (w0:Start) (A:Nat→Prop) (κ:Cx) (o:Oper) (v:AV) (m':Mem) (a a':Act) (w':World):Prop:=∃κ',κ'.w=w'∧Sim w0 A m' κ'∧κ.Le κ'∧∃x,a'=a.put o.dst x∧Rel κ' v x
section
variable {P : Program} {T : Nat → TI} {F : FuncId → List AV → AV → Prop} {w0 : Start} {A : Nat → Prop} {o : Oper} {a : Act} {κ : Cx} {m m' : Mem} {v : AV} {Q : Exit → Act → World → Prop}
theorem After.pure_ (hs:Sim w0 A m κ) {x:Value} (hx:Rel κ v x):After w0 A κ o v m a (a.put o.dst x) κ.w:=⟨κ,rfl,hs,.refl κ,x,rfl,hx⟩
theorem ldA_runs (hT:TOk P T) {t b q:Nat} {cs:List AV} {vs:List Value} (hr:RelL κ cs vs) (hw:κ.w.rangeAt b q vs) (h:(ldA (T t) cs).Runs F m v m'):
  ∃x,(Instr.loadAt t (.pointer (some ⟨b,q,none⟩))).run P κ.w= .ok x κ.w∧Rel κ v x∧m'=m:=by
 unfold ldA at h
 cases hk:(T t).known
 ·simp only [hk,Bool.not_false,cond_true] at h
  cases h
 ·simp only [hk,Bool.not_true,cond_false] at h
  have ht:=hT t hk
  obtain ⟨i,hi,hsz,_,_⟩:=ht.info
  obtain ⟨d,hu,hd,_⟩:=ht.und
  cases hg:(T t).agg
  ·simp only [hg,cond_false] at h
   cases cs with
   | nil=> cases h
   | cons c cs=>
    cases h with
    | ret=>
     obtain ⟨x,vs',rfl,hx,_⟩:=hr.cons_inv
     exact ⟨x,run_load_one hu (by rw [hd,hg]) (hw 0 x rfl),hx,rfl⟩
  ·simp only [hg,cond_true] at h
   cases hl:Nat.ble (T t).size cs.length
   ·simp only [hl,cond_false] at h
    cases h
   ·simp only [hl,cond_true] at h
    cases h with
    | ret=>
     have hl':(T t).size≤cs.length:=Nat.le_of_ble_eq_true hl
     refine ⟨.agg (vs.take (T t).size).toArray,run_loadAt_mid _ b q t _ d (fun j u hu'=> hw j u ?_) hu (by rw [hd,hg]) (by simp [hi,hsz,hr.1];omega),.agg_mk (hr.take _),rfl⟩
     rw [List.getElem?_take] at hu'
     split at hu'
     ·exact hu'
     ·cases hu'
theorem ldA_part (hT:TOk P T) {t off:Nat} {cs:List AV} {vs:Array Value} (hr:RelL κ cs vs.toList) (h:(ldA (T t) (cs.drop off)).Runs F m v m'):
  ∃x,(part t vs off).run P κ.w= .ok x κ.w∧Rel κ v x∧m'=m:=by
 unfold ldA at h
 cases hk:(T t).known
 ·simp only [hk,Bool.not_false,cond_true] at h
  cases h
 ·simp only [hk,Bool.not_true,cond_false] at h
  have ht:=hT t hk
  obtain ⟨i,hi,hsz,_,_⟩:=ht.info
  obtain ⟨d,hu,hd,_⟩:=ht.und
  have hrun:=run_part (P:=P) (w:=κ.w) hu (n:=(T t).size) (by simp [SizeIs,hi,hsz]) vs off
  rw [hd] at hrun
  cases hg:(T t).agg
  ·simp only [hg,cond_false] at h
   rw [hg] at hrun
   have hr':=hr.drop off
   generalize hcs:cs.drop off=cs' at h hr'
   cases cs' with
   | nil=> cases h
   | cons c cs'=>
    cases h with
    | ret=>
     obtain ⟨x,vs',hvs,hx,_⟩:=hr'.cons_inv
     have:vs[off]? =some x:=by
      have:=congrArg (·[0]?) hvs
      simpa using this
     rw [this] at hrun
     exact ⟨x,hrun,hx,rfl⟩
  ·simp only [hg,cond_true] at h
   cases hl:Nat.ble (T t).size (cs.drop off).length
   ·simp only [hl,cond_false] at h
    cases h
   ·simp only [hl,cond_true] at h
    cases h with
    | ret=>
     rw [hg] at hrun
     refine ⟨_,hrun,?_,rfl⟩
     have:=Rel.agg_mk ((hr.drop off).take (T t).size)
     have e:(vs.extract off (off + (T t).size))=((vs.toList.drop off).take (T t).size).toArray:=by
      apply Array.ext'
      simp [Array.toList_extract]
     rw [e]
     exact this
theorem relL_of_data {cs:List D} {vs:List Value} (hl:vs.length=cs.length) (h:∀(j:Nat) (x:D) (u:Value),cs[j]? =some x→vs[j]? =some u→RelD κ.S κ.w x u):RelL κ (cs.map dv) vs:=
 ⟨by simp [hl],fun j c u hc hu=> by
  rw [List.getElem?_map] at hc
  cases hx:cs[j]? with
  | none=> simp [hx] at hc
  | some x=>
   simp [hx] at hc
   subst hc
   exact .ofD (h j x u hx hu)⟩
theorem ldD_eq (t:TI) (cs:List D):ldD t cs=ldA t (cs.map dv):=by
 unfold ldD ldA
 cases t.known
 ·rfl
 ·simp only [Bool.not_true,cond_false]
  cases t.agg
  ·simp only [cond_false]
   cases cs <;> rfl
  ·simp [List.map_take]
variable {env : Nat → Option AV}
theorem sim_move (hs:Sim w0 A m κ) (he:EnvOk κ env a.tmps) {s sz:Nat} {x:Operand} (hrun:(execOp a.eval o).run P κ.w= .ok (.value (a.eval x)) κ.w) (h:(mvF s sz (rawOf env x)).Runs F m v m'):
  o.wp P a κ.w (fun a' w'=> After w0 A κ o v m' a a' w') Q:=by
 refine wp_val hrun ?_
 cases hx:rawOf env x with
 | none=> rw [hx] at h;cases h
 | some c=>
  have hr:=raw_rel he hx
  rw [hx] at h
  by_cases hc:c= .nl
  ·subst hc
   cases h with
   | new h=>
    cases h with
    | ret=>
     generalize a.eval x=y at hr
     cases hr with
     | nl A'=>
      obtain ⟨hs1,hle⟩:=hs.add (BelowD.refl _ _) s (.rows sz [] false) ⟨none,0,0,0⟩ (fun b hb=> by cases hb) rfl (fun _=> ⟨rfl,fun e he=> by simp at he,Or.inl ⟨rfl,rfl⟩⟩)
      refine ⟨κ.put s ⟨none,0,0,0⟩ κ.w,rfl,hs1,hle,_,rfl,?_⟩
      rw [←hs.gn]
      exact .row0 A' (by rw [Cx.put_gn];exact Nat.le_refl _) (by rw [Cx.put_new]) (by rw [Cx.put_new])
  ·have e:mvF s sz (some c)= .ret c:=by cases c <;> first | rfl | exact absurd rfl hc
   rw [e] at h
   cases h with
   | ret=> exact After.pure_ hs hr
theorem retO_runs {x:Option AV} (h:(retO x).Runs F m v m'):x=some v∧m'=m:=by
 cases x with
 | none=> cases h
 | some c=> cases h with | ret=> exact ⟨rfl,rfl⟩
theorem Rel.val {κ:Cx} {x u:Value} (h:Rel κ (.d (.v x)) u):u=x:=by
 cases h with
 | d h=> cases h with | v=> rfl
theorem pickF_inv {c x y:Option AV} (h:(pickF c x y).Runs F m v m'):∃t,(c=some (.d (.v (.bool t)))∨c=some (.kb t))∧(bif t then retO x else retO y).Runs F m v m':=by
 unfold pickF at h
 split at h
 ·exact ⟨true,Or.inr rfl,h⟩
 ·exact ⟨false,Or.inr rfl,h⟩
 ·cases h with
  | br h=> exact ⟨_,Or.inl rfl,h⟩
 ·cases h
theorem Rel.boolv {κ:Cx} {c:Option AV} {t:Bool} {u:Value} {d:AV} (hd:c=some d) (hc:c=some (.d (.v (.bool t)))∨c=some (.kb t)) (h:Rel κ d u):u= .bool t:=by
 subst hd
 rcases hc with hc | hc
 ·injection hc with hc;subst hc;exact h.val
 ·injection hc with hc;subst hc;cases h with | kb=> rfl
theorem sim_pick (hs:Sim w0 A m κ) (he:EnvOk κ env a.tmps) {c x y:Operand} (ho:o.op= .pick c x y) (h:(pickF (rawOf env c) (rawOf env x) (rawOf env y)).Runs F m v m'):
  o.wp P a κ.w (fun a' w'=> After w0 A κ o v m' a a' w') Q:=by
 obtain ⟨t,hc,h⟩:=pickF_inv h
 obtain ⟨d,hd⟩:∃d,rawOf env c=some d:=by rcases hc with hc | hc <;> exact ⟨_,hc⟩
 have hb:=Rel.boolv hd hc (raw_rel he hd)
 have hrun:(execOp a.eval o).run P κ.w= .ok (.value (if t then a.eval x else a.eval y)) κ.w:=by
  unfold execOp
  rw [ho]
  simp [hb,asBool]
 refine wp_val hrun ?_
 cases t
 ·obtain ⟨h1,rfl⟩:=retO_runs h
  exact After.pure_ hs (raw_rel he h1)
 ·obtain ⟨h1,rfl⟩:=retO_runs h
  exact After.pure_ hs (raw_rel he h1)
theorem run_newVar (t:TypeId) (x:Value) (w:World):(newVar t x).run P w= .ok ⟨w.heap.size,0,none⟩ (w.alloc (.cells x.cells t)):=by
 rfl
theorem boxF_runs (hs:Sim w0 A m κ) {ti:TI} {s t:Nat} {c:AV} {x:Value} (hx:Rel κ c x) (h:(boxF ti s c).Runs F m v m'):
  After w0 A κ o v m' a (a.put o.dst (.pointer (some ⟨κ.w.heap.size,0,none⟩))) (κ.w.alloc (.cells x.cells t)):=by
 unfold boxF at h
 cases h1:(cellsOf c).all isOne
 ·rw [h1] at h;cases h
 ·rw [h1] at h
  obtain ⟨hr,hone⟩:=hx.cells h1
  obtain ⟨m1,κ1,cs1,g1,g2,g3,g4,g5⟩:=settle_runs s ti.cz (cellsOf c) 0 _ m κ x.cells.toList v m' hs hr h
  cases g5 with
  | new g5=>
   cases g5 with
   | ret=>
    have hz:κ1.w.heap.size=κ.w.heap.size:=by rw [g3]
    obtain ⟨hs1,hle⟩:=g1.add (belowD_alloc κ1.w (.cells x.cells t)) s (.box cs1) ⟨some κ1.w.heap.size,0,0,0⟩ (fun b hb=> by injection hb with hb;subst hb;exact g1.fresh (Nat.le_refl _) (by simp)) rfl
     (fun hle=> ⟨κ1.w.heap.size,t,x.cells,rfl,heap_alloc_new _ _,by simpa using g4.1,fun j c u hc hu=> ⟨(g4.2 j c u hc (by simpa using hu)).mono hle,hone u (by rw [Array.mem_toList_iff];exact Array.mem_of_getElem? hu)⟩⟩)
    refine ⟨_,by show κ1.w.alloc _=_;rw [g3],hs1,g2.trans hle,_,rfl,?_⟩
    rw [←g1.gn,←hz]
    exact .lp (by rw [Cx.put_gn];exact Nat.le_refl _) (by rw [Cx.put_new])
theorem sim_alloc (hT:TOk P T) (hs:Sim w0 A m κ) {e s:Nat} (ho:o.op= .alloc e) (h:(allocF (T e) s).Runs F m v m'):o.wp P a κ.w (fun a' w'=> After w0 A κ o v m' a a' w') Q:=by
 unfold allocF at h
 cases hk:(T e).known
 ·rw [hk] at h;cases h
 ·rw [hk] at h
  have ht:=hT e hk
  obtain ⟨i,hi,_,_,hz⟩:=ht.info
  have hrun:(execOp a.eval o).run P κ.w= .ok (.value (.pointer (some ⟨κ.w.heap.size,0,none⟩))) (κ.w.alloc (.cells (T e).zero.cells e)):=by
   unfold execOp
   rw [ho]
   simp [Instr.alloc,zeroValue,typeInfo,hi,hz,run_newVar]
  exact wp_val hrun (boxF_runs hs (ofConst_rel κ _ ht.zok).unk h)
theorem sim_box (hs:Sim w0 A m κ) (he:EnvOk κ env a.tmps) {ti:TI} {e s:Nat} {x:Operand} (ho:o.op= .box e x) (h:(boxO ti s (rhoOf env x)).Runs F m v m'):o.wp P a κ.w (fun a' w'=> After w0 A κ o v m' a a' w') Q:=by
 cases hx:rhoOf env x with
 | none=> rw [hx] at h;cases h
 | some c=>
  rw [hx] at h
  have hrun:(execOp a.eval o).run P κ.w= .ok (.value (.pointer (some ⟨κ.w.heap.size,0,none⟩))) (κ.w.alloc (.cells (a.eval x).cells e)):=by
   unfold execOp
   rw [ho]
   simp [Instr.box,run_newVar]
  exact wp_val hrun (boxF_runs hs (ev_rel he hx) h)
end
end Go.Proofs.YtmgcnoigihdhpaaGreatDoor
namespace Go.Proofs.YtmgcnoigihdhpaaGreatDoor
open Go.RowKit
theorem over_nil {α:Type} (cs:List α) (o:Nat):over cs o []=cs:=by simp [over]
theorem over_get {α:Type} (cs:List α) (o:Nat) (vs:List α) (h:o + vs.length≤cs.length) (i:Nat):(over cs o vs)[i]? =if i < o then cs[i]? else if i < o + vs.length then vs[i - o]? else cs[i]? :=by
 unfold over
 rw [List.getElem?_append,List.getElem?_append]
 simp only [List.length_append,List.length_take]
 have e:min o cs.length=o:=by omega
 rw [e]
 by_cases h1:i < o
 ·rw [if_pos (by omega),if_pos h1,if_pos h1,List.getElem?_take_of_lt h1]
 ·by_cases h2:i < o + vs.length
  ·rw [if_pos h2,if_neg h1,if_neg h1,if_pos h2]
  ·rw [if_neg h2,if_neg h1,if_neg h2,List.getElem?_drop]
   congr 1
   omega
theorem over_cons {α:Type} (cs:List α) (o:Nat) (v:α) (vs:List α) (h:o + (vs.length + 1)≤cs.length):over (cs.set o v) (o + 1) vs=over cs o (v::vs):=by
 apply List.ext_getElem?
 intro i
 rw [over_get _ _ _ (by simp;omega),over_get _ _ _ (by simpa using h),List.getElem?_set,List.length_cons]
 by_cases h1:i < o
 ·rw [if_pos (by omega),if_pos h1,if_neg (by omega)]
 ·by_cases h2:i=o
  ·subst h2
   rw [if_pos (by omega),if_pos rfl,if_pos (by omega),if_neg (by omega),if_pos (by omega)]
   simp
  ·rw [if_neg (by omega),if_neg h1]
   by_cases h3:i < o + 1 + vs.length
   ·rw [if_pos h3,if_pos (by omega)]
    obtain ⟨k,hk⟩:∃k,i - o=k + 1:=⟨i - o - 1,by omega⟩
    rw [hk,List.getElem?_cons_succ]
    congr 1
    omega
   ·rw [if_neg h3,if_neg (by omega),if_neg (by omega)]
theorem over_length {α:Type} (cs:List α) (o:Nat) (vs:List α) (h:o + vs.length≤cs.length):(over cs o vs).length=cs.length:=by
 unfold over
 simp
 omega
theorem fold_over (off:Nat):∀(vs:List Value) (k:Nat) (cells:Array Value),off + k + vs.length≤cells.size→
  ((vs.zipIdx k).foldl (fun cs (p:Value×Nat)=> cs.setIfInBounds (off + p.2) p.1) cells).toList=over cells.toList (off + k) vs
 | [],k,cells,_=> by simp [over_nil]
 | v::vs,k,cells,h=> by
  rw [List.zipIdx_cons,List.foldl_cons,fold_over off vs (k + 1) _ (by simp at h ⊢;omega),Array.toList_setIfInBounds]
  rw [←Nat.add_assoc]
  exact over_cons _ _ _ _ (by simp at h ⊢;omega)
theorem fill_step (place:Nat→Option (Nat×Nat)) (cells:Array Value) (i:Nat) (x:Value) (r:List (Nat×Value)) {off n:Nat} (hp:place i=some (off,n)) (hn:x.cells.size=n) (hl:off + n≤cells.size):
  Instr.fill place cells ((i,x)::r)=Instr.fill place (over cells.toList off x.cells.toList).toArray r:=by
 rw [Instr.fill,hp]
 have h1:(decide (x.cells.size≠n) || decide (off + x.cells.size > cells.size))=false:=by simp [hn];omega
 simp only [h1,Bool.false_eq_true,if_false]
 congr 1
 apply Array.ext'
 have:=fold_over off x.cells.toList 0 cells (by simp [hn];omega)
 simp only [Nat.add_zero] at this
 rw [List.toList_toArray,←this,←Array.foldl_toList]
 simp
section
variable {P : Program} {T : Nat → TI} {F : FuncId → List AV → AV → Prop} {w0 : Start} {A : Nat → Prop} {o : Oper} {a : Act} {κ : Cx} {m m' : Mem} {v : AV} {Q : Exit → Act → World → Prop} {env : Nat → Option AV}
theorem fillA_sim (he:EnvOk κ env a.tmps) (place:Nat→Option (Nat×Nat)):∀(parts:List (Nat×Operand)) (cs:List AV) (vs:Array Value) (r:List AV),RelL κ cs vs.toList→
  fillA place cs (parts.map fun p=> (p.1,rhoOf env p.2))=some r→∃us,Instr.fill place vs (parts.map fun p=> (p.1,a.eval p.2))=some us∧RelL κ r us.toList
 | [],cs,vs,r,hr,h=> by
  simp only [List.map_nil,fillA] at h
  injection h with h
  subst h
  exact ⟨vs,rfl,hr⟩
 | (i,x)::parts,cs,vs,r,hr,h=> by
  simp only [List.map_cons] at h ⊢
  cases hx:rhoOf env x with
  | none=> rw [hx] at h;simp [fillA] at h
  | some c=>
   rw [hx] at h
   simp only [fillA] at h
   split at h
   ·rename_i off n hp
    cases hb:(Nat.beq (cellsOf c).length n && Nat.ble (off + n) cs.length && (cellsOf c).all isOne)
    ·rw [hb] at h;cases h
    ·rw [hb] at h
     simp only [Bool.and_eq_true] at hb
     obtain ⟨⟨h1,h2⟩,h3⟩:=hb
     have h1:=Nat.eq_of_beq_eq_true h1
     have h2:=Nat.le_of_ble_eq_true h2
     obtain ⟨hc,_⟩:=(ev_rel he hx).cells h3
     have hl:=hc.1
     have hl2:=hr.1
     rw [fill_step place vs i (a.eval x) _ hp (by rw [←h1];simpa using hl) (by rw [←hl2] at h2;simpa using h2)]
     rw [overF_eq _ _ _ (by omega)] at h
     exact fillA_sim he place parts _ _ r (by simpa using hr.over hc off) h
   ·cases h
theorem sim_build (hT:TOk P T) (hs:Sim w0 A m κ) (he:EnvOk κ env a.tmps) {t:Nat} {parts:Array (Nat×Operand)} (ho:o.op= .build t parts) (h:(buildF (T t) (parts.toList.map fun p=> (p.1,rhoOf env p.2))).Runs F m v m'):
  o.wp P a κ.w (fun a' w'=> After w0 A κ o v m' a a' w') Q:=by
 unfold buildF at h
 have hzr:∀(ht:TOk1 P t (T t)),(T t).agg=true→RelL κ (cellsOf (unk (ofConst (T t).zero))) (T t).zero.cells.toList:=by
  intro ht _
  have hr:=(ofConst_rel κ _ ht.zok).unk
  have hone:(cellsOf (unk (ofConst (T t).zero))).all isOne=true:=by
   have hzk:=ht.zok
   have one:∀x:Value,isOne (unk1 (const1 x))=true:=by
    intro x
    simp only [const1]
    split <;> rfl
   cases hz:(T t).zero with
   | agg cs=>
    simp only [ofConst,unk,cellsOf,List.map_map,List.all_map]
    rw [List.all_eq_true]
    intro x hx
    exact one x
   | tuple=> rw [hz] at hzk;cases hzk
   | slice b n c=>
    simp only [ofConst,const1]
    split <;> simp [cellsOf,isOne,unk,unk1]
   | _=> rfl
  exact (hr.cells hone).1
 have fin:∀(cells:Array Value) (r:List AV),P.built t (parts.map fun p=> (p.1,a.eval p.2)).toList=some cells→RelL κ r cells.toList→v= .agg r→m'=m→o.wp P a κ.w (fun a' w'=> After w0 A κ o v m' a a' w') Q:=by
  intro cells r hb hr e1 e2
  subst e1 e2
  have hrun:(execOp a.eval o).run P κ.w= .ok (.value (.agg cells)) κ.w:=by
   unfold execOp
   rw [ho]
   simp only [Sem.run_bind,run_build κ.w t _ cells hb,Result.andThen_ok]
   rfl
  refine wp_val hrun (After.pure_ hs ?_)
  have:=Rel.agg_mk hr
  simpa using this
 have eparts:(parts.map fun p=> (p.1,a.eval p.2)).toList=parts.toList.map fun p=> (p.1,a.eval p.2):=by simp
 split at h
 ·rename_i fs hk
  have ht:=hT.of hk (by simp)
  obtain ⟨i,hi,hsz,_,hz⟩:=ht.info
  obtain ⟨d,hu,hd,hko⟩:=ht.und
  rw [hk] at hko
  obtain ⟨fields,rfl,hf,hfs⟩:=hko
  cases hfill:fillA (fun i=> (fs[i]?).map fun f=> (f.1,f.2.2)) (cellsOf (unk (ofConst (T t).zero))) (parts.toList.map fun p=> (p.1,rhoOf env p.2)) with
  | none=> rw [hfill] at h;cases h
  | some r=>
   rw [hfill] at h
   cases h with
   | ret=>
    obtain ⟨us,hus,hr⟩:=fillA_sim he _ parts.toList _ (T t).zero.cells r (hzr ht (by rw [←hd])) hfill
    refine fin us r ?_ hr rfl rfl
    have hp:∀(fl:List Field) (gs:List (Nat×Nat×Nat)),fl.map (fun f=> (f.offset,f.type))=gs.map (fun x=> (x.1,x.2.1))→(∀x∈gs,SizeIs P x.2.1 x.2.2)→
      fl.mapM (fun f=> (P.info? f.type).map fun i=> (f.offset,i.size))=some (gs.map fun x=> (x.1,x.2.2)):=by
     intro fl
     induction fl with
     | nil=>
      intro gs hg _
      cases gs with
      | nil=> rfl
      | cons=> simp at hg
     | cons f fl ih=>
      intro gs hg hsz
      cases gs with
      | nil=> simp at hg
      | cons g gs=>
       simp only [List.map_cons,List.cons.injEq,Prod.mk.injEq] at hg
       obtain ⟨⟨q1,q2⟩,q3⟩:=hg
       have hs:=hsz g (by simp)
       unfold SizeIs at hs
       cases hq:P.info? g.2.1 with
       | none=> simp [hq] at hs
       | some i=>
        have hs':i.size=g.2.2:=by simpa [hq] using hs
        rw [List.mapM_cons,ih gs q3 (fun x hx=> hsz x (by simp [hx])),q2,hq]
        simp [q1,hs']
    unfold Program.built
    rw [hi,hu]
    simp only [hz,hp fields.toList fs hf hfs]
    rw [eparts,←hus]
    congr 1
    funext x
    simp
 ·rename_i n e z hk
  have ht:=hT.of hk (by simp)
  obtain ⟨i,hi,hsz,_,hz⟩:=ht.info
  obtain ⟨d,hu,hd,hko⟩:=ht.und
  rw [hk] at hko
  obtain ⟨rfl,hes⟩:=hko
  cases hfill:fillA (fun i=> some (i * z,z)) (cellsOf (unk (ofConst (T t).zero))) (parts.toList.map fun p=> (p.1,rhoOf env p.2)) with
  | none=> rw [hfill] at h;cases h
  | some r=>
   rw [hfill] at h
   cases h with
   | ret=>
    obtain ⟨us,hus,hr⟩:=fillA_sim he _ parts.toList _ (T t).zero.cells r (hzr ht (by rw [←hd])) hfill
    refine fin us r ?_ hr rfl rfl
    unfold SizeIs at hes
    cases hq:P.info? e with
    | none=> simp [hq] at hes
    | some ie=>
     have hs':ie.size=z:=by simpa [hq] using hes
     unfold Program.built
     rw [hi,hu]
     simp only [hz,hq,hs']
     rw [eparts]
     exact hus
 ·cases h
end
end Go.Proofs.YtmgcnoigihdhpaaGreatDoor

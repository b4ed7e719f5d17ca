/-
  Evaluation of Go code on plain data: what a call's contract says; steps that several operations share. Over any program.
-/
import Derived.Test.YtiklglcjecopcaaGreatDoorQ08
namespace Go.Proofs.YtiklglcjecopcaaGreatDoor
open Go.RowKit
def OwnAt (S:Nat→Prop) (w:World) (sz:Nat) (es:List (List D)) (v:Value) (b:Option Nat):Prop:=
 (∀e∈es,e.length=sz)∧((b=none∧es= []∧∃A,v= .slice A 0 0)∨
  ∃g T cur cap,b=some g∧v= .slice (some ⟨g,0,none⟩) es.length cap∧w.heap[g]? =some (.cells cur T (0,0))∧es.length≤cap∧cap≤maxLen∧cur.size=cap * sz∧
   ∀(i j:Nat) (e:List D) (x:D),es[i]? =some e→e[j]? =some x→∃v,cur[i * sz + j]? =some v∧RelD S w x v)
def Res1 (S:Nat→Prop) (w:World):AV→Value→Option Nat→Prop
 | .ow sz es,v,b=> OwnAt S w sz es v b
 | .d x,v,b=> RelD S w x v∧b=none
 | _,_,_=> False
def ResL (S:Nat→Prop) (w:World):List AV→List Value→List (Option Nat)→Prop
 | [],vs,bs=> vs= []∧bs= []
 | c::r,vs,bs=> ∃v vs' b b2,vs=v::vs'∧bs=b::b2∧Res1 S w c v b∧ResL S w r vs' b2
def ResC (S:Nat→Prop) (w:World):AV→Value→List (Option Nat)→Prop
 | .agg cs,v,bs=> ∃xs,v= .agg xs∧ResL S w cs xs.toList bs
 | c,v,bs=> ∃b,bs= [b]∧Res1 S w c v b
def ResT (S:Nat→Prop) (w:World):List AV→List Value→List (Option Nat)→Prop
 | [],vs,bs=> vs= []∧bs= []
 | c::r,vs,bs=> ∃v vs' b1 b2,vs=v::vs'∧bs=b1 ++ b2∧ResC S w c v b1∧ResT S w r vs' b2
def Res (S:Nat→Prop) (w:World):AV→Value→List (Option Nat)→Prop
 | .tup vs,v,bs=> ∃xs,v= .tuple xs∧ResT S w vs xs.toList bs
 | c,v,bs=> ResC S w c v bs
def Apart (bs:List (Option Nat)):Prop:=(bs.filterMap id).Nodup
def cx0 (A:Nat→Prop) (w:World):Cx:=⟨fun _ _=> ⟨none,0,0,0⟩,fun _=> 0,A,w⟩
def Fn (dr:Prop) (P:Program) (f:FuncId) (args:List AV) (r:AV):Prop:=
 (∀(args:Array Value) (w:World),(callFunc f args).run P w= .ok (.enter f args) w)∧∀(w:World) (A:Nat→Prop) (vals:Array Value),Inv w→(∀b,A b→b < w.heap.size)→RelL (cx0 A w) args vals.toList→
  Calls P f vals w fun e w'=> ∃v S' bs,e= .returned v∧BelowD dr w.heap.size w w'∧(∀b,S' b→b < w'.heap.size∧(A b∨w.heap.size≤b))∧Res S' w' r v bs∧Apart bs∧∀b,some b∈bs→w.heap.size≤b∧b < w'.heap.size∧¬S' b
def OwnRes (A S:Nat→Prop) (w w':World) (sl:Value) (b:Option Nat) (v:Value):AV→Prop
 | .ow sz es=> v= .tuple #[]∧∃S',(∀c,S' c→c < w'.heap.size∧(S c∨w.heap.size≤c))∧OwnAt S' w' sz es sl b∧∀c,b=some c→¬S' c
 | .tup [.ow sz es]=> ∃S' b',(∀c,S' c→c < w'.heap.size∧(A c∨w.heap.size≤c))∧OwnAt S' w' sz es v b'∧∀c,b'=some c→(b=some c∨w.heap.size≤c)∧c < w'.heap.size∧¬S' c
 | _=> False
def FnW (dr:Prop) (P:Program) (f:FuncId) (sz:Nat) (es:List (List D)) (args:List AV) (r:AV):Prop:=
 (∀(args:Array Value) (w:World),(callFunc f args).run P w= .ok (.enter f args) w)∧∀(w:World) (A S:Nat→Prop) (sl:Value) (b:Option Nat) (vals:Array Value),Inv w→(∀c,b=some c→¬Tab c)→(∀c,A c→c < w.heap.size)→(∀c,S c→A c)→OwnAt S w sz es sl b→(∀c,b=some c→c < w.heap.size∧¬A c)→RelL (cx0 A w) args vals.toList→
  Calls P f (#[sl] ++ vals) w fun e w'=> ∃v,e= .returned v∧BelowX dr (fun c=> b=some c) w w'∧OwnRes A S w w' sl b v r
def FnKeys (P:Program) (f:FuncId) (r:AV):Prop:=∃kf,r= .fn kf []∧(∀(args:Array Value) (w:World),(callFunc f args).run P w= .ok (.enter f args) w)∧
 ∃ty,∀(mb:Nat) (w:World),Calls P f #[.map (some mb)] w fun e w'=> e= .returned (.func (.func kf) #[] #[.pointer (some ⟨w.heap.size,0,none⟩)])∧w'=w.alloc (.cells #[.map (some mb)] ty)
def FnSKeys (dr:Prop) (P:Program) (f kf:FuncId) (es:List (List D)) (r:AV):Prop:=∃rs,r= .ow 1 rs∧(∀(args:Array Value) (w:World),(callFunc f args).run P w= .ok (.enter f args) w)∧
 ∀(w:World) (bb mb:Nat) (ents:Array MapEntry) (clock:Nat),bb < w.heap.size→w.cell? ⟨bb,0,none⟩=some (.map (some mb))→w.heap[mb]? =some (.map ents clock)→MapKept.Stamped ents clock→ents.size=es.length→
  (∀(j:Nat) (c:List D) (e:MapEntry),es[j]? =some c→ents[j]? =some e→c= [.v e.key])→
  Calls P f #[.func (.func kf) #[] #[.pointer (some ⟨bb,0,none⟩)]] w fun e w'=> ∃v b,e= .returned v∧BelowD dr w.heap.size w w'∧OwnAt (fun _=> False) w' 1 rs v b∧∀c,b=some c→w.heap.size≤c∧c < w'.heap.size
def FnSKeysF (dr:Prop) (P:Program) (f kf cf:FuncId) (es:List (List D)) (r:AV):Prop:=∃sz rs,r= .ow sz rs∧(∀(args:Array Value) (w:World),(callFunc f args).run P w= .ok (.enter f args) w)∧
 ∀(w:World) (bb mb:Nat) (ents:Array MapEntry) (clock:Nat),Inv w→bb < w.heap.size→w.cell? ⟨bb,0,none⟩=some (.map (some mb))→w.heap[mb]? =some (.map ents clock)→MapKept.Stamped ents clock→ents.size=es.length→
  (∀(j:Nat) (c:List D) (e:MapEntry),es[j]? =some c→ents[j]? =some e→c= [.v e.key])→
  Calls P f #[.func (.func kf) #[] #[.pointer (some ⟨bb,0,none⟩)],.func (.func cf) #[] #[]] w fun e w'=> ∃v b,e= .returned v∧BelowD dr w.heap.size w w'∧OwnAt (fun _=> False) w' sz rs v b∧∀c,b=some c→w.heap.size≤c∧c < w'.heap.size
def FnGrow (dr:Prop) (P:Program) (f:FuncId) (n:Int) (r:AV):Prop:=∃sz rs,r= .ow sz rs∧(∀(args:Array Value) (w:World),(callFunc f args).run P w= .ok (.enter f args) w)∧
 ∀(B:Option Addr) (w:World),Calls P f #[.slice B 0 0,.int .i64 n] w fun e w'=> ∃v b,e= .returned v∧BelowD dr w.heap.size w w'∧OwnAt (fun _=> False) w' sz rs v b∧∀c,b=some c→w.heap.size≤c∧c < w'.heap.size
def instC:AV→Option Inst
 | .ib cs=> some (.box cs)
 | .im ck es=> some (.mapi ck es)
 | _=> none
def cxO (S:Nat→Prop) (w:World) (locs:Nat→Loc) (n:Nat):Cx:=⟨fun s _=> locs (s - 1000000),fun s=> if 1000000 < s∧s≤1000000 + n then 1 else 0,S,w⟩
theorem cxO_φ (S:Nat→Prop) (w:World) (locs:Nat→Loc) (n i:Nat):(cxO S w locs n).φ (1000001 + i) 1=locs (i + 1):=by
 show locs (1000001 + i - 1000000)=_
 rw [show 1000001 + i - 1000000=i + 1 by omega]
theorem cxO_gn (S:Nat→Prop) (w:World) (locs:Nat→Loc) {n i:Nat} (h:i < n):1≤(cxO S w locs n).gn (1000001 + i):=by
 show 1≤if 1000000 < 1000001 + i∧1000001 + i≤1000000 + n then 1 else 0
 rw [if_pos (by omega)]
 exact Nat.le_refl 1
structure ObjsOk (S:Nat→Prop) (w:World) (locs:Nat→Loc) (is:List AV):Prop where
 ok:∀(i:Nat) (a:AV),is[i]? =some a→∃inst,instC a=some inst∧InstOk (cxO S w locs is.length) (locs (i + 1)) inst
 blk:∀(i b:Nat),i < is.length→(locs (i + 1)).blk=some b→b < w.heap.size∧¬S b
 sep:∀(i j b:Nat),i < is.length→j < is.length→(locs (i + 1)).blk=some b→(locs (j + 1)).blk=some b→i=j
def mergeO:List AV→List AV→List AV
 | a::is,b::js=> (bif isNlA b then a else b)::mergeO is js
 | [],js=> js
 | _::_,[]=> []
def ResO (κ:Cx) (r:AV) (v:Value) (bs:List (Option Nat)):Prop:=match r with
 | .lp s g o=> Rel κ (.lp s g o) v∧bs= []
 | .mp s g=> Rel κ (.mp s g) v∧bs= []
 | r=> Res κ.S κ.w r v bs
def FnO (dr:Prop) (P:Program) (f:FuncId) (is:List AV) (args:List AV) (r:AV):Prop:=∃v js,r= .hp (v::js)∧is.length≤js.length∧(∀(args:Array Value) (w:World),(callFunc f args).run P w= .ok (.enter f args) w)∧
 ∀(w:World) (A:Nat→Prop) (locs:Nat→Loc) (vals:Array Value),Inv w→(∀c,A c→c < w.heap.size)→ObjsOk A w locs is→(∀i b,i < is.length→(locs (i + 1)).blk=some b→¬Tab b)→RelL (cxO A w locs is.length) args vals.toList→
  Calls P f vals w fun e w'=> ∃x S' locs' bs,e= .returned x∧BelowX dr (fun c=> ∃i,i < is.length∧(locs (i + 1)).blk=some c) w w'∧(∀b,S' b→b < w'.heap.size∧(A b∨w.heap.size≤b))∧(∀i,i < is.length→locs' (i + 1)=locs (i + 1))∧ObjsOk S' w' locs' (mergeO is js)∧
   (∀i b,is.length≤i→i < js.length→(locs' (i + 1)).blk=some b→w.heap.size≤b)∧ResO (cxO S' w' locs' js.length) v x bs∧Apart bs∧∀b,some b∈bs→w.heap.size≤b∧b < w'.heap.size∧¬S' b∧∀i,i < js.length→(locs' (i + 1)).blk≠some b
def FnX (dr:Prop) (P:Program) (f:FuncId):List AV→AV→Prop
 | .hp is::args,r=> FnO dr P f is args r
 | .ow sz es::args,r=> FnW dr P f sz es args r
 | [.tup [.ow 0 []]],r=> FnKeys P f r
 | [.tup [.ow 0 []],.d (.v (.int .i64 n))],r=> FnGrow dr P f n r
 | [.fn kf [.ow 1 es]],r=> FnSKeys dr P f kf es r
 | [.fn kf [.ow 1 es],.fn cf []],r=> FnSKeysF dr P f kf cf es r
 | args,r=> Fn dr P f args r
theorem FnX.fn {dr:Prop} {P:Program} {f:FuncId} {args:List AV} {r:AV} (h:FnX dr P f args r) {κ:Cx} {vs:List Value} (hr:RelL κ args vs):Fn dr P f args r:=by
 unfold FnX at h
 split at h
 ·obtain ⟨v,vs',_,hx,_⟩:=hr.cons_inv
  cases hx
 ·obtain ⟨v,vs',_,hx,_⟩:=hr.cons_inv
  cases hx
 ·obtain ⟨v,vs',_,hx,_⟩:=hr.cons_inv
  cases hx with
  | @tup _ us hl hh=>
   have hlt:0 < us.size:=by rw [hl];simp
   have h0:us[0]? =some (us[0]'hlt):=Array.getElem?_eq_getElem hlt
   cases hh 0 _ _ rfl h0
 ·obtain ⟨v,vs',_,hx,_⟩:=hr.cons_inv
  cases hx with
  | @tup _ us hl hh=>
   have hlt:0 < us.size:=by rw [hl];simp
   have h0:us[0]? =some (us[0]'hlt):=Array.getElem?_eq_getElem hlt
   cases hh 0 _ _ rfl h0
 ·obtain ⟨v,vs',_,hx,_⟩:=hr.cons_inv
  cases hx with
  | @fn _ _ us hl hh=>
   have hlt:0 < us.size:=by rw [hl];simp
   have h0:us[0]? =some (us[0]'hlt):=Array.getElem?_eq_getElem hlt
   cases hh 0 _ _ rfl h0
 ·obtain ⟨v,vs',_,hx,_⟩:=hr.cons_inv
  cases hx with
  | @fn _ _ us hl hh=>
   have hlt:0 < us.size:=by rw [hl];simp
   have h0:us[0]? =some (us[0]'hlt):=Array.getElem?_eq_getElem hlt
   cases hh 0 _ _ rfl h0
 ·exact h
section
variable {F : FuncId → List AV → AV → Prop} {w0 : Start} {A : Nat → Prop}
theorem settle_runs (s:Nat) (cz:List Nat):∀(cs:List AV) (j:Nat) (k:List AV→Step) (m:Mem) (κ:Cx) (vs:List Value) (v:AV) (m':Mem),Sim w0 A m κ→RelL κ cs vs→(settle s cz j cs k).Runs F m v m'→
  ∃m1 κ1 cs1,Sim w0 A m1 κ1∧κ.Le κ1∧κ1.w=κ.w∧RelL κ1 cs1 vs∧(k cs1).Runs F m1 v m'
 | [],j,k,m,κ,vs,v,m',hs,hr,h=> ⟨m,κ,[],hs,.refl κ,rfl,hr,h⟩
 | c::cs,j,k,m,κ,vs,v,m',hs,hr,h=> by
  obtain ⟨x,vs',rfl,hx,hr'⟩:=hr.cons_inv
  by_cases hc:c= .nl
  ·subst hc
   simp only [settle] at h
   cases h with
   | new h=>
    cases hx with
    | nl A'=>
     have:=hs.add (BelowD.refl _ _) (s + 65536 * (j + 1)) (.rows (cz.getD j 0) [] false) ⟨none,0,0,0⟩ (fun b hb=> by cases hb) rfl (fun _=> ⟨rfl,fun e he=> by simp at he,Or.inl ⟨rfl,rfl⟩⟩)
     obtain ⟨hs1,hle⟩:=this
     obtain ⟨m1,κ1,cs1,g1,g2,g3,g4,g5⟩:=settle_runs s cz cs (j + 1) _ _ _ vs' v m' hs1 (hr'.mono hle) h
     refine ⟨m1,κ1,_,g1,hle.trans g2,g3,.cons ?_ g4,g5⟩
     have hgn:m.gen (s + 65536 * (j + 1)) + 1=κ.gn (s + 65536 * (j + 1)) + 1:=by rw [hs.gn]
     rw [hgn]
     refine Rel.mono g2 (.row0 A' ?_ ?_ ?_)
     ·rw [Cx.put_gn];exact Nat.le_refl _
     ·rw [Cx.put_new]
     ·rw [Cx.put_new]
  ·have e:settle s cz j (c::cs) k=settle s cz (j + 1) cs fun r=> k (c::r):=by
    cases c <;> first | rfl | exact absurd rfl hc
   rw [e] at h
   obtain ⟨m1,κ1,cs1,g1,g2,g3,g4,g5⟩:=settle_runs s cz cs (j + 1) _ _ _ vs' v m' hs hr' h
   exact ⟨m1,κ1,_,g1,g2,g3,.cons (hx.mono g2) g4,g5⟩
theorem rows_data {κ:Cx} {l:Loc} {sz:Nat} {es:List (List D)} {ro:Bool} (h:InstOk κ l (.rows sz es ro)) {S:Nat→Prop} (h1:∀b,κ.S b→S b) (h2:∀b,l.blk=some b→S b):
  RelD S κ.w (.fz es) (match l.blk with | some b=> .slice (some ⟨b,0,none⟩) l.len l.cap | none=> .slice none 0 0):=by
 obtain ⟨e1,e2,h⟩:=h
 rcases h with ⟨hb,rfl⟩ | ⟨b,T,cur,hb,hz,hh,hl,hm,hc,hr⟩
 ·rw [hb]
  exact .fz0 _ _ fun _=> rfl
 ·rw [hb,←e1]
  refine .fz es b 0 sz l.cap (fun j=> cur.getD j undef) e2 (h2 b hb) (by rw [e1];exact hl) (fun j hj=> ?_) (fun i j e x he hx=> ?_)
  ·rw [Nat.zero_add,cell_of_row _ _ _ cur T (0,0) hh]
   have:j < cur.size:=by
    rw [hc]
    exact Nat.lt_of_lt_of_le hj (Nat.mul_le_mul_right _ (by rw [e1];exact hl))
   rw [Array.getElem?_eq_getElem this]
   simp [Array.getD,this]
  ·obtain ⟨v,hv,hd⟩:=hr i j e x he hx
   have:(cur.getD (i * sz + j) undef)=v:=by
    simp only [Array.getD_eq_getD_getElem?,hv,Option.getD_some]
   rw [this]
   exact hd.mono h1 (fun _ _=> rfl)
theorem sub_data {S:Nat→Prop} {w:World} {es:List (List D)} {v:Value} (h:RelD S w (.fz es) v) {b c l sz:Nat} (hv:v= .slice (some ⟨b,0,none⟩) l c) (hs:∀e∈es,e.length=sz) (o n cc:Nat) (hn:o + n≤es.length) (hcc:n≤cc):
  RelD S w (.fz ((es.drop o).take n)) (.slice (some ⟨b,o * sz,none⟩) n cc):=by
 have hlen:((es.drop o).take n).length=n:=by simp;omega
 by_cases h0:n=0
 ·subst h0
  rw [List.take_zero]
  exact .fz0 _ _ fun h=> by cases h
 ·cases h with
  | fz0 A c _=> simp at hn;omega
  | fz _ b' o' sz' c' vs hs' hb hcap hc hr=>
   injection hv with hv1 hv2 hv3
   injection hv1 with hv1
   injection hv1 with hv1 hv4 _
   subst hv1 hv4
   have hsz:sz'=sz:=by
    obtain ⟨e,es',rfl⟩:=List.exists_cons_of_length_pos (l:=es) (by omega)
    rw [←hs e (by simp),hs' e (by simp)]
   subst hsz
   have:=RelD.fz (S:=S) (w:=w) ((es.drop o).take n) b' (o * sz') sz' cc (fun j=> vs (o * sz' + j)) (fun e he=> hs e (List.mem_of_mem_drop (List.mem_of_mem_take he))) hb (by rw [hlen];exact hcc)
    (fun j hj=> by
     rw [hlen] at hj
     have h2:=hc (o * sz' + j) (by
      have:(o + n) * sz'≤es.length * sz':=Nat.mul_le_mul_right _ hn
      rw [Nat.add_mul] at this
      omega)
     rw [Nat.zero_add] at h2
     exact h2)
    (fun i j e x he hx=> by
     rw [List.getElem?_take] at he
     split at he
     ·rw [List.getElem?_drop] at he
      have:=hr (o + i) j e x he hx
      rw [Nat.add_mul,Nat.add_assoc] at this
      exact this
     ·cases he)
   rw [hlen] at this
   exact this
theorem row_read {κ:Cx} {m:Mem} (hs:Sim w0 A m κ) {s g sz n:Nat} {es:List (List D)} {ro:Bool} (hi:m.at_ s g=some (.rows sz es ro)) {u:Value} (hu:Rel κ (.row s g n) u) {S:Nat→Prop} (h1:∀b,κ.S b→S b) (h2:∀b,(κ.φ s g).blk=some b→S b):
  RelD S κ.w (.fz es) u∧es.length=n:=by
 have ho:=hs.ok s g _ hi
 have hd:=rows_data ho h1 h2
 cases hu with
 | row0 A' hg hb hl=>
  have e:es= []:=List.eq_nil_of_length_eq_zero (by rw [ho.1,hl])
  subst e
  exact ⟨.fz0 _ _ fun _=> rfl,rfl⟩
 | row hg hb=>
  rw [hb] at hd
  exact ⟨hd,ho.1⟩
theorem sub_read {κ:Cx} {m:Mem} (hs:Sim w0 A m κ) {s g sz o n:Nat} {es:List (List D)} {ro:Bool} (hi:m.at_ s g=some (.rows sz es ro)) {u:Value} (hu:Rel κ (.sub s g o n) u) {S:Nat→Prop} (h1:∀b,κ.S b→S b) (h2:∀b,(κ.φ s g).blk=some b→S b):
  RelD S κ.w (.fz ((es.drop o).take n)) u∧o + n≤es.length:=by
 have ho:=hs.ok s g _ hi
 have hd:=rows_data ho h1 h2
 cases hu with
 | sub0 A' hg hb hl=>
  have e:es= []:=List.eq_nil_of_length_eq_zero (by rw [ho.1,hl])
  subst e
  exact ⟨.fz0 _ _ fun _=> rfl,by simp⟩
 | sub A' hg hb hA hn=>
  rw [hb] at hd
  obtain ⟨e1,e2,h3⟩:=ho
  rw [e1]
  refine ⟨?_,hn⟩
  rcases h3 with ⟨h4,_⟩ | ⟨b',T,cur,hb',hz,hh,hl,hm,hc,hr⟩
  ·rw [h4] at hb;cases hb
  ·rcases hA with ⟨rfl,hA⟩ | rfl
   ·rw [List.take_zero]
    exact .fz0 _ _ fun _=> hA
   ·rw [hz]
    exact sub_data hd rfl e2 o n _ (by rw [e1];exact hn) (by omega)
theorem dataOf_runs {x:AV} {k:D→Step} {m:Mem} {κ:Cx} {u:Value} {v:AV} {m':Mem} (hs:Sim w0 A m κ) (hu:Rel κ x u) (h:(dataOf x k).Runs F m v m'):
  ∃m1 κ1 y,Sim w0 A m1 κ1∧κ.Le κ1∧κ1.w=κ.w∧RelD κ1.S κ1.w y u∧(k y).Runs F m1 v m':=by
 cases x with
 | d y=>
  cases hu with
  | d hu=> exact ⟨m,κ,y,hs,.refl κ,rfl,hu,h⟩
 | nl=>
  cases hu with
  | nl A'=> exact ⟨m,κ,.fz [],hs,.refl κ,rfl,.fz0 _ _ fun _=> rfl,h⟩
 | row s g n=>
  cases h with
  | rdr hi h=>
   cases h with
   | frz hi' h=>
    rw [hi] at hi'
    injection hi' with hi'
    injection hi' with q1 q2 q3
    subst q1 q2 q3
    obtain ⟨h1,h2⟩:=hs.frz hi
    exact ⟨_,_,_,h1,h2,rfl,(row_read hs hi hu h2.S (fun _ hb=> Or.inr hb)).1,h⟩
 | sub s g o n=>
  cases h with
  | rdr hi h=>
   cases h with
   | frz hi' h=>
    rw [hi] at hi'
    injection hi' with hi'
    injection hi' with q1 q2 q3
    subst q1 q2 q3
    obtain ⟨h1,h2⟩:=hs.frz hi
    exact ⟨_,_,_,h1,h2,rfl,(sub_read hs hi hu h2.S (fun _ hb=> Or.inr hb)).1,h⟩
 | _=> cases h
theorem dataList_runs:∀(cs:List AV) (k:List D→Step) (m:Mem) (κ:Cx) (vs:List Value) (v:AV) (m':Mem),Sim w0 A m κ→RelL κ cs vs→(dataList cs k).Runs F m v m'→
  ∃m1 κ1 ds,Sim w0 A m1 κ1∧κ.Le κ1∧κ1.w=κ.w∧(ds.length=vs.length∧∀(j:Nat) (d:D) (u:Value),ds[j]? =some d→vs[j]? =some u→RelD κ1.S κ1.w d u)∧(k ds).Runs F m1 v m'
 | [],k,m,κ,vs,v,m',hs,hr,h=> ⟨m,κ,[],hs,.refl κ,rfl,⟨by rw [hr.nil_inv];rfl,fun j d u hd=> by simp at hd⟩,h⟩
 | c::cs,k,m,κ,vs,v,m',hs,hr,h=> by
  obtain ⟨x,vs',rfl,hx,hr'⟩:=hr.cons_inv
  obtain ⟨m1,κ1,y,g1,g2,g3,g4,g5⟩:=dataOf_runs hs hx h
  obtain ⟨m2,κ2,ds,q1,q2,q3,q4,q5⟩:=dataList_runs cs _ _ _ vs' v m' g1 (hr'.mono g2) g5
  refine ⟨m2,κ2,_,q1,g2.trans q2,q3.trans g3,⟨by simp [q4.1],fun j d u hd hu=> ?_⟩,q5⟩
  cases j with
  | zero=> simp at hd hu;subst hd hu;exact q2.relD g4
  | succ j=> exact q4.2 j d u (by simpa using hd) (by simpa using hu)
def Src (κ:Cx) (es:List (List D)) (y:Value):Prop:=
 (es= []∧∃A' c,y= .slice A' 0 c)∨∃(b q c sz:Nat) (vs:Nat→Value),y= .slice (some ⟨b,q,none⟩) es.length c∧(∀e∈es,e.length=sz)∧(∀j,j < es.length * sz→κ.w.cell? ⟨b,q + j,none⟩=some (vs j))∧
  ∀(i j:Nat) (e:List D) (x:D),es[i]? =some e→e[j]? =some x→RelD κ.S κ.w x (vs (i * sz + j))
theorem elemsOf_runs {x:AV} {k:List (List D)→Step} {m:Mem} {κ:Cx} {u:Value} {v:AV} {m':Mem} (hs:Sim w0 A m κ) (hu:Rel κ x u) (h:(elemsOf x k).Runs F m v m'):
  ∃es,Src κ es u∧(k es).Runs F m v m':=by
 have rowSrc:∀(s g sz:Nat) (es:List (List D)) (ro:Bool),m.at_ s g=some (.rows sz es ro)→∀(b q n c:Nat),(κ.φ s g).blk=some b→q + n≤es.length→Src κ ((es.drop q).take n) (.slice (some ⟨b,q * (κ.φ s g).sz,none⟩) n c):=by
  intro s g sz es ro hi b q n c hb hqn
  obtain ⟨e1,e2,h3⟩:=hs.ok s g _ hi
  rcases h3 with ⟨h4,_⟩ | ⟨b',tt,cur,hb',hz,hh,hl,hm,hcs,hra⟩
  ·rw [h4] at hb;cases hb
  ·rw [hb] at hb'
   injection hb' with hb'
   subst hb'
   have hlen:((es.drop q).take n).length=n:=by simp;omega
   refine Or.inr ⟨b,q * (κ.φ s g).sz,c,sz,fun j=> cur.getD (q * sz + j) undef,by rw [hlen],fun e he=> e2 e (List.mem_of_mem_drop (List.mem_of_mem_take he)),fun j hj=> ?_,fun i j e x he hx=> ?_⟩
   ·rw [hlen] at hj
    rw [hz,cell_of_row _ _ _ cur tt (0,0) hh]
    have:q * sz + j < cur.size:=by
     rw [hcs]
     have h5:(q + n) * sz≤(κ.φ s g).cap * sz:=Nat.mul_le_mul_right _ (by omega)
     rw [Nat.add_mul] at h5
     omega
    rw [Array.getElem?_eq_getElem this]
    simp [Array.getD,this]
   ·rw [List.getElem?_take] at he
    split at he
    ·rw [List.getElem?_drop] at he
     obtain ⟨v,hv,hd⟩:=hra _ j e x he hx
     have:cur.getD (q * sz + (i * sz + j)) undef=v:=by
      rw [Nat.add_mul,Nat.add_assoc] at hv
      simp only [Array.getD_eq_getD_getElem?,hv,Option.getD_some]
     show RelD κ.S κ.w x (cur.getD (q * sz + (i * sz + j)) undef)
     rw [this]
     exact hd
    ·cases he
 cases x with
 | d y=>
  cases y with
  | v y=>
   unfold elemsOf at h
   split at h
   all_goals first
    | (rename_i he;cases he;done)
    | cases h;done
    | skip
   ·rename_i he
    injection he with he
    injection he with he
    subst he
    cases hu with
    | d hu=>
     cases hu with
     | v _ _=> exact ⟨[],Or.inl ⟨rfl,_,_,rfl⟩,h⟩
  | fz es=>
   cases hu with
   | d hu=>
    refine ⟨es,?_,h⟩
    cases hu with
    | fz0 A' c _=> exact Or.inl ⟨rfl,A',c,rfl⟩
    | fz _ b q sz c vs hs hb hcap hc hr=> exact Or.inr ⟨b,q,c,sz,vs,rfl,hs,hc,hr⟩
  | _=> cases h
 | nl=>
  cases hu with
  | nl A'=> exact ⟨[],Or.inl ⟨rfl,A',0,rfl⟩,h⟩
 | row s g n=>
  cases h with
  | rdr hi h=>
   refine ⟨_,?_,h⟩
   cases hu with
   | row0 A' hg hb hl=>
    have e:=(hs.ok s g _ hi).1
    rw [hl] at e
    exact Or.inl ⟨List.eq_nil_of_length_eq_zero e,A',0,rfl⟩
   | row hg hb=>
    have e:=(hs.ok s g _ hi).1
    have:=rowSrc s g _ _ _ hi _ 0 (κ.φ s g).len (κ.φ s g).cap hb (by omega)
    rw [Nat.zero_mul,List.drop_zero,←e,List.take_length] at this
    rw [←e]
    exact this
 | sub s g q n=>
  cases h with
  | rdr hi h=>
   refine ⟨_,?_,h⟩
   have e:=(hs.ok s g _ hi).1
   cases hu with
   | sub0 A' hg hb hl=> exact Or.inl ⟨by simp,A',0,rfl⟩
   | sub A' hg hb hA hn=>
    rcases hA with ⟨rfl,hA⟩ | rfl
    ·exact Or.inl ⟨by simp,A',_,rfl⟩
    ·exact rowSrc s g _ _ _ hi _ q n _ hb (by omega)
 | _=> cases h
def BlkOf (κ:Cx) (l:List (Nat×Nat)) (b:Nat):Prop:=∃p∈l,(κ.φ p.1 p.2).blk=some b
def RowsOf (m:Mem) (l:List (Nat×Nat)):Prop:=∀p∈l,∃i,m.at_ p.1 p.2=some i
theorem cx0_mono {S S':Nat→Prop} {w:World} (h:∀b,S b→S' b):(cx0 S w).Le (cx0 S' w):=⟨fun _=> Nat.le_refl _,fun _ _ _=> rfl,h,fun _ _=> rfl⟩
theorem mp_read {κ:Cx} {m:Mem} (hs:Sim w0 A m κ) {s g:Nat} {ck:CK} {es:List (Value×D)} (hi:m.at_ s g=some (.mapi ck es)) {u:Value} (hu:Rel κ (.mp s g) u) {S:Nat→Prop} (h1:∀b,κ.S b→S b) (h2:∀b,(κ.φ s g).blk=some b→S b):RelD S κ.w (.mz ck es) u:=by
 obtain ⟨b,ents,clock,hb,hh,hm,hst⟩:=hs.ok s g _ hi
 cases hu with
 | mp hg hb'=>
  rw [hb] at hb'
  injection hb' with e
  subst e
  exact .map_mk (h2 _ hb) hh hst ⟨hm.1,fun j p e hp he=> ⟨(hm.2 j p e hp he).1,(hm.2 j p e hp he).2.1.mono h1 (fun _ _=> rfl),(hm.2 j p e hp he).2.2⟩⟩
theorem map_block {m:Mem} {κ:Cx} (hs:Sim w0 A m κ) {s g:Nat} {ck:CK} {es:List (Value×D)} (hi:m.at_ s g=some (.mapi ck es)) {u:Value} (hu:Rel κ (.mp s g) u):∃b ents clock,u= .map (some b)∧(κ.φ s g).blk=some b∧κ.w.heap[b]? =some (.map ents clock)∧MapAt κ ck ents es∧MapKept.Stamped ents clock:=by
 obtain ⟨b,ents,clock,hb,hh,hm⟩:=hs.ok s g _ hi
 cases hu with
 | mp hg hb'=>
  rw [hb] at hb'
  injection hb' with hb'
  subst hb'
  exact ⟨_,_,_,rfl,hb,hh,hm⟩
theorem box_data {S:Nat→Prop} {w:World} {b o:Nat} {T:TypeId} {vs:Array Value} {ds:List D} (hh:w.heap[b]? =some (.cells vs T (0,0))) (g2:ds.length=(vs.toList.drop o).length) (g3:∀(j:Nat) (x:D) (u:Value),ds[j]? =some x→(vs.toList.drop o)[j]? =some u→RelD S w x u):
  (∀j,j < ds.length→w.cell? ⟨b,o + j,none⟩=some (((vs.toList.drop o)[j]?).getD undef))∧∀(j:Nat) (x:D),ds[j]? =some x→RelD S w x (((vs.toList.drop o)[j]?).getD undef):=by
 have cell:∀j,j < ds.length→∃y,(vs.toList.drop o)[j]? =some y∧w.cell? ⟨b,o + j,none⟩=some y:=by
  intro j hj
  rw [g2] at hj
  refine ⟨(vs.toList.drop o)[j],List.getElem?_eq_getElem hj,?_⟩
  rw [cell_of_row _ _ _ vs T (0,0) hh]
  have:=List.getElem?_eq_getElem hj
  rw [List.getElem?_drop] at this
  simp
 refine ⟨fun j hj=> ?_,fun j x hx=> ?_⟩
 ·obtain ⟨y,e1,e2⟩:=cell j hj
  rw [e2,e1]
  rfl
 ·have hj:j < ds.length:=(List.getElem?_eq_some_iff.1 hx).1
  obtain ⟨y,e1,e2⟩:=cell j hj
  rw [e1]
  exact g3 j x y hx e1
theorem blk_cons {κ:Cx} {p:Nat×Nat} {l:List (Nat×Nat)} {b:Nat} (h:κ.S b∨BlkOf κ l b):κ.S b∨BlkOf κ (p::l) b:=h.imp id fun ⟨q,hq,hb⟩=> ⟨q,by simp [hq],hb⟩
theorem blk_left {κ:Cx} {l l':List (Nat×Nat)} {b:Nat} (h:κ.S b∨BlkOf κ l b):κ.S b∨BlkOf κ (l ++ l') b:=h.imp id fun ⟨q,hq,hb⟩=> ⟨q,by simp [hq],hb⟩
theorem blk_right {κ:Cx} {l l':List (Nat×Nat)} {b:Nat} (h:κ.S b∨BlkOf κ l' b):κ.S b∨BlkOf κ (l ++ l') b:=h.imp id fun ⟨q,hq,hb⟩=> ⟨q,by simp [hq],hb⟩
theorem rows_cons {m:Mem} {p:Nat×Nat} {i:Inst} {l:List (Nat×Nat)} (h:m.at_ p.1 p.2=some i) (hl:RowsOf m l):RowsOf m (p::l):=fun q hq=> by
 rcases List.mem_cons.1 hq with rfl | hq
 ·exact ⟨_,h⟩
 ·exact hl q hq
theorem cells_cons {κ:Cx} {l:List (Nat×Nat)} {S:Nat→Prop} {x0:D} {u0:Value} {ds:List D} {vs:List Value} (h0:RelD S κ.w x0 u0) (hS:∀b,(κ.S b∨BlkOf κ l b)→S b) (h:∀(j:Nat) (x:D) (u:Value),ds[j]? =some x→vs[j]? =some u→RelD (fun b=> κ.S b∨BlkOf κ l b) κ.w x u):
  ∀(j:Nat) (x:D) (u:Value),(x0::ds)[j]? =some x→(u0::vs)[j]? =some u→RelD S κ.w x u:=by
 intro j x u hj hu
 cases j with
 | zero=>
  simp at hj hu
  subst hj hu
  exact h0
 | succ j=> exact (h j x u (by simpa using hj) (by simpa using hu)).mono hS (fun _ _=> rfl)
theorem cellL0_runs:∀(cs:List AV) (k:List D→List (Nat×Nat)→Step) (m:Mem) (κ:Cx) (vs:List Value) (v:AV) (m':Mem),Sim w0 A m κ→RelL κ cs vs→(cellL0 cs k).Runs F m v m'→
  ∃ds l,(k ds l).Runs F m v m'∧ds.length=vs.length∧(∀(j:Nat) (x:D) (u:Value),ds[j]? =some x→vs[j]? =some u→RelD (fun b=> κ.S b∨BlkOf κ l b) κ.w x u)∧RowsOf m l
 | [],k,m,κ,vs,v,m',hs,hr,h=> ⟨[],[],h,by rw [hr.nil_inv];rfl,fun j x u hj=> by simp at hj,fun p hp=> by simp at hp⟩
 | c::cs,k,m,κ,vs,v,m',hs,hr,h=> by
  obtain ⟨u0,vs',rfl,hx,hr'⟩:=hr.cons_inv
  cases c with
  | d y=>
   obtain ⟨ds,l,g1,g2,g3,g4⟩:=cellL0_runs cs _ m κ vs' v m' hs hr' h
   cases hx with
   | d hd=> exact ⟨_,_,g1,by simp [g2],cells_cons (hd.mono (fun _ h=> Or.inl h) (fun _ _=> rfl)) (fun b hb=> hb) g3,g4⟩
  | row s g n=>
   cases h with
   | rdr hi h=>
    obtain ⟨ds,l,g1,g2,g3,g4⟩:=cellL0_runs cs _ m κ vs' v m' hs hr' h
    exact ⟨_,_,g1,by simp [g2],cells_cons (row_read hs hi hx (fun _ h=> Or.inl h) (fun b hb=> Or.inr ⟨(s,g),by simp,hb⟩)).1 (fun b hb=> blk_cons hb) g3,rows_cons (p:=(s,g)) hi g4⟩
  | mp s g=>
   cases h with
   | rdm hi h=>
    obtain ⟨ds,l,g1,g2,g3,g4⟩:=cellL0_runs cs _ m κ vs' v m' hs hr' h
    exact ⟨_,_,g1,by simp [g2],cells_cons (mp_read hs hi hx (fun _ h=> Or.inl h) (fun b hb=> Or.inr ⟨(s,g),by simp,hb⟩)) (fun b hb=> blk_cons hb) g3,rows_cons (p:=(s,g)) hi g4⟩
  | _=> cases h
theorem cellL_runs:∀(cs:List AV) (k:List D→List (Nat×Nat)→Step) (m:Mem) (κ:Cx) (vs:List Value) (v:AV) (m':Mem),Sim w0 A m κ→RelL κ cs vs→(cellL cs k).Runs F m v m'→
  ∃ds l,(k ds l).Runs F m v m'∧ds.length=vs.length∧(∀(j:Nat) (x:D) (u:Value),ds[j]? =some x→vs[j]? =some u→RelD (fun b=> κ.S b∨BlkOf κ l b) κ.w x u)∧RowsOf m l
 | [],k,m,κ,vs,v,m',hs,hr,h=> ⟨[],[],h,by rw [hr.nil_inv];rfl,fun j x u hj=> by simp at hj,fun p hp=> by simp at hp⟩
 | c::cs,k,m,κ,vs,v,m',hs,hr,h=> by
  obtain ⟨u0,vs',rfl,hx,hr'⟩:=hr.cons_inv
  cases c with
  | d y=>
   obtain ⟨ds,l,g1,g2,g3,g4⟩:=cellL_runs cs _ m κ vs' v m' hs hr' h
   cases hx with
   | d hd=> exact ⟨_,_,g1,by simp [g2],cells_cons (hd.mono (fun _ h=> Or.inl h) (fun _ _=> rfl)) (fun b hb=> hb) g3,g4⟩
  | row s g n=>
   cases h with
   | rdr hi h=>
    obtain ⟨ds,l,g1,g2,g3,g4⟩:=cellL_runs cs _ m κ vs' v m' hs hr' h
    exact ⟨_,_,g1,by simp [g2],cells_cons (row_read hs hi hx (fun _ h=> Or.inl h) (fun b hb=> Or.inr ⟨(s,g),by simp,hb⟩)).1 (fun b hb=> blk_cons hb) g3,rows_cons (p:=(s,g)) hi g4⟩
  | mp s g=>
   cases h with
   | rdm hi h=>
    obtain ⟨ds,l,g1,g2,g3,g4⟩:=cellL_runs cs _ m κ vs' v m' hs hr' h
    exact ⟨_,_,g1,by simp [g2],cells_cons (mp_read hs hi hx (fun _ h=> Or.inl h) (fun b hb=> Or.inr ⟨(s,g),by simp,hb⟩)) (fun b hb=> blk_cons hb) g3,rows_cons (p:=(s,g)) hi g4⟩
  | fp cs1=>
   obtain ⟨ds,l,g1,g2,g3,g4⟩:=cellL_runs cs _ m κ vs' v m' hs hr' h
   cases hx with
   | fp us hb hc hrd=> exact ⟨_,_,g1,by simp [g2],cells_cons (.pz _ _ _ us (Or.inl hb) hc fun j x hx=> (hrd j x hx).mono (fun _ h=> Or.inl h) (fun _ _=> rfl)) (fun b hb=> hb) g3,g4⟩
  | lp s g o=>
   cases h with
   | rdb hi h=>
    obtain ⟨b,T,us,hb,hh,hn,hr⟩:=hs.ok s g _ hi
    have hL:=RelL.drop (κ:=κ) (cs:=_) (vs:=us.toList) ⟨by simpa using hn,fun j c u hc hu=> (hr j c u hc (by simpa using hu)).1⟩ o
    obtain ⟨ds0,l0,q1,q2,q3,q4⟩:=cellL0_runs _ _ m κ _ v m' hs hL h
    obtain ⟨ds,l,g1,g2,g3,g4⟩:=cellL_runs cs _ m κ vs' v m' hs hr' q1
    refine ⟨_,_,g1,by simp [g2],cells_cons ?_ (fun b hb=> blk_cons (blk_right hb)) g3,rows_cons (p:=(s,g)) hi fun p hp=> ?_⟩
    ·cases hx with
     | @lp _ _ _ b' hg hb'=>
      rw [hb] at hb'
      injection hb' with hb'
      subst hb'
      obtain ⟨e1,e2⟩:=box_data (S:=fun b=> κ.S b∨BlkOf κ ((s,g)::(l0 ++ l)) b) hh q2 fun j x u hx hu=> (q3 j x u hx hu).mono (fun b hb=> blk_cons (blk_left hb)) (fun _ _=> rfl)
      exact .pz _ _ _ _ (Or.inr ⟨(s,g),by simp,hb⟩) e1 e2
    ·rcases List.mem_append.1 hp with hp | hp
     ·exact q4 p hp
     ·exact g4 p hp
  | _=> cases h
theorem arg0_runs {x:AV} {k:AV→List (Nat×Nat)→Step} {m:Mem} {κ:Cx} {u:Value} {v:AV} {m':Mem} (hs:Sim w0 A m κ) (hu:Rel κ x u) (h:(arg0 x k).Runs F m v m'):
  ∃y l,(k y l).Runs F m v m'∧Rel (cx0 (fun b=> κ.S b∨BlkOf κ l b) κ.w) y u∧RowsOf m l:=by
 cases x with
 | d y=>
  cases hu with
  | d hu=> exact ⟨_,[],h,.d (hu.mono (fun _ h=> Or.inl h) (fun _ _=> rfl)),fun p hp=> by simp at hp⟩
 | nl=>
  cases hu with
  | nl A'=> exact ⟨_,[],h,.d (.fz0 _ _ fun _=> rfl),fun p hp=> by simp at hp⟩
 | row s g n=>
  cases h with
  | rdr hi h=> exact ⟨_,[(s,g)],h,.d (row_read hs hi hu (fun _ h=> Or.inl h) (fun b hb=> Or.inr ⟨(s,g),by simp,hb⟩)).1,fun p hp=> by simp at hp;subst hp;exact ⟨_,hi⟩⟩
 | sub s g o n=>
  cases h with
  | rdr hi h=> exact ⟨_,[(s,g)],h,.d (sub_read hs hi hu (fun _ h=> Or.inl h) (fun b hb=> Or.inr ⟨(s,g),by simp,hb⟩)).1,fun p hp=> by simp at hp;subst hp;exact ⟨_,hi⟩⟩
 | lp s g o=>
  cases h with
  | rdb hi h=>
   obtain ⟨b,T,vs,hb,hh,hn,hr⟩:=hs.ok s g _ hi
   have hL:=RelL.drop (κ:=κ) (cs:=_) (vs:=vs.toList) ⟨by simpa using hn,fun j c u hc hu=> (hr j c u hc (by simpa using hu)).1⟩ o
   obtain ⟨ds,l,g1,g2,g3,g4⟩:=cellL_runs _ _ m κ _ v m' hs hL h
   refine ⟨_,_,g1,?_,rows_cons (p:=(s,g)) hi g4⟩
   cases hu with
   | @lp _ _ _ b' hg hb'=>
    rw [hb] at hb'
    injection hb' with hb'
    subst hb'
    obtain ⟨e1,e2⟩:=box_data (S:=fun b=> κ.S b∨BlkOf κ ((s,g)::l) b) hh g2 fun j x u hx hu=> (g3 j x u hx hu).mono (fun b hb=> blk_cons hb) (fun _ _=> rfl)
    exact .fp _ (Or.inr ⟨(s,g),by simp,hb⟩) e1 e2
 | fp ds=>
  cases hu with
  | fp vs hb hc hr=> exact ⟨_,[],h,.fp vs (Or.inl hb) hc fun j x hx=> (hr j x hx).mono (fun _ h=> Or.inl h) (fun _ _=> rfl),fun p hp=> by simp at hp⟩
 | _=> cases h
theorem argL_runs:∀(cs:List AV) (k:List AV→List (Nat×Nat)→Step) (m:Mem) (κ:Cx) (vs:List Value) (v:AV) (m':Mem),Sim w0 A m κ→RelL κ cs vs→(argL cs k).Runs F m v m'→
  ∃ys l,(k ys l).Runs F m v m'∧RelL (cx0 (fun b=> κ.S b∨BlkOf κ l b) κ.w) ys vs∧RowsOf m l
 | [],k,m,κ,vs,v,m',hs,hr,h=> ⟨[],[],h,by rw [hr.nil_inv];exact .nil _,fun p hp=> by simp at hp⟩
 | c::cs,k,m,κ,vs,v,m',hs,hr,h=> by
  obtain ⟨x,vs',rfl,hx,hr'⟩:=hr.cons_inv
  obtain ⟨y,l,g1,g2,g3⟩:=arg0_runs hs hx h
  obtain ⟨ys,l',q1,q2,q3⟩:=argL_runs cs _ m κ vs' v m' hs hr' g1
  refine ⟨_,_,q1,.cons (g2.mono (cx0_mono fun b hb=> ?_)) (q2.mono (cx0_mono fun b hb=> ?_)),fun p hp=> ?_⟩
  ·rcases hb with hb | ⟨p,hp,hb⟩
   ·exact Or.inl hb
   ·exact Or.inr ⟨p,by simp [hp],hb⟩
  ·rcases hb with hb | ⟨p,hp,hb⟩
   ·exact Or.inl hb
   ·exact Or.inr ⟨p,by simp [hp],hb⟩
  ·rcases List.mem_append.1 hp with hp | hp
   ·exact g3 p hp
   ·exact q3 p hp
theorem arg1_runs {x:AV} {k:AV→List (Nat×Nat)→Step} {m:Mem} {κ:Cx} {u:Value} {v:AV} {m':Mem} (hs:Sim w0 A m κ) (hu:Rel κ x u) (h:(arg1 x k).Runs F m v m'):
  ∃y l,(k y l).Runs F m v m'∧Rel (cx0 (fun b=> κ.S b∨BlkOf κ l b) κ.w) y u∧RowsOf m l:=by
 cases x with
 | fn f cs=>
  cases hu with
  | @fn _ _ vs hl hh=>
   obtain ⟨ys,l,g1,g2,g3⟩:=argL_runs cs _ m κ vs.toList v m' hs ⟨by simpa using hl,fun j c y hc hy=> hh j c y hc (by simpa using hy)⟩ h
   exact ⟨_,l,g1,.fn (by have:=g2.1;simpa using this) fun j c y hc hy=> g2.2 j c y hc (by simpa using hy),g3⟩
 | _=> exact arg0_runs hs hu h
theorem argT_runs:∀(cs:List (Option AV)) (k:List AV→List (Nat×Nat)→Step) (m:Mem) (κ:Cx) (vs:List Value) (v:AV) (m':Mem),Sim w0 A m κ→vs.length=cs.length→
  (∀(j:Nat) (c:AV) (u:Value),cs[j]? =some (some c)→vs[j]? =some u→Rel κ c u)→(argT cs k).Runs F m v m'→
  ∃ys l,(k ys l).Runs F m v m'∧RelL (cx0 (fun b=> κ.S b∨BlkOf κ l b) κ.w) ys vs∧RowsOf m l
 | [],k,m,κ,vs,v,m',hs,hn,hr,h=> ⟨[],[],h,by rw [List.eq_nil_of_length_eq_zero hn];exact .nil _,fun p hp=> by simp at hp⟩
 | none::cs,k,m,κ,vs,v,m',hs,hn,hr,h=> by cases h
 | some c::cs,k,m,κ,vs,v,m',hs,hn,hr,h=> by
  cases vs with
  | nil=> simp at hn
  | cons x vs'=>
  have hx:=hr 0 c x rfl rfl
  have hr':∀(j:Nat) (c:AV) (u:Value),cs[j]? =some (some c)→vs'[j]? =some u→Rel κ c u:=fun j d u hd hu=> hr (j + 1) d u (by simpa using hd) (by simpa using hu)
  have key:∃(y:AV) (l:List (Nat×Nat)),(argT cs fun xs m=> k (y::xs) (l ++ m)).Runs F m v m'∧Rel (cx0 (fun b=> κ.S b∨BlkOf κ l b) κ.w) y x∧RowsOf m l:=by
   by_cases hc:∃ds,c= .agg ds
   ·obtain ⟨ds,rfl⟩:=hc
    obtain ⟨us,rfl,hus⟩:=hx.agg_inv
    obtain ⟨ys,l,g1,g2,g3⟩:=argL_runs ds _ m κ us.toList v m' hs hus h
    exact ⟨.agg ys,l,g1,by have:=Rel.agg_mk g2;simpa using this,g3⟩
   ·have e:argT (some c::cs) k=arg1 c fun x l=> argT cs fun xs m=> k (x::xs) (l ++ m):=by
     cases c <;> first | rfl | exact absurd ⟨_,rfl⟩ hc
    rw [e] at h
    exact arg1_runs hs hx h
  obtain ⟨y,l,g1,g2,g3⟩:=key
  obtain ⟨ys,l',q1,q2,q3⟩:=argT_runs cs _ m κ vs' v m' hs (by simpa using hn) hr' g1
  refine ⟨_,_,q1,.cons (g2.mono (cx0_mono fun b hb=> ?_)) (q2.mono (cx0_mono fun b hb=> ?_)),fun p hp=> ?_⟩
  ·rcases hb with hb | ⟨p,hp,hb⟩
   ·exact Or.inl hb
   ·exact Or.inr ⟨p,by simp [hp],hb⟩
  ·rcases hb with hb | ⟨p,hp,hb⟩
   ·exact Or.inl hb
   ·exact Or.inr ⟨p,by simp [hp],hb⟩
  ·rcases List.mem_append.1 hp with hp | hp
   ·exact g3 p hp
   ·exact q3 p hp
theorem arg0W_runs {x:AV} {k:AV→List (Nat×Nat)→Step} {m:Mem} {κ:Cx} {u:Value} {v:AV} {m':Mem} (hs:Sim w0 A m κ) (hu:Rel κ x u) (h:(arg0W x k).Runs F m v m'):
  ∃y l,(k y l).Runs F m v m'∧Rel (cx0 (fun b=> κ.S b∨BlkOf κ l b) κ.w) y u∧RowsOf m l:=by
 cases x with
 | lp s g o=>
  cases h with
  | rdb hi h=>
   obtain ⟨b,T,vs,hb,hh,hn,hr⟩:=hs.ok s g _ hi
   have hL:=RelL.drop (κ:=κ) (cs:=_) (vs:=vs.toList) ⟨by simpa using hn,fun j c u hc hu=> (hr j c u hc (by simpa using hu)).1⟩ o
   obtain ⟨ds,l,g1,g2,g3,g4⟩:=cellL_runs _ _ m κ _ v m' hs hL h
   refine ⟨_,_,g1,?_,rows_cons (p:=(s,g)) hi g4⟩
   cases hu with
   | @lp _ _ _ b' hg hb'=>
    rw [hb] at hb'
    injection hb' with hb'
    subst hb'
    obtain ⟨e1,e2⟩:=box_data (S:=fun b=> κ.S b∨BlkOf κ ((s,g)::l) b) hh g2 fun j x u hx hu=> (g3 j x u hx hu).mono (fun b hb=> blk_cons hb) (fun _ _=> rfl)
    exact .fp _ (Or.inr ⟨(s,g),by simp,hb⟩) e1 e2
 | _=> exact arg0_runs hs hu h
theorem argLW_runs:∀(cs:List AV) (k:List AV→List (Nat×Nat)→Step) (m:Mem) (κ:Cx) (vs:List Value) (v:AV) (m':Mem),Sim w0 A m κ→RelL κ cs vs→(argLW cs k).Runs F m v m'→
  ∃ys l,(k ys l).Runs F m v m'∧RelL (cx0 (fun b=> κ.S b∨BlkOf κ l b) κ.w) ys vs∧RowsOf m l
 | [],k,m,κ,vs,v,m',hs,hr,h=> ⟨[],[],h,by rw [hr.nil_inv];exact .nil _,fun p hp=> by simp at hp⟩
 | c::cs,k,m,κ,vs,v,m',hs,hr,h=> by
  obtain ⟨x,vs',rfl,hx,hr'⟩:=hr.cons_inv
  obtain ⟨y,l,g1,g2,g3⟩:=arg0W_runs hs hx h
  obtain ⟨ys,l',q1,q2,q3⟩:=argLW_runs cs _ m κ vs' v m' hs hr' g1
  refine ⟨_,_,q1,.cons (g2.mono (cx0_mono fun b hb=> ?_)) (q2.mono (cx0_mono fun b hb=> ?_)),fun p hp=> ?_⟩
  ·rcases hb with hb | ⟨p,hp,hb⟩
   ·exact Or.inl hb
   ·exact Or.inr ⟨p,by simp [hp],hb⟩
  ·rcases hb with hb | ⟨p,hp,hb⟩
   ·exact Or.inl hb
   ·exact Or.inr ⟨p,by simp [hp],hb⟩
  ·rcases List.mem_append.1 hp with hp | hp
   ·exact g3 p hp
   ·exact q3 p hp
theorem arg1W_runs {x:AV} {k:AV→List (Nat×Nat)→Step} {m:Mem} {κ:Cx} {u:Value} {v:AV} {m':Mem} (hs:Sim w0 A m κ) (hu:Rel κ x u) (h:(arg1W x k).Runs F m v m'):
  ∃y l,(k y l).Runs F m v m'∧Rel (cx0 (fun b=> κ.S b∨BlkOf κ l b) κ.w) y u∧RowsOf m l:=by
 cases x with
 | fn f cs=>
  cases hu with
  | @fn _ _ vs hl hh=>
   obtain ⟨ys,l,g1,g2,g3⟩:=argLW_runs cs _ m κ vs.toList v m' hs ⟨by simpa using hl,fun j c y hc hy=> hh j c y hc (by simpa using hy)⟩ h
   exact ⟨_,l,g1,.fn (by have:=g2.1;simpa using this) fun j c y hc hy=> g2.2 j c y hc (by simpa using hy),g3⟩
 | _=> exact arg0_runs hs hu h
theorem argTW_runs:∀(cs:List (Option AV)) (k:List AV→List (Nat×Nat)→Step) (m:Mem) (κ:Cx) (vs:List Value) (v:AV) (m':Mem),Sim w0 A m κ→vs.length=cs.length→
  (∀(j:Nat) (c:AV) (u:Value),cs[j]? =some (some c)→vs[j]? =some u→Rel κ c u)→(argTW cs k).Runs F m v m'→
  ∃ys l,(k ys l).Runs F m v m'∧RelL (cx0 (fun b=> κ.S b∨BlkOf κ l b) κ.w) ys vs∧RowsOf m l
 | [],k,m,κ,vs,v,m',hs,hn,hr,h=> ⟨[],[],h,by rw [List.eq_nil_of_length_eq_zero hn];exact .nil _,fun p hp=> by simp at hp⟩
 | none::cs,k,m,κ,vs,v,m',hs,hn,hr,h=> by cases h
 | some c::cs,k,m,κ,vs,v,m',hs,hn,hr,h=> by
  cases vs with
  | nil=> simp at hn
  | cons x vs'=>
  have hx:=hr 0 c x rfl rfl
  have hr':∀(j:Nat) (c:AV) (u:Value),cs[j]? =some (some c)→vs'[j]? =some u→Rel κ c u:=fun j d u hd hu=> hr (j + 1) d u (by simpa using hd) (by simpa using hu)
  have key:∃(y:AV) (l:List (Nat×Nat)),(argTW cs fun xs m=> k (y::xs) (l ++ m)).Runs F m v m'∧Rel (cx0 (fun b=> κ.S b∨BlkOf κ l b) κ.w) y x∧RowsOf m l:=by
   by_cases hc:∃ds,c= .agg ds
   ·obtain ⟨ds,rfl⟩:=hc
    obtain ⟨us,rfl,hus⟩:=hx.agg_inv
    obtain ⟨ys,l,g1,g2,g3⟩:=argL_runs ds _ m κ us.toList v m' hs hus h
    exact ⟨.agg ys,l,g1,by have:=Rel.agg_mk g2;simpa using this,g3⟩
   ·have e:argTW (some c::cs) k=arg1W c fun x l=> argTW cs fun xs m=> k (x::xs) (l ++ m):=by
     cases c <;> first | rfl | exact absurd ⟨_,rfl⟩ hc
    rw [e] at h
    exact arg1W_runs hs hx h
  obtain ⟨y,l,g1,g2,g3⟩:=key
  obtain ⟨ys,l',q1,q2,q3⟩:=argTW_runs cs _ m κ vs' v m' hs (by simpa using hn) hr' g1
  refine ⟨_,_,q1,.cons (g2.mono (cx0_mono fun b hb=> ?_)) (q2.mono (cx0_mono fun b hb=> ?_)),fun p hp=> ?_⟩
  ·rcases hb with hb | ⟨p,hp,hb⟩
   ·exact Or.inl hb
   ·exact Or.inr ⟨p,by simp [hp],hb⟩
  ·rcases hb with hb | ⟨p,hp,hb⟩
   ·exact Or.inl hb
   ·exact Or.inr ⟨p,by simp [hp],hb⟩
  ·rcases List.mem_append.1 hp with hp | hp
   ·exact g3 p hp
   ·exact q3 p hp
theorem frzL_runs:∀(l:List (Nat×Nat)) (k:Step) (m:Mem) (κ:Cx) (v:AV) (m':Mem),Sim w0 A m κ→(frzL l k).Runs F m v m'→
  ∃m1 S1,Sim w0 A m1 {κ with S:=S1}∧κ.Le {κ with S:=S1}∧(∀b,S1 b↔κ.S b∨BlkOf κ l b)∧(∀s g i,m1.at_ s g=some i→∃i',m.at_ s g=some i')∧k.Runs F m1 v m'
 | [],k,m,κ,v,m',hs,h=> ⟨m,κ.S,hs,.refl κ,fun b=> by simp [BlkOf],fun s g i hi=> ⟨i,hi⟩,h⟩
 | (s,g)::l,k,m,κ,v,m',hs,h=> by
  cases h with
  | frz hi h=>
   obtain ⟨h1,h2⟩:=hs.frz hi
   obtain ⟨m1,S1,q1,q2,q3,q4,q5⟩:=frzL_runs l k _ _ v m' h1 h
   refine ⟨m1,S1,q1,h2.trans q2,fun b=> ?_,fun x y i hx=> ?_,q5⟩
   ·rw [q3 b]
    constructor
    ·rintro ((hb | hb) | ⟨p,hp,hb⟩)
     ·exact Or.inl hb
     ·exact Or.inr ⟨(s,g),by simp,hb⟩
     ·exact Or.inr ⟨p,by simp [hp],hb⟩
    ·rintro (hb | ⟨p,hp,hb⟩)
     ·exact Or.inl (Or.inl hb)
     ·rcases List.mem_cons.1 hp with rfl | hp
      ·exact Or.inl (Or.inr hb)
      ·exact Or.inr ⟨p,hp,hb⟩
   ·obtain ⟨i',hi'⟩:=q4 x y i hx
    rw [setAt] at hi'
    split at hi'
    ·rename_i hxy
     obtain ⟨rfl,rfl⟩:=hxy
     exact ⟨_,hi⟩
    ·exact ⟨_,hi'⟩
theorem OwnAt.mono {S S':Nat→Prop} {w:World} (hS:∀b,S b→S' b) {sz:Nat} {es:List (List D)} {v:Value} {b:Option Nat} (h:OwnAt S w sz es v b):OwnAt S' w sz es v b:=by
 refine ⟨h.1,h.2.imp id ?_⟩
 rintro ⟨g,T,cur,cap,q1,q2,q3,q4,q5,q6,q7⟩
 exact ⟨g,T,cur,cap,q1,q2,q3,q4,q5,q6,fun i j e x he hx=> let ⟨v,hv,hd⟩:=q7 i j e x he hx;⟨v,hv,hd.mono hS (fun _ _=> rfl)⟩⟩
theorem Res1.mono {S S':Nat→Prop} {w:World} (hS:∀b,S b→S' b) {x:AV} {v:Value} {b:Option Nat} (h:Res1 S w x v b):Res1 S' w x v b:=by
 cases x with
 | ow sz es=> exact OwnAt.mono hS h
 | d x=> exact ⟨h.1.mono hS (fun _ _=> rfl),h.2⟩
 | _=> exact h
theorem ResL.mono {S S':Nat→Prop} {w:World} (hS:∀b,S b→S' b):∀{cs:List AV} {vs:List Value} {bs:List (Option Nat)},ResL S w cs vs bs→ResL S' w cs vs bs
 | [],_,_,h=> h
 | _::_,_,_,⟨v,vs',b,b2,h1,h2,h3,h4⟩=> ⟨v,vs',b,b2,h1,h2,h3.mono hS,ResL.mono hS h4⟩
theorem ResC.mono {S S':Nat→Prop} {w:World} (hS:∀b,S b→S' b) {x:AV} {v:Value} {bs:List (Option Nat)} (h:ResC S w x v bs):ResC S' w x v bs:=by
 cases x with
 | agg cs=> exact let ⟨xs,h1,h2⟩:=h;⟨xs,h1,h2.mono hS⟩
 | _=> exact let ⟨b,h1,h2⟩:=h;⟨b,h1,h2.mono hS⟩
theorem ResT.mono {S S':Nat→Prop} {w:World} (hS:∀b,S b→S' b):∀{cs:List AV} {vs:List Value} {bs:List (Option Nat)},ResT S w cs vs bs→ResT S' w cs vs bs
 | [],_,_,h=> h
 | _::_,_,_,⟨v,vs',b,b2,h1,h2,h3,h4⟩=> ⟨v,vs',b,b2,h1,h2,h3.mono hS,ResT.mono hS h4⟩
theorem Res.mono {S S':Nat→Prop} {w:World} (hS:∀b,S b→S' b) {x:AV} {v:Value} {bs:List (Option Nat)} (h:Res S w x v bs):Res S' w x v bs:=by
 have hc:= @ResC.mono S S' w hS x v bs
 cases x with
 | tup cs=> exact let ⟨xs,h1,h2⟩:=h;⟨xs,h1,h2.mono hS⟩
 | _=> exact hc h
def Free (w0:Start) (m:Mem) (κ:Cx) (b:Nat):Prop:=w0.New b∧b < κ.w.heap.size∧¬κ.S b∧∀s g i,m.at_ s g=some i→(κ.φ s g).blk≠some b
theorem recv1_runs {s:Nat} {x:AV} {k:AV→Step} {m:Mem} {κ:Cx} {u:Value} {b:Option Nat} {v:AV} {m':Mem} (hs:Sim w0 A m κ) (hx:Res1 κ.S κ.w x u b) (hf:∀c,b=some c→Free w0 m κ c) (h:(recv1 s x k).Runs F m v m'):
  ∃m1 κ1 y,Sim w0 A m1 κ1∧κ.Le κ1∧κ1.w=κ.w∧κ1.S=κ.S∧Rel κ1 y u∧(k y).Runs F m1 v m'∧∀c,Free w0 m κ c→b≠some c→Free w0 m1 κ1 c:=by
 cases x with
 | d y=> exact ⟨m,κ,.d y,hs,.refl κ,rfl,rfl,.d hx.1,h,fun c hc _=> hc⟩
 | ow sz es=>
  cases h with
  | new h=>
   obtain ⟨h1,h2⟩:=hx
   have hgn:m.gen s + 1=κ.gn s + 1:=by rw [hs.gn]
   have fre:∀l:Loc,l.blk=b→∀c,Free w0 m κ c→b≠some c→Free w0 (m.add s (.rows sz es false)) (κ.put s l κ.w) c:=by
    intro l hl c hc hne
    refine ⟨hc.1,hc.2.1,hc.2.2.1,fun x y i hi e=> ?_⟩
    rw [addAt] at hi
    split at hi
    ·rename_i hxy
     obtain ⟨rfl,rfl⟩:=hxy
     rw [hgn,Cx.put_new,hl] at e
     exact hne e
    ·have hle:=κ.put_le s l κ.w (fun _ _=> rfl)
     rw [hle.φ x y (by rw [hs.gn];exact hs.gens x y i hi)] at e
     exact hc.2.2.2 x y i hi e
   rcases h2 with ⟨rfl,rfl,A',rfl⟩ | ⟨g,T,cur,cap,rfl,rfl,hh,hl,hm,hc,hr⟩
   ·obtain ⟨hs1,hle⟩:=hs.add (BelowD.refl _ _) s (.rows sz [] false) ⟨none,0,0,0⟩ (fun b hb=> by cases hb) rfl (fun _=> ⟨rfl,h1,Or.inl ⟨rfl,rfl⟩⟩)
    refine ⟨_,_,_,hs1,hle,rfl,rfl,?_,h,fre _ rfl⟩
    rw [hgn]
    exact .row0 A' (by rw [Cx.put_gn];exact Nat.le_refl _) (by rw [Cx.put_new]) (by rw [Cx.put_new])
   ·obtain ⟨hs1,hle⟩:=hs.add (BelowD.refl _ _) s (.rows sz es false) ⟨some g,cap,sz,es.length⟩ (fun b hb=> by injection hb with hb;subst hb;exact hf _ rfl) rfl
     (fun hle=> ⟨rfl,h1,Or.inr ⟨g,T,cur,rfl,rfl,hh,hl,hm,hc,fun i j e x he hx=> let ⟨v,hv,hd⟩:=hr i j e x he hx;⟨v,hv,hle.relD hd⟩⟩⟩)
    refine ⟨_,_,_,hs1,hle,rfl,rfl,?_,h,fre _ rfl⟩
    rw [hgn]
    have:=Rel.row (κ:=κ.put s ⟨some g,cap,sz,es.length⟩ κ.w) (s:=s) (g:=κ.gn s + 1) (b:=g) (by rw [Cx.put_gn];exact Nat.le_refl _) (by rw [Cx.put_new])
    rw [Cx.put_new] at this
    exact this
 | _=> exact hx.elim
theorem recvL_runs (s:Nat):∀(cs:List AV) (j:Nat) (k:List AV→Step) (m:Mem) (κ:Cx) (us:List Value) (bs:List (Option Nat)) (v:AV) (m':Mem),Sim w0 A m κ→ResL κ.S κ.w cs us bs→Apart bs→(∀c,some c∈bs→Free w0 m κ c)→(recvL s j cs k).Runs F m v m'→
  ∃m1 κ1 ys,Sim w0 A m1 κ1∧κ.Le κ1∧κ1.w=κ.w∧κ1.S=κ.S∧RelL κ1 ys us∧(k ys).Runs F m1 v m'∧∀c,Free w0 m κ c→some c∉bs→Free w0 m1 κ1 c
 | [],j,k,m,κ,us,bs,v,m',hs,hr,ha,hf,h=> ⟨m,κ,[],hs,.refl κ,rfl,rfl,by rw [hr.1];exact .nil _,h,fun c hc _=> hc⟩
 | x::cs,j,k,m,κ,us,bs,v,m',hs,⟨u,us',b,b2,e1,e2,hx,hr⟩,ha,hf,h=> by
  subst e1 e2
  obtain ⟨m1,κ1,y,g1,g2,g3,g4,g5,g6,g7⟩:=recv1_runs hs hx (fun c hc=> hf c (by simp [hc])) h
  have ha':Apart b2:=by
   unfold Apart at ha ⊢
   cases b with
   | none=> simpa using ha
   | some c=> simp at ha;exact ha.2
  have hnb:∀c,some c∈b2→b≠some c:=by
   intro c hc e
   subst e
   unfold Apart at ha
   simp at ha
   exact ha.1 hc
  obtain ⟨m2,κ2,ys,q1,q2,q3,q4,q5,q6,q7⟩:=recvL_runs s cs (j + 1) _ m1 κ1 us' b2 v m' g1 (by rw [g4,g3];exact hr) ha' (fun c hc=> g7 c (hf c (by simp [hc])) (hnb c hc)) g6
  refine ⟨m2,κ2,_,q1,g2.trans q2,q3.trans g3,q4.trans g4,.cons (g5.mono q2) q5,q6,fun c hc hn=> q7 c (g7 c hc fun e=> hn (by simp [e])) fun e=> hn (by simp [e])⟩
theorem recvC_runs {s:Nat} {x:AV} {k:AV→Step} {m:Mem} {κ:Cx} {u:Value} {bs:List (Option Nat)} {v:AV} {m':Mem} (hs:Sim w0 A m κ) (hx:ResC κ.S κ.w x u bs) (ha:Apart bs) (hf:∀c,some c∈bs→Free w0 m κ c)
  (h:(recvC s x k).Runs F m v m'):
  ∃m1 κ1 y,Sim w0 A m1 κ1∧κ.Le κ1∧κ1.w=κ.w∧κ1.S=κ.S∧Rel κ1 y u∧(k y).Runs F m1 v m'∧∀c,Free w0 m κ c→some c∉bs→Free w0 m1 κ1 c:=by
 by_cases hc:∃cs,x= .agg cs
 ·obtain ⟨cs,rfl⟩:=hc
  obtain ⟨xs,rfl,hx⟩:=hx
  obtain ⟨m1,κ1,ys,g1,g2,g3,g4,g5,g6,g7⟩:=recvL_runs s cs 0 _ m κ xs.toList bs v m' hs hx ha hf h
  exact ⟨m1,κ1,_,g1,g2,g3,g4,by have:=Rel.agg_mk g5;simpa using this,g6,g7⟩
 ·have hx':∃b,bs= [b]∧Res1 κ.S κ.w x u b:=by
   cases x <;> first | exact hx | exact absurd ⟨_,rfl⟩ hc
  obtain ⟨b,rfl,hx'⟩:=hx'
  have h':(recv1 s x k).Runs F m v m':=by
   cases x <;> first | exact h | exact absurd ⟨_,rfl⟩ hc
  obtain ⟨m1,κ1,y,g1,g2,g3,g4,g5,g6,g7⟩:=recv1_runs hs hx' (fun c hc=> hf c (by simp [hc])) h'
  exact ⟨m1,κ1,y,g1,g2,g3,g4,g5,g6,fun c hc hn=> g7 c hc fun e=> hn (by simp [e])⟩
theorem recvT_runs (s:Nat):∀(cs:List AV) (j:Nat) (k:List AV→Step) (m:Mem) (κ:Cx) (us:List Value) (bs:List (Option Nat)) (v:AV) (m':Mem),Sim w0 A m κ→ResT κ.S κ.w cs us bs→Apart bs→(∀c,some c∈bs→Free w0 m κ c)→(recvT s j cs k).Runs F m v m'→
  ∃m1 κ1 ys,Sim w0 A m1 κ1∧κ.Le κ1∧κ1.w=κ.w∧κ1.S=κ.S∧RelL κ1 ys us∧(k ys).Runs F m1 v m'
 | [],j,k,m,κ,us,bs,v,m',hs,hr,ha,hf,h=> ⟨m,κ,[],hs,.refl κ,rfl,rfl,by rw [hr.1];exact .nil _,h⟩
 | x::cs,j,k,m,κ,us,bs,v,m',hs,⟨u,us',b1,b2,e1,e2,hx,hr⟩,ha,hf,h=> by
  subst e1 e2
  have ha1:Apart b1:=by
   unfold Apart at ha ⊢
   rw [List.filterMap_append] at ha
   exact (List.nodup_append.1 ha).1
  have ha2:Apart b2:=by
   unfold Apart at ha ⊢
   rw [List.filterMap_append] at ha
   exact (List.nodup_append.1 ha).2.1
  have hnb:∀c,some c∈b2→some c∉b1:=by
   intro c hc hc1
   unfold Apart at ha
   rw [List.filterMap_append] at ha
   exact (List.nodup_append.1 ha).2.2 c (List.mem_filterMap.2 ⟨_,hc1,rfl⟩) c (List.mem_filterMap.2 ⟨_,hc,rfl⟩) rfl
  obtain ⟨m1,κ1,y,g1,g2,g3,g4,g5,g6,g7⟩:=recvC_runs (k:=fun y=> recvT s (j + 1) cs fun r=> k (y::r)) hs hx ha1 (fun c hc=> hf c (by simp [hc])) h
  obtain ⟨m2,κ2,ys,q1,q2,q3,q4,q5,q6⟩:=recvT_runs s cs (j + 1) _ m1 κ1 us' b2 v m' g1 (by rw [g4,g3];exact hr) ha2 (fun c hc=> g7 c (hf c (by simp [hc])) (hnb c hc)) g6
  exact ⟨m2,κ2,_,q1,g2.trans q2,q3.trans g3,q4.trans g4,.cons (g5.mono q2) q5,q6⟩
theorem recv_runs {s:Nat} {x:AV} {k:AV→Step} {m:Mem} {κ:Cx} {u:Value} {bs:List (Option Nat)} {v:AV} {m':Mem} (hs:Sim w0 A m κ) (hx:Res κ.S κ.w x u bs) (ha:Apart bs) (hf:∀c,some c∈bs→Free w0 m κ c) (h:(recv s x k).Runs F m v m'):
  ∃m1 κ1 y,Sim w0 A m1 κ1∧κ.Le κ1∧κ1.w=κ.w∧Rel κ1 y u∧(k y).Runs F m1 v m':=by
 by_cases hc:∃cs,x= .tup cs
 ·obtain ⟨cs,rfl⟩:=hc
  obtain ⟨xs,rfl,hx⟩:=hx
  obtain ⟨m1,κ1,ys,g1,g2,g3,g4,g5,g6⟩:=recvT_runs s cs 0 _ m κ xs.toList bs v m' hs hx ha hf h
  exact ⟨m1,κ1,_,g1,g2,g3,by have:=Rel.tup_mk g5;simpa using this,g6⟩
 ·have hx':ResC κ.S κ.w x u bs:=by
   cases x <;> first | exact hx | exact absurd ⟨_,rfl⟩ hc
  have h':(recvC s x k).Runs F m v m':=by
   cases x <;> first | exact h | exact absurd ⟨_,rfl⟩ hc
  obtain ⟨m1,κ1,y,g1,g2,g3,g4,g5,g6,g7⟩:=recvC_runs hs hx' ha hf h'
  exact ⟨m1,κ1,y,g1,g2,g3,g5,g6⟩
theorem scalar_res {S S':Nat→Prop} {w:World} {x:AV} {v:Value} {bs:List (Option Nat)} (hx:scalar x=true) (h:Res S w x v bs):Res S' w x v bs:=by
 have one:∀{y:AV} {v:Value} {b:Option Nat},(match y with | .d (.v _)=> true | _=> false)=true→Res1 S w y v b→Res1 S' w y v b:=by
  intro y v b hy h
  cases y with
  | d y=>
   cases y with
   | v z=>
    obtain ⟨h,e⟩:=h
    cases h with
    | v _ h=> exact ⟨.v _ h,e⟩
   | _=> cases hy
  | _=> cases hy
 have many:∀{cs:List AV} {vs:List Value} {bs:List (Option Nat)},cs.all (fun v=> match v with | .d (.v _)=> true | _=> false)=true→ResL S w cs vs bs→ResL S' w cs vs bs:=by
  intro cs
  induction cs with
  | nil=> exact fun _ h=> h
  | cons c cs ih=>
   rintro vs bs hc ⟨v,vs',b,b2,h1,h2,h3,h4⟩
   simp only [List.all_cons,Bool.and_eq_true] at hc
   exact ⟨v,vs',b,b2,h1,h2,one hc.1 h3,ih hc.2 h4⟩
 have manyT:∀{cs:List AV} {vs:List Value} {bs:List (Option Nat)},cs.all (fun v=> match v with | .d (.v _)=> true | _=> false)=true→ResT S w cs vs bs→ResT S' w cs vs bs:=by
  intro cs
  induction cs with
  | nil=> exact fun _ h=> h
  | cons c cs ih=>
   rintro vs bs hc ⟨v,vs',b,b2,h1,h2,h3,h4⟩
   simp only [List.all_cons,Bool.and_eq_true] at hc
   refine ⟨v,vs',b,b2,h1,h2,?_,ih hc.2 h4⟩
   have hc1:=hc.1
   cases c with
   | d y=> exact let ⟨b,e,h⟩:=h3;⟨b,e,one hc1 h⟩
   | _=> cases hc1
 cases x with
 | d y=> exact let ⟨b,e,h⟩:=h;⟨b,e,one (by cases y <;> first | rfl | cases hx) h⟩
 | tup cs=> exact let ⟨xs,e,h⟩:=h;⟨xs,e,manyT hx h⟩
 | agg cs=> exact let ⟨xs,e,h⟩:=h;⟨xs,e,many hx h⟩
 | _=> cases hx
end
end Go.Proofs.YtiklglcjecopcaaGreatDoor

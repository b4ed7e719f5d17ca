/-
Evaluation of Go code on plain data: what a call's contract says; steps that several operations share. Over any program.
-/
import Derived.Test.YtnegekppaoedgaaGreatDoorQ01
import Derived.Deep.MidRow
import Derived.Deep.Slices
namespace Go.Proofs.YtnegekppaoedgaaGreatDoor
section
open Go.RowKit
def OwnAt (S:Nat→Prop) (w:World) (sz:Nat) (es:List (List D)) (v:Value) (b:Option Nat):Prop:=
 (∀e∈es,e.length=sz)∧((b=none∧es= []∧∃A,v= .slice A 0 0)∨
  ∃g T cur cap,b=some g∧v= .slice (some ⟨g,0,none⟩) es.length cap∧w.heap[g]? =some (.cells cur T (0,0))∧es.length≤cap∧cap≤maxLen∧cur.size=cap * sz∧
   ∀(i j:Nat) (e:List D) (x:D),es[i]? =some e→e[j]? =some x→∃v,cur[i * sz + j]? =some v∧aV S w x v)
def Hf (S:Nat→Prop) (w:World):AV→Value→Option Nat→Prop
 | .ow sz es,v,b=> OwnAt S w sz es v b
 | .d x,v,b=> aV S w x v∧b=none
 | _,_,_=> False
def BH (S:Nat→Prop) (w:World):List AV→List Value→List (Option Nat)→Prop
 | [],vs,bs=> vs= []∧bs= []
 | c::r,vs,bs=> ∃v vs' b b2,vs=v::vs'∧bs=b::b2∧Hf S w c v b∧BH S w r vs' b2
def Hg (S:Nat→Prop) (w:World):AV→Value→List (Option Nat)→Prop
 | .agg cs,v,bs=> ∃xs,v= .agg xs∧BH S w cs xs.toList bs
 | c,v,bs=> ∃b,bs= [b]∧Hf S w c v b
def Hl (S:Nat→Prop) (w:World):List AV→List Value→List (Option Nat)→Prop
 | [],vs,bs=> vs= []∧bs= []
 | c::r,vs,bs=> ∃v vs' b1 b2,vs=v::vs'∧bs=b1 ++ b2∧Hg S w c v b1∧Hl S w r vs' b2
def dG (S:Nat→Prop) (w:World):AV→Value→List (Option Nat)→Prop
 | .bH vs,v,bs=> ∃xs,v= .tuple xs∧Hl S w vs xs.toList bs
 | c,v,bs=> Hg S w c v bs
def Apart (bs:List (Option Nat)):Prop:=(bs.filterMap id).Nodup
def G6 (A:Nat→Prop) (w:World):Cx:=⟨fun _ _=> ⟨none,0,0,0⟩,fun _=> 0,A,w⟩
def Fn (dr:Prop) (P:Program) (f:FuncId) (args:List AV) (r:AV):Prop:=
 (∀(args:Array Value) (w:World),(callFunc f args).run P w= .ok (.enter f args) w)∧∀(w:World) (A:Nat→Prop) (vals:Array Value),Inv w→(∀b,A b→b < w.heap.size)→bT (G6 A w) args vals.toList→
  Calls P f vals w fun e w'=> ∃v S' bs,e= .returned v∧gQ dr w.heap.size w w'∧(∀b,S' b→b < w'.heap.size∧(A b∨w.heap.size≤b))∧dG S' w' r v bs∧Apart bs∧∀b,some b∈bs→w.heap.size≤b∧b < w'.heap.size∧¬S' b
def vM (dr:Prop) (P:Program) (f:FuncId) (args:List AV) (r:AV):Prop:=Fn dr P f args r
section
variable {F : FuncId → List AV → AV → Prop} {w0 : Start} {A : Nat → Prop}
theorem oh (s:Nat) (cz:List Nat):∀(cs:List AV) (j:Nat) (k:List AV→Step) (m:Mem) (κ:Cx) (vs:List Value) (v:AV) (m':Mem),gG w0 A m κ→bT κ cs vs→(settle s cz j cs k).Runs F m v m'→
  ∃m1 κ1 cs1,gG w0 A m1 κ1∧κ.Le κ1∧κ1.w=κ.w∧bT κ1 cs1 vs∧(k cs1).Runs F m1 v m'
 | [],j,k,m,κ,vs,v,m',hs,hr,h=> ⟨m,κ,[],hs,.refl κ,rfl,hr,h⟩
 | c::cs,j,k,m,κ,vs,v,m',hs,hr,h=> by
  obtain ⟨x,vs',rfl,hx,hr'⟩:=hr.cons_inv
  by_cases hc:c= .nl
  ·subst hc
   simp only [settle] at h
   cases h with
   | new h=>
    cases hx with
    | nl A'=>
     have:=hs.add (gQ.refl _ _) (s + 65536 * (j + 1)) (.rows (cz.getD j 0) [] false) ⟨none,0,0,0⟩ (fun b hb=> by cases hb) rfl (fun _=> ⟨rfl,fun e he=> by simp at he,Or.inl ⟨rfl,rfl⟩⟩)
     obtain ⟨hs1,hle⟩:=this
     obtain ⟨m1,κ1,cs1,g1,g2,g3,g4,g5⟩:=oh s cz cs (j + 1) _ _ _ vs' v m' hs1 (hr'.mono hle) h
     refine ⟨m1,κ1,_,g1,hle.trans g2,g3,.cons ?_ g4,g5⟩
     have hgn:m.gen (s + 65536 * (j + 1)) + 1=κ.gn (s + 65536 * (j + 1)) + 1:=by rw [hs.gn]
     rw [hgn]
     refine Rel.mono g2 (.row0 A' ?_ ?_ ?_)
     ·rw [Cx.yG];exact Nat.le_refl _
     ·rw [Cx.gJ]
     ·rw [Cx.gJ]
  ·have e:settle s cz j (c::cs) k=settle s cz (j + 1) cs fun r=> k (c::r):=by
    cases c <;> first | rfl | exact absurd rfl hc
   rw [e] at h
   obtain ⟨m1,κ1,cs1,g1,g2,g3,g4,g5⟩:=oh s cz cs (j + 1) _ _ _ vs' v m' hs hr' h
   exact ⟨m1,κ1,_,g1,g2,g3,.cons (hx.mono g2) g4,g5⟩
theorem rows_data {κ:Cx} {l:Loc} {sz:Nat} {es:List (List D)} {ro:Bool} (h:qU κ l (.rows sz es ro)) {S:Nat→Prop} (h1:∀b,κ.S b→S b) (h2:∀b,l.blk=some b→S b):
  aV S κ.w (.fz es) (match l.blk with | some b=> .slice (some ⟨b,0,none⟩) l.len l.cap | none=> .slice none 0 0):=by
 obtain ⟨e1,e2,h⟩:=h
 rcases h with ⟨hb,rfl⟩ | ⟨b,T,cur,hb,hz,hh,hl,hm,hc,hr⟩
 ·rw [hb]
  exact .fz0 _ _ fun _=> rfl
 ·rw [hb,←e1]
  refine .fz es b 0 sz l.cap (fun j=> cur.getD j undef) e2 (h2 b hb) (by rw [e1];exact hl) (fun j hj=> ?_) (fun i j e x he hx=> ?_)
  ·rw [Nat.zero_add,cell_of_row _ _ _ cur T (0,0) hh]
   have:j < cur.size:=by
    rw [hc]
    exact Nat.lt_of_lt_of_le hj (Nat.mul_le_mul_right _ (by rw [e1];exact hl))
   rw [Array.getElem?_eq_getElem this]
   simp [Array.getD,this]
  ·obtain ⟨v,hv,hd⟩:=hr i j e x he hx
   have:(cur.getD (i * sz + j) undef)=v:=by
    simp only [Array.getD_eq_getD_getElem?,hv,Option.getD_some]
   rw [this]
   exact hd.mono h1 (fun _ _=> rfl)
theorem aaR {S:Nat→Prop} {w:World} {es:List (List D)} {v:Value} (h:aV S w (.fz es) v) {b c l sz:Nat} (hv:v= .slice (some ⟨b,0,none⟩) l c) (hs:∀e∈es,e.length=sz) (o n cc:Nat) (hn:o + n≤es.length) (hcc:n≤cc):
  aV S w (.fz ((es.drop o).take n)) (.slice (some ⟨b,o * sz,none⟩) n cc):=by
 have hlen:((es.drop o).take n).length=n:=by simp;omega
 by_cases h0:n=0
 ·subst h0
  rw [List.take_zero]
  exact .fz0 _ _ fun h=> by cases h
 ·cases h with
  | fz0 A c _=> simp at hn;omega
  | fz _ b' o' sz' c' vs hs' hb hcap hc hr=>
   injection hv with hv1 hv2 hv3
   injection hv1 with hv1
   injection hv1 with hv1 hv4 _
   subst hv1 hv4
   have hsz:sz'=sz:=by
    obtain ⟨e,es',rfl⟩:=List.exists_cons_of_length_pos (l:=es) (by omega)
    rw [←hs e (by simp),hs' e (by simp)]
   subst hsz
   have:=aV.fz (S:=S) (w:=w) ((es.drop o).take n) b' (o * sz') sz' cc (fun j=> vs (o * sz' + j)) (fun e he=> hs e (List.mem_of_mem_drop (List.mem_of_mem_take he))) hb (by rw [hlen];exact hcc)
    (fun j hj=> by
     rw [hlen] at hj
     have h2:=hc (o * sz' + j) (by
      have:(o + n) * sz'≤es.length * sz':=Nat.mul_le_mul_right _ hn
      rw [Nat.add_mul] at this
      omega)
     rw [Nat.zero_add] at h2
     exact h2)
    (fun i j e x he hx=> by
     rw [List.getElem?_take] at he
     split at he
     ·rw [List.getElem?_drop] at he
      have:=hr (o + i) j e x he hx
      rw [Nat.add_mul,Nat.add_assoc] at this
      exact this
     ·cases he)
   rw [hlen] at this
   exact this
theorem oP {κ:Cx} {m:Mem} (hs:gG w0 A m κ) {s g sz n:Nat} {es:List (List D)} {ro:Bool} (hi:m.at_ s g=some (.rows sz es ro)) {u:Value} (hu:Rel κ (.row s g n) u) {S:Nat→Prop} (h1:∀b,κ.S b→S b) (h2:∀b,(κ.φ s g).blk=some b→S b):
  aV S κ.w (.fz es) u∧es.length=n:=by
 have ho:=hs.ok s g _ hi
 have hd:=rows_data ho h1 h2
 cases hu with
 | row0 A' hg hb hl=>
  have e:es= []:=List.eq_nil_of_length_eq_zero (by rw [ho.1,hl])
  subst e
  exact ⟨.fz0 _ _ fun _=> rfl,rfl⟩
 | row hg hb=>
  rw [hb] at hd
  exact ⟨hd,ho.1⟩
theorem wo {κ:Cx} {m:Mem} (hs:gG w0 A m κ) {s g sz o n:Nat} {es:List (List D)} {ro:Bool} (hi:m.at_ s g=some (.rows sz es ro)) {u:Value} (hu:Rel κ (.sub s g o n) u) {S:Nat→Prop} (h1:∀b,κ.S b→S b) (h2:∀b,(κ.φ s g).blk=some b→S b):
  aV S κ.w (.fz ((es.drop o).take n)) u∧o + n≤es.length:=by
 have ho:=hs.ok s g _ hi
 have hd:=rows_data ho h1 h2
 cases hu with
 | BF A' hg hb hl=>
  have e:es= []:=List.eq_nil_of_length_eq_zero (by rw [ho.1,hl])
  subst e
  exact ⟨.fz0 _ _ fun _=> rfl,by simp⟩
 | sub A' hg hb hA hn=>
  rw [hb] at hd
  obtain ⟨e1,e2,h3⟩:=ho
  rw [e1]
  refine ⟨?_,hn⟩
  rcases h3 with ⟨h4,_⟩ | ⟨b',T,cur,hb',hz,hh,hl,hm,hc,hr⟩
  ·rw [h4] at hb;cases hb
  ·rcases hA with ⟨rfl,hA⟩ | rfl
   ·rw [List.take_zero]
    exact .fz0 _ _ fun _=> hA
   ·rw [hz]
    exact aaR hd rfl e2 o n _ (by rw [e1];exact hn) (by omega)
theorem OX {x:AV} {k:D→Step} {m:Mem} {κ:Cx} {u:Value} {v:AV} {m':Mem} (hs:gG w0 A m κ) (hu:Rel κ x u) (h:(dataOf x k).Runs F m v m'):
  ∃m1 κ1 y,gG w0 A m1 κ1∧κ.Le κ1∧κ1.w=κ.w∧aV κ1.S κ1.w y u∧(k y).Runs F m1 v m':=by
 cases x with
 | d y=>
  cases hu with
  | d hu=> exact ⟨m,κ,y,hs,.refl κ,rfl,hu,h⟩
 | nl=>
  cases hu with
  | nl A'=> exact ⟨m,κ,.fz [],hs,.refl κ,rfl,.fz0 _ _ fun _=> rfl,h⟩
 | row s g n=>
  cases h with
  | yC hi h=>
   cases h with
   | nV hi' h=>
    rw [hi] at hi'
    injection hi' with hi'
    injection hi' with q1 q2 q3
    subst q1 q2 q3
    obtain ⟨h1,h2⟩:=hs.nV hi
    exact ⟨_,_,_,h1,h2,rfl,(oP hs hi hu h2.S (fun _ hb=> Or.inr hb)).1,h⟩
 | sub s g o n=>
  cases h with
  | yC hi h=>
   cases h with
   | nV hi' h=>
    rw [hi] at hi'
    injection hi' with hi'
    injection hi' with q1 q2 q3
    subst q1 q2 q3
    obtain ⟨h1,h2⟩:=hs.nV hi
    exact ⟨_,_,_,h1,h2,rfl,(wo hs hi hu h2.S (fun _ hb=> Or.inr hb)).1,h⟩
 | _=> cases h
theorem oI:∀(cs:List AV) (k:List D→Step) (m:Mem) (κ:Cx) (vs:List Value) (v:AV) (m':Mem),gG w0 A m κ→bT κ cs vs→(lI cs k).Runs F m v m'→
  ∃m1 κ1 ds,gG w0 A m1 κ1∧κ.Le κ1∧κ1.w=κ.w∧(ds.length=vs.length∧∀(j:Nat) (d:D) (u:Value),ds[j]? =some d→vs[j]? =some u→aV κ1.S κ1.w d u)∧(k ds).Runs F m1 v m'
 | [],k,m,κ,vs,v,m',hs,hr,h=> ⟨m,κ,[],hs,.refl κ,rfl,⟨by rw [hr.bg];rfl,fun j d u hd=> by simp at hd⟩,h⟩
 | c::cs,k,m,κ,vs,v,m',hs,hr,h=> by
  obtain ⟨x,vs',rfl,hx,hr'⟩:=hr.cons_inv
  obtain ⟨m1,κ1,y,g1,g2,g3,g4,g5⟩:=OX hs hx h
  obtain ⟨m2,κ2,ds,q1,q2,q3,q4,q5⟩:=oI cs _ _ _ vs' v m' g1 (hr'.mono g2) g5
  refine ⟨m2,κ2,_,q1,g2.trans q2,q3.trans g3,⟨by simp [q4.1],fun j d u hd hu=> ?_⟩,q5⟩
  cases j with
  | zero=> simp at hd hu;subst hd hu;exact q2.BG g4
  | succ j=> exact q4.2 j d u (by simpa using hd) (by simpa using hu)
def jR (κ:Cx) (l:List (Nat×Nat)) (b:Nat):Prop:=∃p∈l,(κ.φ p.1 p.2).blk=some b
def pX (m:Mem) (l:List (Nat×Nat)):Prop:=∀p∈l,∃i,m.at_ p.1 p.2=some i
theorem wu {S S':Nat→Prop} {w:World} (h:∀b,S b→S' b):(G6 S w).Le (G6 S' w):=⟨fun _=> Nat.le_refl _,fun _ _ _=> rfl,h,fun _ _=> rfl⟩
theorem VA {κ:Cx} {m:Mem} (hs:gG w0 A m κ) {s g:Nat} {ck:CK} {es:List (Value×D)} (hi:m.at_ s g=some (.qP ck es)) {u:Value} (hu:Rel κ (.mp s g) u) {S:Nat→Prop} (h1:∀b,κ.S b→S b) (h2:∀b,(κ.φ s g).blk=some b→S b):aV S κ.w (.mz ck es) u:=by
 obtain ⟨b,ents,clock,hb,hh,hm,hst⟩:=hs.ok s g _ hi
 cases hu with
 | mp hg hb'=>
  rw [hb] at hb'
  injection hb' with e
  subst e
  exact .map_mk (h2 _ hb) hh hst ⟨hm.1,fun j p e hp he=> ⟨(hm.2 j p e hp he).1,(hm.2 j p e hp he).2.1.mono h1 (fun _ _=> rfl),(hm.2 j p e hp he).2.2⟩⟩
theorem XA {m:Mem} {κ:Cx} (hs:gG w0 A m κ) {s g:Nat} {ck:CK} {es:List (Value×D)} (hi:m.at_ s g=some (.qP ck es)) {u:Value} (hu:Rel κ (.mp s g) u):∃b ents clock,u= .map (some b)∧(κ.φ s g).blk=some b∧κ.w.heap[b]? =some (.map ents clock)∧MapAt κ ck ents es∧MapKept.Stamped ents clock:=by
 obtain ⟨b,ents,clock,hb,hh,hm⟩:=hs.ok s g _ hi
 cases hu with
 | mp hg hb'=>
  rw [hb] at hb'
  injection hb' with hb'
  subst hb'
  exact ⟨_,_,_,rfl,hb,hh,hm⟩
theorem OY {S:Nat→Prop} {w:World} {b o:Nat} {T:TypeId} {vs:Array Value} {ds:List D} (hh:w.heap[b]? =some (.cells vs T (0,0))) (g2:ds.length=(vs.toList.drop o).length) (g3:∀(j:Nat) (x:D) (u:Value),ds[j]? =some x→(vs.toList.drop o)[j]? =some u→aV S w x u):
  (∀j,j < ds.length→w.cell? ⟨b,o + j,none⟩=some (((vs.toList.drop o)[j]?).getD undef))∧∀(j:Nat) (x:D),ds[j]? =some x→aV S w x (((vs.toList.drop o)[j]?).getD undef):=by
 have cell:∀j,j < ds.length→∃y,(vs.toList.drop o)[j]? =some y∧w.cell? ⟨b,o + j,none⟩=some y:=by
  intro j hj
  rw [g2] at hj
  refine ⟨(vs.toList.drop o)[j],List.getElem?_eq_getElem hj,?_⟩
  rw [cell_of_row _ _ _ vs T (0,0) hh]
  have:=List.getElem?_eq_getElem hj
  rw [List.getElem?_drop] at this
  simp
 refine ⟨fun j hj=> ?_,fun j x hx=> ?_⟩
 ·obtain ⟨y,e1,e2⟩:=cell j hj
  rw [e2,e1]
  rfl
 ·have hj:j < ds.length:=(List.getElem?_eq_some_iff.1 hx).1
  obtain ⟨y,e1,e2⟩:=cell j hj
  rw [e1]
  exact g3 j x y hx e1
theorem mQ {κ:Cx} {p:Nat×Nat} {l:List (Nat×Nat)} {b:Nat} (h:κ.S b∨jR κ l b):κ.S b∨jR κ (p::l) b:=h.imp id fun ⟨q,hq,hb⟩=> ⟨q,by simp [hq],hb⟩
theorem aaS {κ:Cx} {l l':List (Nat×Nat)} {b:Nat} (h:κ.S b∨jR κ l b):κ.S b∨jR κ (l ++ l') b:=h.imp id fun ⟨q,hq,hb⟩=> ⟨q,by simp [hq],hb⟩
theorem XB {κ:Cx} {l l':List (Nat×Nat)} {b:Nat} (h:κ.S b∨jR κ l' b):κ.S b∨jR κ (l ++ l') b:=h.imp id fun ⟨q,hq,hb⟩=> ⟨q,by simp [hq],hb⟩
theorem l9 {m:Mem} {p:Nat×Nat} {i:Inst} {l:List (Nat×Nat)} (h:m.at_ p.1 p.2=some i) (hl:pX m l):pX m (p::l):=fun q hq=> by
 rcases List.mem_cons.1 hq with rfl | hq
 ·exact ⟨_,h⟩
 ·exact hl q hq
theorem iT {κ:Cx} {l:List (Nat×Nat)} {S:Nat→Prop} {x0:D} {u0:Value} {ds:List D} {vs:List Value} (h0:aV S κ.w x0 u0) (hS:∀b,(κ.S b∨jR κ l b)→S b) (h:∀(j:Nat) (x:D) (u:Value),ds[j]? =some x→vs[j]? =some u→aV (fun b=> κ.S b∨jR κ l b) κ.w x u):
  ∀(j:Nat) (x:D) (u:Value),(x0::ds)[j]? =some x→(u0::vs)[j]? =some u→aV S κ.w x u:=by
 intro j x u hj hu
 cases j with
 | zero=>
  simp at hj hu
  subst hj hu
  exact h0
 | succ j=> exact (h j x u (by simpa using hj) (by simpa using hu)).mono hS (fun _ _=> rfl)
theorem oq:∀(cs:List AV) (k:List D→List (Nat×Nat)→Step) (m:Mem) (κ:Cx) (vs:List Value) (v:AV) (m':Mem),gG w0 A m κ→bT κ cs vs→(uM cs k).Runs F m v m'→
  ∃ds l,(k ds l).Runs F m v m'∧ds.length=vs.length∧(∀(j:Nat) (x:D) (u:Value),ds[j]? =some x→vs[j]? =some u→aV (fun b=> κ.S b∨jR κ l b) κ.w x u)∧pX m l
 | [],k,m,κ,vs,v,m',hs,hr,h=> ⟨[],[],h,by rw [hr.bg];rfl,fun j x u hj=> by simp at hj,fun p hp=> by simp at hp⟩
 | c::cs,k,m,κ,vs,v,m',hs,hr,h=> by
  obtain ⟨u0,vs',rfl,hx,hr'⟩:=hr.cons_inv
  cases c with
  | d y=>
   obtain ⟨ds,l,g1,g2,g3,g4⟩:=oq cs _ m κ vs' v m' hs hr' h
   cases hx with
   | d hd=> exact ⟨_,_,g1,by simp [g2],iT (hd.mono (fun _ h=> Or.inl h) (fun _ _=> rfl)) (fun b hb=> hb) g3,g4⟩
  | row s g n=>
   cases h with
   | yC hi h=>
    obtain ⟨ds,l,g1,g2,g3,g4⟩:=oq cs _ m κ vs' v m' hs hr' h
    exact ⟨_,_,g1,by simp [g2],iT (oP hs hi hx (fun _ h=> Or.inl h) (fun b hb=> Or.inr ⟨(s,g),by simp,hb⟩)).1 (fun b hb=> mQ hb) g3,l9 (p:=(s,g)) hi g4⟩
  | mp s g=>
   cases h with
   | OO hi h=>
    obtain ⟨ds,l,g1,g2,g3,g4⟩:=oq cs _ m κ vs' v m' hs hr' h
    exact ⟨_,_,g1,by simp [g2],iT (VA hs hi hx (fun _ h=> Or.inl h) (fun b hb=> Or.inr ⟨(s,g),by simp,hb⟩)) (fun b hb=> mQ hb) g3,l9 (p:=(s,g)) hi g4⟩
  | _=> cases h
theorem kP:∀(cs:List AV) (k:List D→List (Nat×Nat)→Step) (m:Mem) (κ:Cx) (vs:List Value) (v:AV) (m':Mem),gG w0 A m κ→bT κ cs vs→(cellL cs k).Runs F m v m'→
  ∃ds l,(k ds l).Runs F m v m'∧ds.length=vs.length∧(∀(j:Nat) (x:D) (u:Value),ds[j]? =some x→vs[j]? =some u→aV (fun b=> κ.S b∨jR κ l b) κ.w x u)∧pX m l
 | [],k,m,κ,vs,v,m',hs,hr,h=> ⟨[],[],h,by rw [hr.bg];rfl,fun j x u hj=> by simp at hj,fun p hp=> by simp at hp⟩
 | c::cs,k,m,κ,vs,v,m',hs,hr,h=> by
  obtain ⟨u0,vs',rfl,hx,hr'⟩:=hr.cons_inv
  cases c with
  | d y=>
   obtain ⟨ds,l,g1,g2,g3,g4⟩:=kP cs _ m κ vs' v m' hs hr' h
   cases hx with
   | d hd=> exact ⟨_,_,g1,by simp [g2],iT (hd.mono (fun _ h=> Or.inl h) (fun _ _=> rfl)) (fun b hb=> hb) g3,g4⟩
  | row s g n=>
   cases h with
   | yC hi h=>
    obtain ⟨ds,l,g1,g2,g3,g4⟩:=kP cs _ m κ vs' v m' hs hr' h
    exact ⟨_,_,g1,by simp [g2],iT (oP hs hi hx (fun _ h=> Or.inl h) (fun b hb=> Or.inr ⟨(s,g),by simp,hb⟩)).1 (fun b hb=> mQ hb) g3,l9 (p:=(s,g)) hi g4⟩
  | mp s g=>
   cases h with
   | OO hi h=>
    obtain ⟨ds,l,g1,g2,g3,g4⟩:=kP cs _ m κ vs' v m' hs hr' h
    exact ⟨_,_,g1,by simp [g2],iT (VA hs hi hx (fun _ h=> Or.inl h) (fun b hb=> Or.inr ⟨(s,g),by simp,hb⟩)) (fun b hb=> mQ hb) g3,l9 (p:=(s,g)) hi g4⟩
  | fp cs1=>
   obtain ⟨ds,l,g1,g2,g3,g4⟩:=kP cs _ m κ vs' v m' hs hr' h
   cases hx with
   | fp us hb hc hrd=> exact ⟨_,_,g1,by simp [g2],iT (.pz _ _ _ us (Or.inl hb) hc fun j x hx=> (hrd j x hx).mono (fun _ h=> Or.inl h) (fun _ _=> rfl)) (fun b hb=> hb) g3,g4⟩
  | lp s g o=>
   cases h with
   | Am hi h=>
    obtain ⟨b,T,us,hb,hh,hn,hr⟩:=hs.ok s g _ hi
    have hL:=bT.drop (κ:=κ) (cs:=_) (vs:=us.toList) ⟨by simpa using hn,fun j c u hc hu=> (hr j c u hc (by simpa using hu)).1⟩ o
    obtain ⟨ds0,l0,q1,q2,q3,q4⟩:=oq _ _ m κ _ v m' hs hL h
    obtain ⟨ds,l,g1,g2,g3,g4⟩:=kP cs _ m κ vs' v m' hs hr' q1
    refine ⟨_,_,g1,by simp [g2],iT ?_ (fun b hb=> mQ (XB hb)) g3,l9 (p:=(s,g)) hi fun p hp=> ?_⟩
    ·cases hx with
     | @lp _ _ _ b' hg hb'=>
      rw [hb] at hb'
      injection hb' with hb'
      subst hb'
      obtain ⟨e1,e2⟩:=OY (S:=fun b=> κ.S b∨jR κ ((s,g)::(l0 ++ l)) b) hh q2 fun j x u hx hu=> (q3 j x u hx hu).mono (fun b hb=> mQ (aaS hb)) (fun _ _=> rfl)
      exact .pz _ _ _ _ (Or.inr ⟨(s,g),by simp,hb⟩) e1 e2
    ·rcases List.mem_append.1 hp with hp | hp
     ·exact q4 p hp
     ·exact g4 p hp
  | _=> cases h
theorem Ip {x:AV} {k:AV→List (Nat×Nat)→Step} {m:Mem} {κ:Cx} {u:Value} {v:AV} {m':Mem} (hs:gG w0 A m κ) (hu:Rel κ x u) (h:(arg0 x k).Runs F m v m'):
  ∃y l,(k y l).Runs F m v m'∧Rel (G6 (fun b=> κ.S b∨jR κ l b) κ.w) y u∧pX m l:=by
 cases x with
 | d y=>
  cases hu with
  | d hu=> exact ⟨_,[],h,.d (hu.mono (fun _ h=> Or.inl h) (fun _ _=> rfl)),fun p hp=> by simp at hp⟩
 | nl=>
  cases hu with
  | nl A'=> exact ⟨_,[],h,.d (.fz0 _ _ fun _=> rfl),fun p hp=> by simp at hp⟩
 | row s g n=>
  cases h with
  | yC hi h=> exact ⟨_,[(s,g)],h,.d (oP hs hi hu (fun _ h=> Or.inl h) (fun b hb=> Or.inr ⟨(s,g),by simp,hb⟩)).1,fun p hp=> by simp at hp;subst hp;exact ⟨_,hi⟩⟩
 | sub s g o n=>
  cases h with
  | yC hi h=> exact ⟨_,[(s,g)],h,.d (wo hs hi hu (fun _ h=> Or.inl h) (fun b hb=> Or.inr ⟨(s,g),by simp,hb⟩)).1,fun p hp=> by simp at hp;subst hp;exact ⟨_,hi⟩⟩
 | lp s g o=>
  cases h with
  | Am hi h=>
   obtain ⟨b,T,vs,hb,hh,hn,hr⟩:=hs.ok s g _ hi
   have hL:=bT.drop (κ:=κ) (cs:=_) (vs:=vs.toList) ⟨by simpa using hn,fun j c u hc hu=> (hr j c u hc (by simpa using hu)).1⟩ o
   obtain ⟨ds,l,g1,g2,g3,g4⟩:=kP _ _ m κ _ v m' hs hL h
   refine ⟨_,_,g1,?_,l9 (p:=(s,g)) hi g4⟩
   cases hu with
   | @lp _ _ _ b' hg hb'=>
    rw [hb] at hb'
    injection hb' with hb'
    subst hb'
    obtain ⟨e1,e2⟩:=OY (S:=fun b=> κ.S b∨jR κ ((s,g)::l) b) hh g2 fun j x u hx hu=> (g3 j x u hx hu).mono (fun b hb=> mQ hb) (fun _ _=> rfl)
    exact .fp _ (Or.inr ⟨(s,g),by simp,hb⟩) e1 e2
 | fp ds=>
  cases hu with
  | fp vs hb hc hr=> exact ⟨_,[],h,.fp vs (Or.inl hb) hc fun j x hx=> (hr j x hx).mono (fun _ h=> Or.inl h) (fun _ _=> rfl),fun p hp=> by simp at hp⟩
 | _=> cases h
theorem yH:∀(cs:List AV) (k:List AV→List (Nat×Nat)→Step) (m:Mem) (κ:Cx) (vs:List Value) (v:AV) (m':Mem),gG w0 A m κ→bT κ cs vs→(OU cs k).Runs F m v m'→
  ∃ys l,(k ys l).Runs F m v m'∧bT (G6 (fun b=> κ.S b∨jR κ l b) κ.w) ys vs∧pX m l
 | [],k,m,κ,vs,v,m',hs,hr,h=> ⟨[],[],h,by rw [hr.bg];exact .nil _,fun p hp=> by simp at hp⟩
 | c::cs,k,m,κ,vs,v,m',hs,hr,h=> by
  obtain ⟨x,vs',rfl,hx,hr'⟩:=hr.cons_inv
  obtain ⟨y,l,g1,g2,g3⟩:=Ip hs hx h
  obtain ⟨ys,l',q1,q2,q3⟩:=yH cs _ m κ vs' v m' hs hr' g1
  refine ⟨_,_,q1,.cons (g2.mono (wu fun b hb=> ?_)) (q2.mono (wu fun b hb=> ?_)),fun p hp=> ?_⟩
  ·rcases hb with hb | ⟨p,hp,hb⟩
   ·exact Or.inl hb
   ·exact Or.inr ⟨p,by simp [hp],hb⟩
  ·rcases hb with hb | ⟨p,hp,hb⟩
   ·exact Or.inl hb
   ·exact Or.inr ⟨p,by simp [hp],hb⟩
  ·rcases List.mem_append.1 hp with hp | hp
   ·exact g3 p hp
   ·exact q3 p hp
theorem XC {x:AV} {k:AV→List (Nat×Nat)→Step} {m:Mem} {κ:Cx} {u:Value} {v:AV} {m':Mem} (hs:gG w0 A m κ) (hu:Rel κ x u) (h:(arg1 x k).Runs F m v m'):
  ∃y l,(k y l).Runs F m v m'∧Rel (G6 (fun b=> κ.S b∨jR κ l b) κ.w) y u∧pX m l:=by
 cases x with
 | fn f cs=>
  cases hu with
  | @fn _ _ vs hl hh=>
   obtain ⟨ys,l,g1,g2,g3⟩:=yH cs _ m κ vs.toList v m' hs ⟨by simpa using hl,fun j c y hc hy=> hh j c y hc (by simpa using hy)⟩ h
   exact ⟨_,l,g1,.fn (by have:=g2.1;simpa using this) fun j c y hc hy=> g2.2 j c y hc (by simpa using hy),g3⟩
 | _=> exact Ip hs hu h
theorem Iq:∀(cs:List (Option AV)) (k:List AV→List (Nat×Nat)→Step) (m:Mem) (κ:Cx) (vs:List Value) (v:AV) (m':Mem),gG w0 A m κ→vs.length=cs.length→
  (∀(j:Nat) (c:AV) (u:Value),cs[j]? =some (some c)→vs[j]? =some u→Rel κ c u)→(kJ cs k).Runs F m v m'→
  ∃ys l,(k ys l).Runs F m v m'∧bT (G6 (fun b=> κ.S b∨jR κ l b) κ.w) ys vs∧pX m l
 | [],k,m,κ,vs,v,m',hs,hn,hr,h=> ⟨[],[],h,by rw [List.eq_nil_of_length_eq_zero hn];exact .nil _,fun p hp=> by simp at hp⟩
 | none::cs,k,m,κ,vs,v,m',hs,hn,hr,h=> by cases h
 | some c::cs,k,m,κ,vs,v,m',hs,hn,hr,h=> by
  cases vs with
  | nil=> simp at hn
  | cons x vs'=>
  have hx:=hr 0 c x rfl rfl
  have hr':∀(j:Nat) (c:AV) (u:Value),cs[j]? =some (some c)→vs'[j]? =some u→Rel κ c u:=fun j d u hd hu=> hr (j + 1) d u (by simpa using hd) (by simpa using hu)
  have key:∃(y:AV) (l:List (Nat×Nat)),(kJ cs fun xs m=> k (y::xs) (l ++ m)).Runs F m v m'∧Rel (G6 (fun b=> κ.S b∨jR κ l b) κ.w) y x∧pX m l:=by
   by_cases hc:∃ds,c= .agg ds
   ·obtain ⟨ds,rfl⟩:=hc
    obtain ⟨us,rfl,hus⟩:=hx.vZ
    obtain ⟨ys,l,g1,g2,g3⟩:=yH ds _ m κ us.toList v m' hs hus h
    exact ⟨.agg ys,l,g1,by have:=Rel.Sm g2;simpa using this,g3⟩
   ·have e:kJ (some c::cs) k=arg1 c fun x l=> kJ cs fun xs m=> k (x::xs) (l ++ m):=by
     cases c <;> first | rfl | exact absurd ⟨_,rfl⟩ hc
    rw [e] at h
    exact XC hs hx h
  obtain ⟨y,l,g1,g2,g3⟩:=key
  obtain ⟨ys,l',q1,q2,q3⟩:=Iq cs _ m κ vs' v m' hs (by simpa using hn) hr' g1
  refine ⟨_,_,q1,.cons (g2.mono (wu fun b hb=> ?_)) (q2.mono (wu fun b hb=> ?_)),fun p hp=> ?_⟩
  ·rcases hb with hb | ⟨p,hp,hb⟩
   ·exact Or.inl hb
   ·exact Or.inr ⟨p,by simp [hp],hb⟩
  ·rcases hb with hb | ⟨p,hp,hb⟩
   ·exact Or.inl hb
   ·exact Or.inr ⟨p,by simp [hp],hb⟩
  ·rcases List.mem_append.1 hp with hp | hp
   ·exact g3 p hp
   ·exact q3 p hp
theorem Ir:∀(l:List (Nat×Nat)) (k:Step) (m:Mem) (κ:Cx) (v:AV) (m':Mem),gG w0 A m κ→(Xr l k).Runs F m v m'→
  ∃m1 S1,gG w0 A m1 {κ with S:=S1}∧κ.Le {κ with S:=S1}∧(∀b,S1 b↔κ.S b∨jR κ l b)∧(∀s g i,m1.at_ s g=some i→∃i',m.at_ s g=some i')∧k.Runs F m1 v m'
 | [],k,m,κ,v,m',hs,h=> ⟨m,κ.S,hs,.refl κ,fun b=> by simp [jR],fun s g i hi=> ⟨i,hi⟩,h⟩
 | (s,g)::l,k,m,κ,v,m',hs,h=> by
  cases h with
  | nV hi h=>
   obtain ⟨h1,h2⟩:=hs.nV hi
   obtain ⟨m1,S1,q1,q2,q3,q4,q5⟩:=Ir l k _ _ v m' h1 h
   refine ⟨m1,S1,q1,h2.trans q2,fun b=> ?_,fun x y i hx=> ?_,q5⟩
   ·rw [q3 b]
    constructor
    ·rintro ((hb | hb) | ⟨p,hp,hb⟩)
     ·exact Or.inl hb
     ·exact Or.inr ⟨(s,g),by simp,hb⟩
     ·exact Or.inr ⟨p,by simp [hp],hb⟩
    ·rintro (hb | ⟨p,hp,hb⟩)
     ·exact Or.inl (Or.inl hb)
     ·rcases List.mem_cons.1 hp with rfl | hp
      ·exact Or.inl (Or.inr hb)
      ·exact Or.inr ⟨p,hp,hb⟩
   ·obtain ⟨i',hi'⟩:=q4 x y i hx
    rw [setAt] at hi'
    split at hi'
    ·rename_i hxy
     obtain ⟨rfl,rfl⟩:=hxy
     exact ⟨_,hi⟩
    ·exact ⟨_,hi'⟩
theorem OwnAt.mono {S S':Nat→Prop} {w:World} (hS:∀b,S b→S' b) {sz:Nat} {es:List (List D)} {v:Value} {b:Option Nat} (h:OwnAt S w sz es v b):OwnAt S' w sz es v b:=by
 refine ⟨h.1,h.2.imp id ?_⟩
 rintro ⟨g,T,cur,cap,q1,q2,q3,q4,q5,q6,q7⟩
 exact ⟨g,T,cur,cap,q1,q2,q3,q4,q5,q6,fun i j e x he hx=> let ⟨v,hv,hd⟩:=q7 i j e x he hx;⟨v,hv,hd.mono hS (fun _ _=> rfl)⟩⟩
theorem Hf.mono {S S':Nat→Prop} {w:World} (hS:∀b,S b→S' b) {x:AV} {v:Value} {b:Option Nat} (h:Hf S w x v b):Hf S' w x v b:=by
 cases x with
 | ow sz es=> exact OwnAt.mono hS h
 | d x=> exact ⟨h.1.mono hS (fun _ _=> rfl),h.2⟩
 | _=> exact h
theorem BH.mono {S S':Nat→Prop} {w:World} (hS:∀b,S b→S' b):∀{cs:List AV} {vs:List Value} {bs:List (Option Nat)},BH S w cs vs bs→BH S' w cs vs bs
 | [],_,_,h=> h
 | _::_,_,_,⟨v,vs',b,b2,h1,h2,h3,h4⟩=> ⟨v,vs',b,b2,h1,h2,h3.mono hS,BH.mono hS h4⟩
theorem Hg.mono {S S':Nat→Prop} {w:World} (hS:∀b,S b→S' b) {x:AV} {v:Value} {bs:List (Option Nat)} (h:Hg S w x v bs):Hg S' w x v bs:=by
 cases x with
 | agg cs=> exact let ⟨xs,h1,h2⟩:=h;⟨xs,h1,h2.mono hS⟩
 | _=> exact let ⟨b,h1,h2⟩:=h;⟨b,h1,h2.mono hS⟩
theorem Hl.mono {S S':Nat→Prop} {w:World} (hS:∀b,S b→S' b):∀{cs:List AV} {vs:List Value} {bs:List (Option Nat)},Hl S w cs vs bs→Hl S' w cs vs bs
 | [],_,_,h=> h
 | _::_,_,_,⟨v,vs',b,b2,h1,h2,h3,h4⟩=> ⟨v,vs',b,b2,h1,h2,h3.mono hS,Hl.mono hS h4⟩
theorem dG.mono {S S':Nat→Prop} {w:World} (hS:∀b,S b→S' b) {x:AV} {v:Value} {bs:List (Option Nat)} (h:dG S w x v bs):dG S' w x v bs:=by
 have hc:= @Hg.mono S S' w hS x v bs
 cases x with
 | bH cs=> exact let ⟨xs,h1,h2⟩:=h;⟨xs,h1,h2.mono hS⟩
 | _=> exact hc h
def Free (w0:Start) (m:Mem) (κ:Cx) (b:Nat):Prop:=w0.New b∧b < κ.w.heap.size∧¬κ.S b∧∀s g i,m.at_ s g=some i→(κ.φ s g).blk≠some b
theorem BI {s:Nat} {x:AV} {k:AV→Step} {m:Mem} {κ:Cx} {u:Value} {b:Option Nat} {v:AV} {m':Mem} (hs:gG w0 A m κ) (hx:Hf κ.S κ.w x u b) (hf:∀c,b=some c→Free w0 m κ c) (h:(Ij s x k).Runs F m v m'):
  ∃m1 κ1 y,gG w0 A m1 κ1∧κ.Le κ1∧κ1.w=κ.w∧κ1.S=κ.S∧Rel κ1 y u∧(k y).Runs F m1 v m'∧∀c,Free w0 m κ c→b≠some c→Free w0 m1 κ1 c:=by
 cases x with
 | d y=> exact ⟨m,κ,.d y,hs,.refl κ,rfl,rfl,.d hx.1,h,fun c hc _=> hc⟩
 | ow sz es=>
  cases h with
  | new h=>
   obtain ⟨h1,h2⟩:=hx
   have hgn:m.gen s + 1=κ.gn s + 1:=by rw [hs.gn]
   have fre:∀l:Loc,l.blk=b→∀c,Free w0 m κ c→b≠some c→Free w0 (m.add s (.rows sz es false)) (κ.put s l κ.w) c:=by
    intro l hl c hc hne
    refine ⟨hc.1,hc.2.1,hc.2.2.1,fun x y i hi e=> ?_⟩
    rw [kM] at hi
    split at hi
    ·rename_i hxy
     obtain ⟨rfl,rfl⟩:=hxy
     rw [hgn,Cx.gJ,hl] at e
     exact hne e
    ·have hle:=κ.aaQ s l κ.w (fun _ _=> rfl)
     rw [hle.φ x y (by rw [hs.gn];exact hs.He x y i hi)] at e
     exact hc.2.2.2 x y i hi e
   rcases h2 with ⟨rfl,rfl,A',rfl⟩ | ⟨g,T,cur,cap,rfl,rfl,hh,hl,hm,hc,hr⟩
   ·obtain ⟨hs1,hle⟩:=hs.add (gQ.refl _ _) s (.rows sz [] false) ⟨none,0,0,0⟩ (fun b hb=> by cases hb) rfl (fun _=> ⟨rfl,h1,Or.inl ⟨rfl,rfl⟩⟩)
    refine ⟨_,_,_,hs1,hle,rfl,rfl,?_,h,fre _ rfl⟩
    rw [hgn]
    exact .row0 A' (by rw [Cx.yG];exact Nat.le_refl _) (by rw [Cx.gJ]) (by rw [Cx.gJ])
   ·obtain ⟨hs1,hle⟩:=hs.add (gQ.refl _ _) s (.rows sz es false) ⟨some g,cap,sz,es.length⟩ (fun b hb=> by injection hb with hb;subst hb;exact hf _ rfl) rfl
     (fun hle=> ⟨rfl,h1,Or.inr ⟨g,T,cur,rfl,rfl,hh,hl,hm,hc,fun i j e x he hx=> let ⟨v,hv,hd⟩:=hr i j e x he hx;⟨v,hv,hle.BG hd⟩⟩⟩)
    refine ⟨_,_,_,hs1,hle,rfl,rfl,?_,h,fre _ rfl⟩
    rw [hgn]
    have:=Rel.row (κ:=κ.put s ⟨some g,cap,sz,es.length⟩ κ.w) (s:=s) (g:=κ.gn s + 1) (b:=g) (by rw [Cx.yG];exact Nat.le_refl _) (by rw [Cx.gJ])
    rw [Cx.gJ] at this
    exact this
 | _=> exact hx.elim
theorem BJ (s:Nat):∀(cs:List AV) (j:Nat) (k:List AV→Step) (m:Mem) (κ:Cx) (us:List Value) (bs:List (Option Nat)) (v:AV) (m':Mem),gG w0 A m κ→BH κ.S κ.w cs us bs→Apart bs→(∀c,some c∈bs→Free w0 m κ c)→(Vt s j cs k).Runs F m v m'→
  ∃m1 κ1 ys,gG w0 A m1 κ1∧κ.Le κ1∧κ1.w=κ.w∧κ1.S=κ.S∧bT κ1 ys us∧(k ys).Runs F m1 v m'∧∀c,Free w0 m κ c→some c∉bs→Free w0 m1 κ1 c
 | [],j,k,m,κ,us,bs,v,m',hs,hr,ha,hf,h=> ⟨m,κ,[],hs,.refl κ,rfl,rfl,by rw [hr.1];exact .nil _,h,fun c hc _=> hc⟩
 | x::cs,j,k,m,κ,us,bs,v,m',hs,⟨u,us',b,b2,e1,e2,hx,hr⟩,ha,hf,h=> by
  subst e1 e2
  obtain ⟨m1,κ1,y,g1,g2,g3,g4,g5,g6,g7⟩:=BI hs hx (fun c hc=> hf c (by simp [hc])) h
  have ha':Apart b2:=by
   unfold Apart at ha ⊢
   cases b with
   | none=> simpa using ha
   | some c=> simp at ha;exact ha.2
  have hnb:∀c,some c∈b2→b≠some c:=by
   intro c hc e
   subst e
   unfold Apart at ha
   simp at ha
   exact ha.1 hc
  obtain ⟨m2,κ2,ys,q1,q2,q3,q4,q5,q6,q7⟩:=BJ s cs (j + 1) _ m1 κ1 us' b2 v m' g1 (by rw [g4,g3];exact hr) ha' (fun c hc=> g7 c (hf c (by simp [hc])) (hnb c hc)) g6
  refine ⟨m2,κ2,_,q1,g2.trans q2,q3.trans g3,q4.trans g4,.cons (g5.mono q2) q5,q6,fun c hc hn=> q7 c (g7 c hc fun e=> hn (by simp [e])) fun e=> hn (by simp [e])⟩
theorem BK {s:Nat} {x:AV} {k:AV→Step} {m:Mem} {κ:Cx} {u:Value} {bs:List (Option Nat)} {v:AV} {m':Mem} (hs:gG w0 A m κ) (hx:Hg κ.S κ.w x u bs) (ha:Apart bs) (hf:∀c,some c∈bs→Free w0 m κ c)
  (h:(Ik s x k).Runs F m v m'):
  ∃m1 κ1 y,gG w0 A m1 κ1∧κ.Le κ1∧κ1.w=κ.w∧κ1.S=κ.S∧Rel κ1 y u∧(k y).Runs F m1 v m'∧∀c,Free w0 m κ c→some c∉bs→Free w0 m1 κ1 c:=by
 by_cases hc:∃cs,x= .agg cs
 ·obtain ⟨cs,rfl⟩:=hc
  obtain ⟨xs,rfl,hx⟩:=hx
  obtain ⟨m1,κ1,ys,g1,g2,g3,g4,g5,g6,g7⟩:=BJ s cs 0 _ m κ xs.toList bs v m' hs hx ha hf h
  exact ⟨m1,κ1,_,g1,g2,g3,g4,by have:=Rel.Sm g5;simpa using this,g6,g7⟩
 ·have hx':∃b,bs= [b]∧Hf κ.S κ.w x u b:=by
   cases x <;> first | exact hx | exact absurd ⟨_,rfl⟩ hc
  obtain ⟨b,rfl,hx'⟩:=hx'
  have h':(Ij s x k).Runs F m v m':=by
   cases x <;> first | exact h | exact absurd ⟨_,rfl⟩ hc
  obtain ⟨m1,κ1,y,g1,g2,g3,g4,g5,g6,g7⟩:=BI hs hx' (fun c hc=> hf c (by simp [hc])) h'
  exact ⟨m1,κ1,y,g1,g2,g3,g4,g5,g6,fun c hc hn=> g7 c hc fun e=> hn (by simp [e])⟩
theorem BL (s:Nat):∀(cs:List AV) (j:Nat) (k:List AV→Step) (m:Mem) (κ:Cx) (us:List Value) (bs:List (Option Nat)) (v:AV) (m':Mem),gG w0 A m κ→Hl κ.S κ.w cs us bs→Apart bs→(∀c,some c∈bs→Free w0 m κ c)→(OT s j cs k).Runs F m v m'→
  ∃m1 κ1 ys,gG w0 A m1 κ1∧κ.Le κ1∧κ1.w=κ.w∧κ1.S=κ.S∧bT κ1 ys us∧(k ys).Runs F m1 v m'
 | [],j,k,m,κ,us,bs,v,m',hs,hr,ha,hf,h=> ⟨m,κ,[],hs,.refl κ,rfl,rfl,by rw [hr.1];exact .nil _,h⟩
 | x::cs,j,k,m,κ,us,bs,v,m',hs,⟨u,us',b1,b2,e1,e2,hx,hr⟩,ha,hf,h=> by
  subst e1 e2
  have ha1:Apart b1:=by
   unfold Apart at ha ⊢
   rw [List.filterMap_append] at ha
   exact (List.nodup_append.1 ha).1
  have ha2:Apart b2:=by
   unfold Apart at ha ⊢
   rw [List.filterMap_append] at ha
   exact (List.nodup_append.1 ha).2.1
  have hnb:∀c,some c∈b2→some c∉b1:=by
   intro c hc hc1
   unfold Apart at ha
   rw [List.filterMap_append] at ha
   exact (List.nodup_append.1 ha).2.2 c (List.mem_filterMap.2 ⟨_,hc1,rfl⟩) c (List.mem_filterMap.2 ⟨_,hc,rfl⟩) rfl
  obtain ⟨m1,κ1,y,g1,g2,g3,g4,g5,g6,g7⟩:=BK (k:=fun y=> OT s (j + 1) cs fun r=> k (y::r)) hs hx ha1 (fun c hc=> hf c (by simp [hc])) h
  obtain ⟨m2,κ2,ys,q1,q2,q3,q4,q5,q6⟩:=BL s cs (j + 1) _ m1 κ1 us' b2 v m' g1 (by rw [g4,g3];exact hr) ha2 (fun c hc=> g7 c (hf c (by simp [hc])) (hnb c hc)) g6
  exact ⟨m2,κ2,_,q1,g2.trans q2,q3.trans g3,q4.trans g4,.cons (g5.mono q2) q5,q6⟩
theorem Iu {s:Nat} {x:AV} {k:AV→Step} {m:Mem} {κ:Cx} {u:Value} {bs:List (Option Nat)} {v:AV} {m':Mem} (hs:gG w0 A m κ) (hx:dG κ.S κ.w x u bs) (ha:Apart bs) (hf:∀c,some c∈bs→Free w0 m κ c) (h:(recv s x k).Runs F m v m'):
  ∃m1 κ1 y,gG w0 A m1 κ1∧κ.Le κ1∧κ1.w=κ.w∧Rel κ1 y u∧(k y).Runs F m1 v m':=by
 by_cases hc:∃cs,x= .bH cs
 ·obtain ⟨cs,rfl⟩:=hc
  obtain ⟨xs,rfl,hx⟩:=hx
  obtain ⟨m1,κ1,ys,g1,g2,g3,g4,g5,g6⟩:=BL s cs 0 _ m κ xs.toList bs v m' hs hx ha hf h
  exact ⟨m1,κ1,_,g1,g2,g3,by have:=Rel.ajC g5;simpa using this,g6⟩
 ·have hx':Hg κ.S κ.w x u bs:=by
   cases x <;> first | exact hx | exact absurd ⟨_,rfl⟩ hc
  have h':(Ik s x k).Runs F m v m':=by
   cases x <;> first | exact h | exact absurd ⟨_,rfl⟩ hc
  obtain ⟨m1,κ1,y,g1,g2,g3,g4,g5,g6,g7⟩:=BK hs hx' ha hf h'
  exact ⟨m1,κ1,y,g1,g2,g3,g5,g6⟩
theorem Sr {S S':Nat→Prop} {w:World} {x:AV} {v:Value} {bs:List (Option Nat)} (hx:scalar x=true) (h:dG S w x v bs):dG S' w x v bs:=by
 have one:∀{y:AV} {v:Value} {b:Option Nat},(match y with | .d (.v _)=> true | _=> false)=true→Hf S w y v b→Hf S' w y v b:=by
  intro y v b hy h
  cases y with
  | d y=>
   cases y with
   | v z=>
    obtain ⟨h,e⟩:=h
    cases h with
    | v _ h=> exact ⟨.v _ h,e⟩
   | _=> cases hy
  | _=> cases hy
 have many:∀{cs:List AV} {vs:List Value} {bs:List (Option Nat)},cs.all (fun v=> match v with | .d (.v _)=> true | _=> false)=true→BH S w cs vs bs→BH S' w cs vs bs:=by
  intro cs
  induction cs with
  | nil=> exact fun _ h=> h
  | cons c cs ih=>
   rintro vs bs hc ⟨v,vs',b,b2,h1,h2,h3,h4⟩
   simp only [List.all_cons,Bool.and_eq_true] at hc
   exact ⟨v,vs',b,b2,h1,h2,one hc.1 h3,ih hc.2 h4⟩
 have am6:∀{cs:List AV} {vs:List Value} {bs:List (Option Nat)},cs.all (fun v=> match v with | .d (.v _)=> true | _=> false)=true→Hl S w cs vs bs→Hl S' w cs vs bs:=by
  intro cs
  induction cs with
  | nil=> exact fun _ h=> h
  | cons c cs ih=>
   rintro vs bs hc ⟨v,vs',b,b2,h1,h2,h3,h4⟩
   simp only [List.all_cons,Bool.and_eq_true] at hc
   refine ⟨v,vs',b,b2,h1,h2,?_,ih hc.2 h4⟩
   have hc1:=hc.1
   cases c with
   | d y=> exact let ⟨b,e,h⟩:=h3;⟨b,e,one hc1 h⟩
   | _=> cases hc1
 cases x with
 | d y=> exact let ⟨b,e,h⟩:=h;⟨b,e,one (by cases y <;> first | rfl | cases hx) h⟩
 | bH cs=> exact let ⟨xs,e,h⟩:=h;⟨xs,e,am6 hx h⟩
 | agg cs=> exact let ⟨xs,e,h⟩:=h;⟨xs,e,many hx h⟩
 | _=> cases hx
end
end
section
open Go.RowKit
def dW (P:Program) (t n:Nat):Prop:=(P.info? t).map (·.size)=some n
def KOk (P:Program):TK→TypeDesc→Prop
 | .int k,d=> d= .int k
 | .bool,d=> d= .bool
 | .str,d=> d= .string
 | .slice e sz,d=> d= .slice e∧dW P e sz
 | .array n e sz,d=> d= .array n e∧dW P e sz
 | .struct fs,d=> ∃fields,d= .struct fields∧fields.toList.map (fun f=> (f.offset,f.type))=fs.map (fun x=> (x.1,x.2.1))∧∀x∈fs,dW P x.2.1 x.2.2
 | .map kt et,d=> d= .map kt et
 | .ptr,d=> ∃e,d= .pointer e
 | .other,_=> True
 | .none_,_=> True
structure EqS (P:Program) (t:Nat) (ek:List CK):Prop where
 eq:∀(w:World) (xs ys:Array Value) (cs ds:List AV) (b:Bool) (x y:Operand) (κ:Cx),bT κ cs xs.toList→bT κ ds ys.toList→nY ek cs ds=some b→
  (eqGuard .eql t x y (.agg xs) (.agg ys)).run P w= .ok () w∧(eqGuard .neq t x y (.agg xs) (.agg ys)).run P w= .ok () w∧(Op.equal t (.agg xs) (.agg ys)).run P w= .ok b w
 key:ek.all Il=true→∀(w:World) (e:Bool) (xs:Array Value),xs.toList.length=ek.length→xs.toList.all aeO=true→(Instr.checkKey e 10000 t (.agg xs)).run P w= .ok () w
structure uT (P:Program) (t:Nat) (ti:TI):Prop where
 info:∃i,P.info? t=some i∧i.size=ti.size∧i.bytes=ti.bytes∧i.zero=some ti.zero
 und:∃d,P.underlying t=some d∧d.isRow=ti.agg∧KOk P ti.k d
 zok:vT ti.zero=true
 zsz:ti.zero.cells.size=ti.size
 eq:ti.eqs=true→EqS P t ti.ek
def zy (P:Program) (T:Nat→TI):Prop:=∀t,(T t).known=true→uT P t (T t)
theorem zy.of {P:Program} {T:Nat→TI} (h:zy P T) {t:Nat} {k:TK} (hk:(T t).k=k) (hn:k≠ .none_):uT P t (T t):=h t (by
 unfold TI.known
 rw [hk]
 cases k <;> first | rfl | exact absurd rfl hn)
theorem zy.kok {P:Program} {T:Nat→TI} (h:zy P T) {t:Nat} {k:TK} (hk:(T t).k=k) (hn:k≠ .none_):∃d,P.underlying t=some d∧KOk P k d:=by
 obtain ⟨d,h1,_,h2⟩:=(h.of hk hn).und
 rw [hk] at h2
 exact ⟨d,h1,h2⟩
section
variable {P : Program} {o : Oper} {a : Act} {w w' : World} {K : Act → World → Prop} {Q : Exit → Act → World → Prop}
theorem iU {x:Value} (h:(execOp a.eval o).run P w= .ok (.value x) w') (hk:K (a.put o.dst x) w'):o.wp P a w K Q:=by
 unfold Oper.wp
 rw [h]
 exact hk
theorem Sv (h:(execOp a.eval o).run P w= .ok .skip w') (hk:K (a.put o.dst undef) w'):o.wp P a w K Q:=by
 unfold Oper.wp
 rw [h]
 exact hk
theorem Ku {t:TypeId} {d:TypeDesc} (hu:P.underlying t=some d) (hd:d.isRow=false) {b q:Nat} {v:Value} (hc:w.cell? ⟨b,q,none⟩=some v):
  (Instr.loadAt t (.pointer (some ⟨b,q,none⟩))).run P w= .ok v w:=by
 have hagg:(isAgg t).run P w= .ok false w:=by
  unfold isAgg
  rw [Sem.run_bind,run_underlying hu w]
  cases d <;> simp_all
 simp [Instr.loadAt,Instr.sureAddr,loadVar,hagg,hc]
theorem OZ {t:TypeId} {d:TypeDesc} (hu:P.underlying t=some d) {n:Nat} (hn:dW P t n) (cs:Array Value) (off:Nat):
  (part t cs off).run P w=if d.isRow then .ok (.agg (cs.extract off (off + n))) w else (match cs[off]? with | some v=> .ok v w | none=> .halt (.stuck "part: no such cell") w):=by
 have hagg:(isAgg t).run P w= .ok d.isRow w:=by
  unfold isAgg
  rw [Sem.run_bind,run_underlying hu w]
  cases d <;> simp_all
 unfold dW at hn
 cases hq:P.info? t with
 | none=> simp [hq] at hn
 | some i=>
  have hs:i.size=n:=by simpa [hq] using hn
  cases hr:d.isRow
  ·simp [part,hagg,hr]
   cases cs[off]? <;> simp [stuck]
  ·simp [part,hagg,hr,sizeOf,typeInfo,hq,hs]
end
theorem BM (κ:Cx) (x:Value) (h:x.oneCell'=true):Rel κ (J5 x) x:=by
 unfold J5
 split
 ·exact .nl none
 ·exact .kb _
 ·exact .d (.v _ h)
theorem zA (κ:Cx) (x:Value) (h:vT x=true):Rel κ (ofConst x) x:=by
 have hk:=BM κ x
 cases x with
 | agg cs=>
  simp only [vT] at h
  refine .agg (by simp) fun j c v hc hv=> ?_
  rw [List.getElem?_map] at hc
  have hv':cs.toList[j]? =some v:=by simpa using hv
  rw [hv'] at hc
  injection hc with hc
  subst hc
  exact BM κ v (List.all_eq_true.1 h v (List.mem_of_getElem? hv'))
 | tuple=> cases h
 | _=> exact hk h
theorem jE {κ:Cx} {env:Nat→Option AV} {a:Act} (h:bM κ env a.tmps) {x:Operand} {c:AV} (hx:cO env x=some c):Rel κ c (a.eval x):=by
 cases x with
 | tmp t=>
  obtain ⟨y,hy,hr⟩:=h t c hx
  have:a.eval (.tmp t)=y:=by
   show a.tmps.getD t undef=y
   rw [Array.getD_eq_getD_getElem?,hy]
   rfl
  rw [this]
  exact hr
 | const y=>
  simp only [cO] at hx
  cases hk:vT y
  ·simp [hk] at hx
  ·simp [hk] at hx
   subst hx
   exact zA κ y hk
 | func f=>
  simp only [cO] at hx
  injection hx with hx
  subst hx
  exact .fn rfl fun j c v hc=> by simp at hc
 | global g=> simp [cO] at hx
theorem bI {κ:Cx} {env:Nat→Option AV} {a:Act} (h:bM κ env a.tmps) {x:Operand} {c:AV} (hx:aJ env x=some c):Rel κ c (a.eval x):=by
 unfold aJ at hx
 cases hq:cO env x with
 | none=> rw [hq] at hx;cases hx
 | some q=>
  rw [hq] at hx
  injection hx with hx
  subst hx
  exact (jE h hq).unk
def After (w0:Start) (A:Nat→Prop) (κ:Cx) (o:Oper) (v:AV) (m':Mem) (a a':Act) (w':World):Prop:=∃κ',κ'.w=w'∧gG w0 A m' κ'∧κ.Le κ'∧∃x,a'=a.put o.dst x∧Rel κ' v x
section
variable {P : Program} {T : Nat → TI} {F : FuncId → List AV → AV → Prop} {w0 : Start} {A : Nat → Prop} {o : Oper} {a : Act} {κ : Cx} {m m' : Mem} {v : AV} {Q : Exit → Act → World → Prop}
theorem After.O0 (hs:gG w0 A m κ) {x:Value} (hx:Rel κ v x):After w0 A κ o v m a (a.put o.dst x) κ.w:=⟨κ,rfl,hs,.refl κ,x,rfl,hx⟩
theorem O1 (hT:zy P T) {t b q:Nat} {cs:List AV} {vs:List Value} (hr:bT κ cs vs) (hw:κ.w.rangeAt b q vs) (h:(ldA (T t) cs).Runs F m v m'):
  ∃x,(Instr.loadAt t (.pointer (some ⟨b,q,none⟩))).run P κ.w= .ok x κ.w∧Rel κ v x∧m'=m:=by
 unfold ldA at h
 cases hk:(T t).known
 ·simp only [hk,Bool.not_false,cond_true] at h
  cases h
 ·simp only [hk,Bool.not_true,cond_false] at h
  have ht:=hT t hk
  obtain ⟨i,hi,hsz,_,_⟩:=ht.info
  obtain ⟨d,hu,hd,_⟩:=ht.und
  cases hg:(T t).agg
  ·simp only [hg,cond_false] at h
   cases cs with
   | nil=> cases h
   | cons c cs=>
    cases h with
    | ret=>
     obtain ⟨x,vs',rfl,hx,_⟩:=hr.cons_inv
     exact ⟨x,Ku hu (by rw [hd,hg]) (hw 0 x rfl),hx,rfl⟩
  ·simp only [hg,cond_true] at h
   cases hl:Nat.ble (T t).size cs.length
   ·simp only [hl,cond_false] at h
    cases h
   ·simp only [hl,cond_true] at h
    cases h with
    | ret=>
     have hl':(T t).size≤cs.length:=Nat.le_of_ble_eq_true hl
     refine ⟨.agg (vs.take (T t).size).toArray,run_loadAt_mid _ b q t _ d (fun j u hu'=> hw j u ?_) hu (by rw [hd,hg]) (by simp [hi,hsz,hr.1];omega),.Sm (hr.take _),rfl⟩
     rw [List.getElem?_take] at hu'
     split at hu'
     ·exact hu'
     ·cases hu'
theorem wz {cs:List D} {vs:List Value} (hl:vs.length=cs.length) (h:∀(j:Nat) (x:D) (u:Value),cs[j]? =some x→vs[j]? =some u→aV κ.S κ.w x u):bT κ (cs.map dv) vs:=
 ⟨by simp [hl],fun j c u hc hu=> by
  rw [List.getElem?_map] at hc
  cases hx:cs[j]? with
  | none=> simp [hx] at hc
  | some x=>
   simp [hx] at hc
   subst hc
   exact .ofD (h j x u hx hu)⟩
theorem Sz (t:TI) (cs:List D):ldD t cs=ldA t (cs.map dv):=by
 unfold ldD ldA
 cases t.known
 ·rfl
 ·simp only [Bool.not_true,cond_false]
  cases t.agg
  ·simp only [cond_false]
   cases cs <;> rfl
  ·simp [List.map_take]
variable {env : Nat → Option AV}
theorem O4 (hs:gG w0 A m κ) (he:bM κ env a.tmps) {s sz:Nat} {x:Operand} (hrun:(execOp a.eval o).run P κ.w= .ok (.value (a.eval x)) κ.w) (h:(NQ s sz (cO env x)).Runs F m v m'):
  o.wp P a κ.w (fun a' w'=> After w0 A κ o v m' a a' w') Q:=by
 refine iU hrun ?_
 cases hx:cO env x with
 | none=> rw [hx] at h;cases h
 | some c=>
  have hr:=jE he hx
  rw [hx] at h
  by_cases hc:c= .nl
  ·subst hc
   cases h with
   | new h=>
    cases h with
    | ret=>
     generalize a.eval x=y at hr
     cases hr with
     | nl A'=>
      obtain ⟨hs1,hle⟩:=hs.add (gQ.refl _ _) s (.rows sz [] false) ⟨none,0,0,0⟩ (fun b hb=> by cases hb) rfl (fun _=> ⟨rfl,fun e he=> by simp at he,Or.inl ⟨rfl,rfl⟩⟩)
      refine ⟨κ.put s ⟨none,0,0,0⟩ κ.w,rfl,hs1,hle,_,rfl,?_⟩
      rw [←hs.gn]
      exact .row0 A' (by rw [Cx.yG];exact Nat.le_refl _) (by rw [Cx.gJ]) (by rw [Cx.gJ])
  ·have e:NQ s sz (some c)= .ret c:=by cases c <;> first | rfl | exact absurd rfl hc
   rw [e] at h
   cases h with
   | ret=> exact After.O0 hs hr
theorem yI {x:Option AV} (h:(uK x).Runs F m v m'):x=some v∧m'=m:=by
 cases x with
 | none=> cases h
 | some c=> cases h with | ret=> exact ⟨rfl,rfl⟩
theorem Rel.val {κ:Cx} {x u:Value} (h:Rel κ (.d (.v x)) u):u=x:=by
 cases h with
 | d h=> cases h with | v=> rfl
theorem Iw {c x y:Option AV} (h:(Bl c x y).Runs F m v m'):∃t,(c=some (.d (.v (.bool t)))∨c=some (.kb t))∧(bif t then uK x else uK y).Runs F m v m':=by
 unfold Bl at h
 split at h
 ·exact ⟨true,Or.inr rfl,h⟩
 ·exact ⟨false,Or.inr rfl,h⟩
 ·cases h with
  | br h=> exact ⟨_,Or.inl rfl,h⟩
 ·cases h
theorem Rel.aaT {κ:Cx} {c:Option AV} {t:Bool} {u:Value} {d:AV} (hd:c=some d) (hc:c=some (.d (.v (.bool t)))∨c=some (.kb t)) (h:Rel κ d u):u= .bool t:=by
 subst hd
 rcases hc with hc | hc
 ·injection hc with hc;subst hc;exact h.val
 ·injection hc with hc;subst hc;cases h with | kb=> rfl
theorem aaU (hs:gG w0 A m κ) (he:bM κ env a.tmps) {c x y:Operand} (ho:o.op= .pick c x y) (h:(Bl (cO env c) (cO env x) (cO env y)).Runs F m v m'):
  o.wp P a κ.w (fun a' w'=> After w0 A κ o v m' a a' w') Q:=by
 obtain ⟨t,hc,h⟩:=Iw h
 obtain ⟨d,hd⟩:∃d,cO env c=some d:=by rcases hc with hc | hc <;> exact ⟨_,hc⟩
 have hb:=Rel.aaT hd hc (jE he hd)
 have hrun:(execOp a.eval o).run P κ.w= .ok (.value (if t then a.eval x else a.eval y)) κ.w:=by
  unfold execOp
  rw [ho]
  simp [hb,asBool]
 refine iU hrun ?_
 cases t
 ·obtain ⟨h1,rfl⟩:=yI h
  exact After.O0 hs (jE he h1)
 ·obtain ⟨h1,rfl⟩:=yI h
  exact After.O0 hs (jE he h1)
theorem BN (t:TypeId) (x:Value) (w:World):(newVar t x).run P w= .ok ⟨w.heap.size,0,none⟩ (w.alloc (.cells x.cells t)):=by
 rfl
theorem Iy (hs:gG w0 A m κ) {ti:TI} {s t:Nat} {c:AV} {x:Value} (hx:Rel κ c x) (h:(Xt ti s c).Runs F m v m'):
  After w0 A κ o v m' a (a.put o.dst (.pointer (some ⟨κ.w.heap.size,0,none⟩))) (κ.w.alloc (.cells x.cells t)):=by
 unfold Xt at h
 cases h1:(cellsOf c).all jX
 ·rw [h1] at h;cases h
 ·rw [h1] at h
  obtain ⟨hr,hone⟩:=hx.cells h1
  obtain ⟨m1,κ1,cs1,g1,g2,g3,g4,g5⟩:=oh s ti.cz (cellsOf c) 0 _ m κ x.cells.toList v m' hs hr h
  cases g5 with
  | new g5=>
   cases g5 with
   | ret=>
    have hz:κ1.w.heap.size=κ.w.heap.size:=by rw [g3]
    obtain ⟨hs1,hle⟩:=g1.add (vS κ1.w (.cells x.cells t)) s (.box cs1) ⟨some κ1.w.heap.size,0,0,0⟩ (fun b hb=> by injection hb with hb;subst hb;exact g1.fresh (Nat.le_refl _) (by simp)) rfl
     (fun hle=> ⟨κ1.w.heap.size,t,x.cells,rfl,heap_alloc_new _ _,by simpa using g4.1,fun j c u hc hu=> ⟨(g4.2 j c u hc (by simpa using hu)).mono hle,hone u (by rw [Array.mem_toList_iff];exact Array.mem_of_getElem? hu)⟩⟩)
    refine ⟨_,by show κ1.w.alloc _=_;rw [g3],hs1,g2.trans hle,_,rfl,?_⟩
    rw [←g1.gn,←hz]
    exact .lp (by rw [Cx.yG];exact Nat.le_refl _) (by rw [Cx.gJ])
theorem XD (hT:zy P T) (hs:gG w0 A m κ) {e s:Nat} (ho:o.op= .alloc e) (h:(J7 (T e) s).Runs F m v m'):o.wp P a κ.w (fun a' w'=> After w0 A κ o v m' a a' w') Q:=by
 unfold J7 at h
 cases hk:(T e).known
 ·rw [hk] at h;cases h
 ·rw [hk] at h
  have ht:=hT e hk
  obtain ⟨i,hi,_,_,hz⟩:=ht.info
  have hrun:(execOp a.eval o).run P κ.w= .ok (.value (.pointer (some ⟨κ.w.heap.size,0,none⟩))) (κ.w.alloc (.cells (T e).zero.cells e)):=by
   unfold execOp
   rw [ho]
   simp [Instr.alloc,zeroValue,typeInfo,hi,hz,BN]
  exact iU hrun (Iy hs (zA κ _ ht.zok).unk h)
theorem aeV (hs:gG w0 A m κ) (he:bM κ env a.tmps) {ti:TI} {e s:Nat} {x:Operand} (ho:o.op= .box e x) (h:(ajw ti s (aJ env x)).Runs F m v m'):o.wp P a κ.w (fun a' w'=> After w0 A κ o v m' a a' w') Q:=by
 cases hx:aJ env x with
 | none=> rw [hx] at h;cases h
 | some c=>
  rw [hx] at h
  have hrun:(execOp a.eval o).run P κ.w= .ok (.value (.pointer (some ⟨κ.w.heap.size,0,none⟩))) (κ.w.alloc (.cells (a.eval x).cells e)):=by
   unfold execOp
   rw [ho]
   simp [Instr.box,BN]
  exact iU hrun (Iy hs (bI he hx) h)
end
end
section
open Go.RowKit
theorem BO {α:Type} (cs:List α) (o:Nat):over cs o []=cs:=by simp [over]
theorem iV {α:Type} (cs:List α) (o:Nat) (vs:List α) (h:o + vs.length≤cs.length) (i:Nat):(over cs o vs)[i]? =if i < o then cs[i]? else if i < o + vs.length then vs[i - o]? else cs[i]? :=by
 unfold over
 rw [List.getElem?_append,List.getElem?_append]
 simp only [List.length_append,List.length_take]
 have e:min o cs.length=o:=by omega
 rw [e]
 by_cases h1:i < o
 ·rw [if_pos (by omega),if_pos h1,if_pos h1,List.getElem?_take_of_lt h1]
 ·by_cases h2:i < o + vs.length
  ·rw [if_pos h2,if_neg h1,if_neg h1,if_pos h2]
  ·rw [if_neg h2,if_neg h1,if_neg h2,List.getElem?_drop]
   congr 1
   omega
theorem yJ {α:Type} (cs:List α) (o:Nat) (v:α) (vs:List α) (h:o + (vs.length + 1)≤cs.length):over (cs.set o v) (o + 1) vs=over cs o (v::vs):=by
 apply List.ext_getElem?
 intro i
 rw [iV _ _ _ (by simp;omega),iV _ _ _ (by simpa using h),List.getElem?_set,List.length_cons]
 by_cases h1:i < o
 ·rw [if_pos (by omega),if_pos h1,if_neg (by omega)]
 ·by_cases h2:i=o
  ·subst h2
   rw [if_pos (by omega),if_pos rfl,if_pos (by omega),if_neg (by omega),if_pos (by omega)]
   simp
  ·rw [if_neg (by omega),if_neg h1]
   by_cases h3:i < o + 1 + vs.length
   ·rw [if_pos h3,if_pos (by omega)]
    obtain ⟨k,hk⟩:∃k,i - o=k + 1:=⟨i - o - 1,by omega⟩
    rw [hk,List.getElem?_cons_succ]
    congr 1
    omega
   ·rw [if_neg h3,if_neg (by omega),if_neg (by omega)]
theorem dX {α:Type} (cs:List α) (o:Nat) (vs:List α) (h:o + vs.length≤cs.length):(over cs o vs).length=cs.length:=by
 unfold over
 simp
 omega
theorem oQ (off:Nat):∀(vs:List Value) (k:Nat) (cells:Array Value),off + k + vs.length≤cells.size→
  ((vs.zipIdx k).foldl (fun cs (p:Value×Nat)=> cs.setIfInBounds (off + p.2) p.1) cells).toList=over cells.toList (off + k) vs
 | [],k,cells,_=> by simp [BO]
 | v::vs,k,cells,h=> by
  rw [List.zipIdx_cons,List.foldl_cons,oQ off vs (k + 1) _ (by simp at h ⊢;omega),Array.toList_setIfInBounds]
  rw [←Nat.add_assoc]
  exact yJ _ _ _ _ (by simp at h ⊢;omega)
theorem yK (place:Nat→Option (Nat×Nat)) (cells:Array Value) (i:Nat) (x:Value) (r:List (Nat×Value)) {off n:Nat} (hp:place i=some (off,n)) (hn:x.cells.size=n) (hl:off + n≤cells.size):
  Instr.fill place cells ((i,x)::r)=Instr.fill place (over cells.toList off x.cells.toList).toArray r:=by
 rw [Instr.fill,hp]
 have h1:(decide (x.cells.size≠n) || decide (off + x.cells.size > cells.size))=false:=by simp [hn];omega
 simp only [h1,Bool.false_eq_true,if_false]
 congr 1
 apply Array.ext'
 have:=oQ off x.cells.toList 0 cells (by simp [hn];omega)
 simp only [Nat.add_zero] at this
 rw [List.toList_toArray,←this,←Array.foldl_toList]
 simp
section
variable {P : Program} {T : Nat → TI} {F : FuncId → List AV → AV → Prop} {w0 : Start} {A : Nat → Prop} {o : Oper} {a : Act} {κ : Cx} {m m' : Mem} {v : AV} {Q : Exit → Act → World → Prop} {env : Nat → Option AV}
end
end
section
open Go.RowKit
theorem qV {w:World} {b:Nat} {vs:Array Value} {t:TypeId} {fr:Nat×Nat} (h:w.heap[b]? =some (.cells vs t fr)) (o:Nat):w.rangeAt b o (vs.toList.drop o):=fun j v hv=> by
 rw [cell_of_row w b (o + j) vs t fr h]
 rw [List.getElem?_drop] at hv
 simpa using hv
theorem oJ {P:Program} {w:World} {g q t:Nat} {cur:Array Value} {tt:TypeId} {x:Value} (hg:w.heap[g]? =some (.cells cur tt (0,0))) (hl:q + x.cells.size≤cur.size) (h1:∀u∈x.cells.toList,u.oneCell'=true) (hz:dW P t x.cells.size):
  (Instr.storeAt t (.pointer (some ⟨g,q,none⟩)) x).run P w= .ok () (w.setRow g (over cur.toList q x.cells.toList).toArray):=by
 unfold dW at hz
 cases hq:P.info? t with
 | none=> simp [hq] at hz
 | some i=>
  have hs:x.cells.size=i.size:=by simp [hq] at hz;omega
  have hst:=run_storeCells_at P g q tt x.cells.toList 0 cur w hg (by simpa using hl) h1
  simp only [Nat.add_zero] at hst
  simp [Instr.storeAt,Instr.sureAddr,storeVar,sizeOf,typeInfo,hq,hs,hst,over]
theorem setRow_size (w:World) (g:Nat) (cs:Array Value):(w.setRow g cs).heap.size=w.heap.size:=by simp [World.setRow]
section
variable {P : Program} {T : Nat → TI} {F : FuncId → List AV → AV → Prop} {w0 : Start} {A : Nat → Prop} {o : Oper} {a : Act} {κ : Cx} {m m' : Mem} {v : AV} {Q : Exit → Act → World → Prop} {env : Nat → Option AV}
theorem XE {t:TI} {x:Option AV} (h:(zu t x).Runs F m v m'):(∃cs,x=some (.fp cs)∧(ldD t cs).Runs F m v m')∨(∃s g o cs,x=some (.lp s g o)∧m.at_ s g=some (.box cs)∧(ldA t (cs.drop o)).Runs F m v m')∨
  ∃s g i o sz es ro c,x=some (.rp s g i o)∧m.at_ s g=some (.rows sz es ro)∧es[i]? =some c∧(ldD t (c.drop o)).Runs F m v m':=by
 unfold zu at h
 split at h
 ·exact Or.inl ⟨_,rfl,h⟩
 ·cases h with
  | Am hi h=> exact Or.inr (Or.inl ⟨_,_,_,_,rfl,hi,h⟩)
 ·cases h with
  | yC hi h=>
   cases h with
   | elem hc h=> exact Or.inr (Or.inr ⟨_,_,_,_,_,_,_,_,rfl,hi,hc,h⟩)
 ·cases h
theorem aaV (hT:zy P T) (hs:gG w0 A m κ) (he:bM κ env a.tmps) {t:Nat} {x:Operand} (ho:o.op= .load t x) (h:(zu (T t) (aJ env x)).Runs F m v m'):
  o.wp P a κ.w (fun a' w'=> After w0 A κ o v m' a a' w') Q:=by
 have fin:∀(b q:Nat) (cs:List AV) (vs:List Value),a.eval x= .pointer (some ⟨b,q,none⟩)→bT κ cs vs→κ.w.rangeAt b q vs→(ldA (T t) cs).Runs F m v m'→o.wp P a κ.w (fun a' w'=> After w0 A κ o v m' a a' w') Q:=by
  intro b q cs vs hx hr hw h
  obtain ⟨y,hrun,hy,rfl⟩:=O1 hT hr hw h
  have:(execOp a.eval o).run P κ.w= .ok (.value y) κ.w:=by
   unfold execOp
   rw [ho]
   simp only [hx,Sem.run_bind,hrun,Result.andThen_ok]
   rfl
  exact iU this (After.O0 hs hy)
 rcases XE h with ⟨cs,hx,h⟩ | ⟨s,g,q,cs,hx,hi,h⟩ | ⟨s,g,i,q,sz,es,ro,c,hx,hi,hc,h⟩
 ·have hr:=bI he hx
  generalize hy:a.eval x=y at hr
  cases hr with
  | fp vs hb hcell hrel=>
   rw [Sz] at h
   refine fin _ _ _ ((List.range cs.length).map vs) hy (wz (by simp) fun j y u hj hu=> ?_) (fun j u hu=> ?_) h
   ·have hlt:j < cs.length:=(List.getElem?_eq_some_iff.1 hj).1
    simp [hlt] at hu
    subst hu
    exact hrel j y hj
   ·have hlt:j < cs.length:=by
     have:=(List.getElem?_eq_some_iff.1 hu).1
     simpa using this
    simp [hlt] at hu
    subst hu
    exact hcell j hlt
 ·have hr:=bI he hx
  generalize hy:a.eval x=y at hr
  cases hr with
  | lp hg hb=>
   obtain ⟨b',tt,vs,hb',hh,hl,hrel⟩:=hs.ok s g _ hi
   rw [hb] at hb'
   injection hb' with hb'
   subst hb'
   have hL:bT κ cs vs.toList:=⟨by simpa using hl,fun j c u hc hu=> (hrel j c u hc (by simpa using hu)).1⟩
   exact fin _ _ _ (vs.toList.drop q) hy (hL.drop q) (qV hh q) h
 ·have hr:=bI he hx
  generalize hy:a.eval x=y at hr
  cases hr with
  | rp hg hb=>
   obtain ⟨hlen,hall,h3⟩:=hs.ok s g _ hi
   rcases h3 with ⟨h4,_⟩ | ⟨b',tt,cur,hb',hz,hh,hl,hm,hcs,hra⟩
   ·rw [h4] at hb;cases hb
   ·rw [hb] at hb'
    injection hb' with hb'
    subst hb'
    rw [Sz] at h
    have hcl:c.length=sz:=hall c (List.mem_of_getElem? hc)
    have hi':i < es.length:=(List.getElem?_eq_some_iff.1 hc).1
    have hfit:i * sz + sz≤cur.size:=by
     rw [hcs]
     have:(i + 1) * sz≤(κ.φ s g).cap * sz:=Nat.mul_le_mul_right _ (by omega)
     rw [Nat.add_mul] at this
     omega
    refine fin _ _ _ ((cur.toList.drop (i * sz + q)).take (c.length - q)) hy (wz ?_ fun j y u hj hu=> ?_) (fun j u hu=> ?_) h
    ·simp
     omega
    ·rw [List.getElem?_take] at hu
     split at hu
     ·rw [List.getElem?_drop] at hj hu
      obtain ⟨u',hu',hd⟩:=hra i (q + j) c y hc hj
      have:cur.toList[i * sz + q + j]? =some u':=by rw [Nat.add_assoc];simpa using hu'
      rw [this] at hu
      injection hu with hu
      subst hu
      exact hd
     ·cases hu
    ·rw [List.getElem?_take] at hu
     split at hu
     ·rw [hz]
      exact qV hh (i * sz + q) j u hu
     ·cases hu
theorem SA {t:TI} {x y:Option AV} (h:(uN t x y).Runs F m v m'):t.known=true∧∃c,y=some c∧(cellsOf c).all jX=true∧(cellsOf c).length=t.size∧
  ((∃s g o,x=some (.lp s g o)∧(settle (s + 1048576 * (o + 1)) t.cz 0 (cellsOf c) fun vs=> .Am s g fun cs=> bif Nat.ble (o + vs.length) cs.length then .wr s g (.box (over cs o vs)) (.ret (.bH [])) else .fail).Runs F m v m')∨
   ∃s g i o,x=some (.rp s g i o)∧(lI (cellsOf c) fun vs=> .RZ s g fun sz es=> .elem es i fun c=> bif Nat.ble (o + vs.length) sz then .wr s g (.rows sz (es.set i (over c o vs)) false) (.ret (.bH [])) else .fail).Runs F m v m'):=by
 unfold uN at h
 split at h
 ·rename_i s g q c
  cases hb:(t.known && (cellsOf c).all jX && Nat.beq (cellsOf c).length t.size)
  ·rw [hb] at h;cases h
  ·rw [hb] at h
   simp only [Bool.and_eq_true] at hb
   exact ⟨hb.1.1,c,rfl,hb.1.2,Nat.eq_of_beq_eq_true hb.2,Or.inl ⟨s,g,q,rfl,h⟩⟩
 ·rename_i s g i q c
  cases hb:(t.known && (cellsOf c).all jX && Nat.beq (cellsOf c).length t.size)
  ·rw [hb] at h;cases h
  ·rw [hb] at h
   simp only [Bool.and_eq_true] at hb
   exact ⟨hb.1.1,c,rfl,hb.1.2,Nat.eq_of_beq_eq_true hb.2,Or.inr ⟨s,g,i,q,rfl,h⟩⟩
 ·cases h
theorem XF (hT:zy P T) (hs:gG w0 A m κ) (he:bM κ env a.tmps) {t:Nat} {x y:Operand} (ho:o.op= .store t x y) (h:(uN (T t) (aJ env x) (aJ env y)).Runs F m v m'):
  o.wp P a κ.w (fun a' w'=> After w0 A κ o v m' a a' w') Q:=by
 obtain ⟨hk,c,hy,hone,hlen,h⟩:=SA h
 have ht:=hT t hk
 obtain ⟨it,hit,hsz,_,_⟩:=ht.info
 obtain ⟨hcs,h1⟩:=(bI he hy).cells hone
 have hz:dW P t (a.eval y).cells.size:=by
  have:=hcs.1
  simp only [Array.length_toList] at this
  simp [dW,hit,hsz,this,hlen]
 have fin:∀(g q:Nat) (cur:Array Value) (tt:TypeId),a.eval x= .pointer (some ⟨g,q,none⟩)→κ.w.heap[g]? =some (.cells cur tt (0,0))→q + (a.eval y).cells.size≤cur.size→
   After w0 A κ o v m' a (a.put o.dst undef) (κ.w.setRow g (over cur.toList q (a.eval y).cells.toList).toArray)→o.wp P a κ.w (fun a' w'=> After w0 A κ o v m' a a' w') Q:=by
  intro g q cur tt hx hg hl hk
  have:(execOp a.eval o).run P κ.w= .ok .skip (κ.w.setRow g (over cur.toList q (a.eval y).cells.toList).toArray):=by
   unfold execOp
   rw [ho]
   simp only [hx,Sem.run_bind,oJ hg hl h1 hz,Result.andThen_ok]
   rfl
  exact Sv this hk
 have aaW:∀κ':Cx,Rel κ' (.bH []) undef:=fun κ'=> .bH rfl fun j c v hc=> by simp at hc
 rcases h with ⟨s,g,q,hx,h⟩ | ⟨s,g,i,q,hx,h⟩
 ·have hr:=bI he hx
  generalize hyx:a.eval x=yx at hr
  cases hr with
  | lp hg hb=>
   obtain ⟨m1,κ1,cs1,g1,g2,g3,g4,g5⟩:=oh _ _ (cellsOf c) 0 _ m κ _ v m' hs hcs h
   cases g5 with
   | Am hi g5=>
    rename_i cs
    dsimp only at g5
    cases Kv:Nat.ble (q + cs1.length) cs.length
    ·rw [Kv] at g5;cases g5
    ·rw [Kv] at g5
     have Kv:=Nat.le_of_ble_eq_true Kv
     cases g5 with
     | wr g5=>
      cases g5 with
      | ret=>
       obtain ⟨b',tt,vs,hb',hh,hl,hrel⟩:=g1.ok s g _ hi
       rw [g2.φ s g hg,hb] at hb'
       injection hb' with hb'
       subst hb'
       have hvs:vs.size=cs.length:=hl
       have hc1:(a.eval y).cells.size=cs1.length:=by simpa using g4.1
       rw [g3] at hh
       refine fin _ _ vs tt hyx hh (by omega) ?_
       have hL:bT κ1 cs vs.toList:=⟨by simpa using hl,fun j c u hc hu=> (hrel j c u hc (by simpa using hu)).1⟩
       have:=g1.set (i':= .box (over cs q cs1)) (w':=κ.w.setRow _ (over vs.toList q (a.eval y).cells.toList).toArray) hi rfl rfl (by rw [g3];exact Nat.le_refl _) (by rw [g3];rfl) (by rw [g3];rfl) (by rw [g3];rfl) (by rw [g3];exact setRow_size _ _ _)
        (fun k hk=> by
         rw [g3,setRow_other]
         rintro rfl
         rw [g2.φ s g hg] at hk
         exact hk hb)
        (fun hle=> ⟨_,tt,_,by rw [g2.φ s g hg];exact hb,setRow_heap _ _ vs _ tt _ hh,by
          rw [List.size_toArray,dX _ _ _ (by simp;omega),dX _ _ _ (by omega)]
          simpa using hl,
         fun j c' u hc' hu=> by
          have hov:=(hL.over g4 q)
          refine ⟨(hov.2 j c' u hc' (by simpa using hu)).mono hle,?_⟩
          have hu':(over vs.toList q (a.eval y).cells.toList)[j]? =some u:=by simpa using hu
          rw [iV _ _ _ (by simp;omega)] at hu'
          have hold:∀(j:Nat) (u:Value),vs.toList[j]? =some u→u.oneCell'=true:=by
           intro j u hu
           have hj:j < cs.length:=by
            have:=(List.getElem?_eq_some_iff.1 hu).1
            simp at this
            omega
           exact (hrel j cs[j] u (List.getElem?_eq_getElem hj) (by simpa using hu)).2
          split at hu'
          ·exact hold j u hu'
          ·split at hu'
           ·exact h1 u (List.mem_of_getElem? hu')
           ·exact hold j u hu'⟩)
       exact ⟨_,rfl,this.1,g2.trans this.2,undef,rfl,aaW _⟩
 ·have hr:=bI he hx
  generalize hyx:a.eval x=yx at hr
  cases hr with
  | rp hg hb=>
   obtain ⟨m1,κ1,ds,g1,g2,g3,g4,g5⟩:=oI (cellsOf c) _ m κ _ v m' hs hcs h
   cases g5 with
   | RZ hi g5=>
    rename_i sz es
    cases g5 with
    | elem hc g5=>
     rename_i cc
     dsimp only at g5
     cases Kv:Nat.ble (q + ds.length) sz
     ·rw [Kv] at g5;cases g5
     ·rw [Kv] at g5
      have Kv:=Nat.le_of_ble_eq_true Kv
      cases g5 with
      | wr g5=>
       cases g5 with
       | ret=>
        obtain ⟨hlen2,hall,h3⟩:=g1.ok s g _ hi
        rcases h3 with ⟨h4,_⟩ | ⟨b',tt,cur,hb',hzz,hh,hl,hm,hcsz,hra⟩
        ·rw [g2.φ s g hg,hb] at h4;cases h4
        ·rw [g2.φ s g hg,hb] at hb'
         injection hb' with hb'
         subst hb'
         rw [g2.φ s g hg] at hzz hl hm hcsz hlen2
         have hcl:cc.length=sz:=hall cc (List.mem_of_getElem? hc)
         have hi':i < es.length:=(List.getElem?_eq_some_iff.1 hc).1
         have hfit:i * sz + sz≤cur.size:=by
          rw [hcsz]
          have:(i + 1) * sz≤(κ.φ s g).cap * sz:=Nat.mul_le_mul_right _ (by omega)
          rw [Nat.add_mul] at this
          omega
         have hd1:(a.eval y).cells.size=ds.length:=by simpa using g4.1.symm
         rw [g3] at hh
         rw [hzz] at hyx
         refine fin _ _ cur tt hyx hh (by omega) ?_
         have:=g1.set (i':= .rows sz (es.set i (over cc q ds)) false) (w':=κ.w.setRow _ (over cur.toList (i * sz + q) (a.eval y).cells.toList).toArray) hi rfl rfl (by rw [g3];exact Nat.le_refl _) (by rw [g3];rfl) (by rw [g3];rfl) (by rw [g3];rfl) (by rw [g3];exact setRow_size _ _ _)
          (fun k hk=> by
           rw [g3,setRow_other]
           rintro rfl
           rw [g2.φ s g hg] at hk
           exact hk hb)
          (fun hle=> ⟨by simp [hlen2,g2.φ s g hg],fun e he=> by
            rcases List.mem_or_eq_of_mem_set he with he | rfl
            ·exact hall e he
            ·rw [dX _ _ _ (by omega)];exact hcl,
           Or.inr ⟨_,tt,_,by rw [g2.φ s g hg];exact hb,by rw [g2.φ s g hg];exact hzz,setRow_heap _ _ cur _ tt _ hh,by rw [g2.φ s g hg];exact hl,by rw [g2.φ s g hg];exact hm,
            by rw [List.size_toArray,dX _ _ _ (by simp;omega),g2.φ s g hg];simpa using hcsz,
            fun i' j' e xx he' hx'=> by
             have hov:∀k,((over cur.toList (i * sz + q) (a.eval y).cells.toList).toArray)[k]? =if k < i * sz + q then cur[k]? else if k < i * sz + q + ds.length then (a.eval y).cells.toList[k - (i * sz + q)]? else cur[k]? :=by
              intro k
              have:=iV cur.toList (i * sz + q) (a.eval y).cells.toList (by simp;omega) k
              simpa [hd1] using this
             rw [List.getElem?_set] at he'
             have hj':j' < sz:=by
              have hje:j' < e.length:=(List.getElem?_eq_some_iff.1 hx').1
              split at he'
              ·injection he' with he'
               subst he'
               rw [dX _ _ _ (by omega)] at hje
               omega
              ·rw [hall e (List.mem_of_getElem? he')] at hje
               exact hje
             split at he'
             ·rename_i hii
              subst hii
              ·injection he' with he'
               subst he'
               rw [iV _ _ _ (by omega)] at hx'
               by_cases hq1:j' < q
               ·rw [if_pos hq1] at hx'
                obtain ⟨u,hu,hd⟩:=hra i j' cc xx hc hx'
                exact ⟨u,by rw [hov,if_pos (by omega)];exact hu,hle.BG hd⟩
               ·rw [if_neg hq1] at hx'
                by_cases hq2:j' < q + ds.length
                ·rw [if_pos hq2] at hx'
                 have hlt:j' - q < (a.eval y).cells.toList.length:=by simp;omega
                 exact ⟨_,by rw [hov,if_neg (by omega),if_pos (by omega),show i * sz + j' - (i * sz + q)=j' - q by omega];exact List.getElem?_eq_getElem hlt,hle.BG (g4.2 (j' - q) xx _ hx' (List.getElem?_eq_getElem hlt))⟩
                ·rw [if_neg hq2] at hx'
                 obtain ⟨u,hu,hd⟩:=hra i j' cc xx hc hx'
                 exact ⟨u,by rw [hov,if_neg (by omega),if_neg (by omega)];exact hu,hle.BG hd⟩
             ·rename_i hii
              obtain ⟨u,hu,hd⟩:=hra i' j' e xx he' hx'
              refine ⟨u,?_,hle.BG hd⟩
              rw [hov]
              rcases Nat.lt_or_ge i' i with hlt | hge
              ·have:(i' + 1) * sz≤i * sz:=Nat.mul_le_mul_right _ (by omega)
               rw [Nat.add_mul] at this
               rw [if_pos (by omega)]
               exact hu
              ·have:(i + 1) * sz≤i' * sz:=Nat.mul_le_mul_right _ (by omega)
               rw [Nat.add_mul] at this
               rw [if_neg (by omega),if_neg (by omega)]
               exact hu⟩⟩)
         exact ⟨_,rfl,this.1,g2.trans this.2,undef,rfl,aaW _⟩
end
end
section
open Go.RowKit
section
variable {P : Program} {T : Nat → TI} {F : FuncId → List AV → AV → Prop} {w0 : Start} {A : Nat → Prop} {o : Oper} {a : Act} {κ : Cx} {m m' : Mem} {v : AV} {Q : Exit → Act → World → Prop} {env : Nat → Option AV}
theorem BP (κ:Cx) (x:Value) (h:x.oneCell'=true:=by rfl):Rel κ (.d (.v x)) x:= .d (.v x h)
theorem iM (hs:gG w0 A m κ) {x:Value} (hrun:(execOp a.eval o).run P κ.w= .ok (.value x) κ.w) (hx:Rel κ v x):o.wp P a κ.w (fun a' w'=> After w0 A κ o v m a a' w') Q:=iU hrun (After.O0 hs hx)
theorem bQ {x:AV} (h:(Step.ret x).Runs F m v m'):v=x∧m'=m:=by cases h with | ret=> exact ⟨rfl,rfl⟩
theorem lq {p:Prop} {k:Step} (h:(Step.chk p k).Runs F m v m'):p∧k.Runs F m v m':=by cases h with | chk hp h=> exact ⟨hp,h⟩
theorem Iz (op:BinOp) (t:TypeId) (x y:Operand) (k k':IntKind) (p q:Int) (w:World):(eqGuard op t x y (.int k p) (.int k' q)).run P w= .ok () w:=by cases op <;> rfl
theorem XG (op:BinOp) (t:TypeId) (x y:Operand) (p q:ByteArray) (w:World):(eqGuard op t x y (.string p) (.string q)).run P w= .ok () w:=by cases op <;> rfl
theorem SB (op:BinOp) (t:TypeId) (x y:Operand) (p q:Bool) (w:World):(eqGuard op t x y (.bool p) (.bool q)).run P w= .ok () w:=by cases op <;> rfl
theorem aeW (hT:zy P T) (hs:gG w0 A m κ) (he:bM κ env a.tmps) {op:BinOp} {t yt:Nat} {x y:Operand} (ho:o.op= .binOp op t x y yt) (h:(Xu (T t) op (aJ env x) (aJ env y)).Runs F m v m')
  (hkn:(T t).eqs=true→(T t).known=true):
  o.wp P a κ.w (fun a' w'=> After w0 A κ o v m' a a' w') Q:=by
 have fin:∀(p q r:Value),a.eval x=p→a.eval y=q→(binOp op t p q).run P κ.w= .ok r κ.w→(eqGuard op t x y p q).run P κ.w= .ok () κ.w→Rel κ v r→m'=m→o.wp P a κ.w (fun a' w'=> After w0 A κ o v m' a a' w') Q:=by
  intro p q r hp hq hrun hg hr hm
  subst hm
  refine iM hs ?_ hr
  unfold execOp
  rw [ho]
  simp [hp,hq,hg,hrun]
 cases hx:aJ env x with
 | none=> rw [hx] at h;cases h
 | some c=>
  cases hy:aJ env y with
  | none=> rw [hx,hy] at h;cases c <;> cases h
  | some d=>
   rw [hx,hy] at h
   have hrx:=bI he hx
   have hry:=bI he hy
   by_cases hagg:∃xs ys,c= .agg xs∧d= .agg ys
   ·obtain ⟨xs,ys,rfl,rfl⟩:=hagg
    obtain ⟨us,hus,Ru⟩:=hrx.vZ
    obtain ⟨vs,hvs,hrv⟩:=hry.vZ
    simp only [Xu] at h
    split at h
    ·rename_i b he1 he2
     obtain ⟨rfl,rfl⟩:=bQ h
     obtain ⟨e1,e2,e3⟩:=((hT t (hkn he2)).eq he2).eq κ.w us vs xs ys b x y κ Ru hrv he1
     exact fin _ _ (.bool b) hus hvs (by simp [binOp,e3]) e1 (BP κ _) rfl
    ·rename_i b he1 he2
     obtain ⟨rfl,rfl⟩:=bQ h
     obtain ⟨e1,e2,e3⟩:=((hT t (hkn he2)).eq he2).eq κ.w us vs xs ys b x y κ Ru hrv he1
     exact fin _ _ (.bool (!b)) hus hvs (by simp [binOp,e3]) e2 (BP κ _) rfl
    ·cases h
   ·have e:Xu (T t) op (some c) (some d)=aeN (T t).k op c d:=by
     cases c <;> cases d <;> first | rfl | exact absurd ⟨_,_,rfl,rfl⟩ hagg
    rw [e] at h
    unfold aeN at h
    split at h
    ·rename_i k p k' q
     have hp:=hrx.val
     have hq:=hry.val
     by_cases hop:op= .shr
     ·subst hop
      obtain ⟨h0,h⟩:=lq h
      obtain ⟨rfl,rfl⟩:=bQ h
      have h0:¬q < 0:=by omega
      exact fin _ _ _ hp hq (by simp [binOp,Op.shift,h0]) (Iz ..) (BP κ _) rfl
     have h:(aeM op k k' p q).Runs F m v m':=by
      clear fin e
      cases op <;> first | exact h | exact absurd rfl hop
     unfold aeM at h
     by_cases hk:k=k'
     ·subst hk
      simp only [ne_eq,not_true_eq_false,if_false] at h
      have hg:(eqGuard op t x y (.int k p) (.int k q)).run P κ.w= .ok () κ.w:=Iz ..
      split at h
      all_goals first
       | (obtain ⟨rfl,rfl⟩:=bQ h;exact fin _ _ _ hp hq (by simp [binOp,Op.intArith,Op.intCmp]) hg (BP κ _) rfl)
       | (obtain ⟨h0,h⟩:=lq h;obtain ⟨rfl,rfl⟩:=bQ h;exact fin _ _ _ hp hq (by simp [binOp,Op.intDiv,h0]) hg (BP κ _) rfl)
       | cases h
     ·simp only [ne_eq,hk,not_false_eq_true,if_true] at h
      cases h
    ·rename_i p q
     have hp:=hrx.val
     have hq:=hry.val
     have hg:(eqGuard op t x y (.string p) (.string q)).run P κ.w= .ok () κ.w:=XG ..
     split at h
     all_goals first
      | (obtain ⟨h0,h⟩:=lq h;obtain ⟨rfl,rfl⟩:=bQ h;exact fin _ _ _ hp hq (by
        have hmx:IntKind.i64.max=9223372036854775807:=by decide
        have:¬((p.size + q.size:Nat):Int) > IntKind.i64.max:=by rw [hmx];omega
        simp only [binOp,Op.stringOp,this,if_false];rfl) hg (BP κ _) rfl)
      | (obtain ⟨rfl,rfl⟩:=bQ h;exact fin _ _ _ hp hq (by simp [binOp,Op.stringOp]) hg (BP κ _) rfl)
      | cases h
    ·rename_i p q
     have hp:=hrx.val
     have hq:=hry.val
     cases hk:(T t).k with
     | bool=>
      rw [hk] at h
      obtain ⟨d,hu,hd⟩:=hT.kok hk (by simp)
      have hd:d= .bool:=hd
      subst hd
      have hb:(Op.equal t (.bool p) (.bool q)).run P κ.w= .ok (p==q) κ.w:=by
       rw [Op.equal,show Op.maxDepth=9999 + 1 from rfl,Op.equalIn]
       simp [run_underlying hu]
      dsimp only at h
      split at h
      all_goals first
       | (obtain ⟨rfl,rfl⟩:=bQ h;exact fin _ _ _ hp hq (by simp [binOp,hb]) (SB ..) (BP κ _) rfl)
       | cases h
     | _=> rw [hk] at h;cases h
    ·cases h
theorem ajD (hs:gG w0 A m κ) (he:bM κ env a.tmps) {op:UnOp} {t:Nat} {x:Operand} (ho:o.op= .unOp op t x) (h:(unF op (aJ env x)).Runs F m v m'):o.wp P a κ.w (fun a' w'=> After w0 A κ o v m' a a' w') Q:=by
 generalize hx:aJ env x=c at h
 unfold unF at h
 split at h
 ·obtain ⟨rfl,rfl⟩:=bQ h
  refine iM hs ?_ (BP κ _)
  unfold execOp
  rw [ho]
  simp [(bI he hx).val,Op.unary]
 ·obtain ⟨rfl,rfl⟩:=bQ h
  refine iM hs ?_ (BP κ _)
  unfold execOp
  rw [ho]
  simp [(bI he hx).val,Op.unary,Op.intArith]
 ·cases h
theorem XH (hT:zy P T) (hs:gG w0 A m κ) (he:bM κ env a.tmps) {t f:Nat} {x:Operand} (ho:o.op= .fieldAddr t x f) (h:(J8 (T t).k f (aJ env x)).Runs F m v m'):o.wp P a κ.w (fun a' w'=> After w0 A κ o v m' a a' w') Q:=by
 generalize hx:aJ env x=c at h
 generalize hk:(T t).k=k at h
 unfold J8 at h
 split at h
 ·rename_i fs
  obtain ⟨d,hu,fields,rfl,hf,hfz⟩:=hT.kok hk (by simp)
  have key:∀(q:Nat) (tt n b p:Nat),fs[f]? =some (q,tt,n + 1)→a.eval x= .pointer (some ⟨b,p,none⟩)→(execOp a.eval o).run P κ.w= .ok (.value (.pointer (some ⟨b,p + q,none⟩))) κ.w:=by
   intro q tt n b p hfs hp
   have h1:=congrArg (·[f]?) hf
   simp only [List.getElem?_map,hfs,Option.map_some] at h1
   cases hg:fields.toList[f]? with
   | none=> rw [hg] at h1;simp at h1
   | some fl=>
    rw [hg] at h1
    simp at h1
    have hg':fields[f]? =some fl:=by simpa using hg
    have hz:=hfz _ (List.mem_of_getElem? hfs)
    unfold dW at hz
    cases hq:P.info? tt with
    | none=> simp [hq] at hz
    | some it=>
     simp [hq] at hz
     unfold execOp
     rw [ho]
     simp [hp,Instr.fieldAt,run_underlying hu,hg',Instr.sureAddr,fieldPlace,sizeOf,typeInfo,h1.2,hq,hz,h1.1,Addr.add_lit]
  split at h
  ·rename_i h1
   obtain ⟨rfl,rfl⟩:=bQ h
   have hr:=bI he hx
   generalize hy:a.eval x=y at hr
   cases hr with
   | lp hg hb=> exact iM hs (key _ _ _ _ _ h1 hy) (.lp hg hb)
  ·rename_i q tt n cs h1
   obtain ⟨rfl,rfl⟩:=bQ h
   have hr:=bI he hx
   generalize hy:a.eval x=y at hr
   cases hr with
   | fp vs hb hc hrr=>
    refine iM hs (key _ _ _ _ _ h1 hy) (.fp (fun j=> vs (q + j)) hb (fun j hj=> ?_) (fun j x hj=> ?_))
    ·rw [Nat.add_assoc]
     exact hc _ (by simp at hj;omega)
    ·rw [List.getElem?_drop] at hj
     exact hrr _ x hj
  ·rename_i h1
   obtain ⟨rfl,rfl⟩:=bQ h
   have hr:=bI he hx
   generalize hy:a.eval x=y at hr
   cases hr with
   | rp hg hb=>
    have:=key _ _ _ _ _ h1 hy
    rw [Nat.add_assoc] at this
    exact iM hs this (.rp hg hb)
  ·cases h
 ·cases h
theorem O5 (hs:gG w0 A m κ) (he:bM κ env a.tmps) {i:Nat} {x:Operand} (ho:o.op= .extract x i) (h:(vV i (aJ env x)).Runs F m v m'):o.wp P a κ.w (fun a' w'=> After w0 A κ o v m' a a' w') Q:=by
 generalize hx:aJ env x=c at h
 unfold vV at h
 split at h
 ·rename_i vs
  obtain ⟨h1,rfl⟩:=yI h
  obtain ⟨us,hus,hr⟩:=(bI he hx).Kt
  obtain ⟨u,hu,Ru⟩:=hr.get h1
  refine iM hs ?_ Ru
  have hu':us[i]? =some u:=by simpa using hu
  unfold execOp
  rw [ho]
  simp [hus,Instr.extract,hu']
 ·cases h
theorem mg {t:Nat} {x ix:Operand} {e n:Nat} {b p:Nat} {k:IntKind} {i:Int} {z:Nat} (ho:o.op= .indexAddr t x ix) (hz:dW P e z) (hi:a.eval ix= .int k i) (h0:0≤i) (h1:i < n)
  (h:(P.underlying t=some (.array n e)∧a.eval x= .pointer (some ⟨b,p,none⟩))∨(P.underlying t=some (.slice e)∧∃c,a.eval x= .slice (some ⟨b,p,none⟩) n c)):
  (execOp a.eval o).run P κ.w= .ok (.value (.pointer (some ⟨b,p + i.toNat * z,none⟩))) κ.w:=by
 unfold dW at hz
 cases hq:P.info? e with
 | none=> simp [hq] at hz
 | some it=>
  have hz':it.size=z:=by simpa [hq] using hz
  unfold execOp
  rw [ho]
  rcases h with ⟨hu,hx⟩ | ⟨hu,c,hx⟩
  ·simp [hx,hi,Instr.indexAt,asIntOf,run_underlying hu,Instr.sureAddr,h0,h1,sizeOf,typeInfo,hq,hz',Addr.add_lit]
  ·simp [hx,hi,Instr.indexAt,asIntOf,run_underlying hu,h0,h1,sizeOf,typeInfo,hq,hz',Addr.add_lit]
theorem XI (hT:zy P T) (hs:gG w0 A m κ) (he:bM κ env a.tmps) {t:Nat} {x ix:Operand} (ho:o.op= .indexAddr t x ix) (h:(uO (T t).k (aJ env x) (aJ env ix)).Runs F m v m'):o.wp P a κ.w (fun a' w'=> After w0 A κ o v m' a a' w') Q:=by
 generalize hx:aJ env x=c at h
 generalize hix:aJ env ix=ci at h
 generalize hk:(T t).k=k at h
 unfold uO at h
 split at h
 ·obtain ⟨⟨h0,h1⟩,h⟩:=lq h
  obtain ⟨rfl,rfl⟩:=bQ h
  obtain ⟨d,hu,hd,hz⟩:=hT.kok hk (by simp)
  have hd:d=_:=hd
  subst hd
  have hr:=bI he hx
  generalize hy:a.eval x=y at hr
  cases hr with
  | lp hg hb=> exact iM hs (mg ho hz (bI he hix).val h0 h1 (Or.inl ⟨hu,hy⟩)) (.lp hg hb)
 ·rename_i n e z cs ki i
  obtain ⟨⟨h0,h1⟩,h⟩:=lq h
  obtain ⟨rfl,rfl⟩:=bQ h
  obtain ⟨d,hu,hd,hz⟩:=hT.kok hk (by simp)
  have hd:d=_:=hd
  subst hd
  have hr:=bI he hx
  generalize hy:a.eval x=y at hr
  cases hr with
  | fp vs hb hc hrr=>
   refine iM hs (mg ho hz (bI he hix).val h0 h1 (Or.inl ⟨hu,hy⟩)) (.fp (fun j=> vs (i.toNat * z + j)) hb (fun j hj=> ?_) (fun j x hj=> ?_))
   ·rw [Nat.add_assoc]
    exact hc _ (by simp at hj;omega)
   ·rw [List.getElem?_drop] at hj
    exact hrr _ x hj
 ·obtain ⟨⟨h0,h1⟩,h⟩:=lq h
  obtain ⟨rfl,rfl⟩:=bQ h
  obtain ⟨d,hu,hd,hz⟩:=hT.kok hk (by simp)
  have hd:d=_:=hd
  subst hd
  have hr:=bI he hx
  generalize hy:a.eval x=y at hr
  cases hr with
  | rp hg hb=>
   have:=mg (κ:=κ) ho hz (bI he hix).val h0 h1 (Or.inl ⟨hu,hy⟩)
   rw [Nat.add_assoc] at this
   exact iM hs this (.rp hg hb)
 ·rename_i e z es ki i
  obtain ⟨⟨h0,h1⟩,h⟩:=lq h
  cases h with
  | elem hc h=>
   rename_i cc
   obtain ⟨hcl,h⟩:=lq h
   obtain ⟨rfl,rfl⟩:=bQ h
   obtain ⟨d,hu,hd,hz⟩:=hT.kok hk (by simp)
   have hd:d=_:=hd
   subst hd
   have hr:=bI he hx
   generalize hy:a.eval x=y at hr
   cases hr with
   | d hr=>
    cases hr with
    | fz0 A' c' _=> simp at h1;omega
    | fz _ b q sz c' vs hsz hb hcap hcell hrr=>
     have hszz:sz=z:=by rw [←hcl,hsz cc (List.mem_of_getElem? hc)]
     subst hszz
     refine iM hs (mg ho hz (bI he hix).val h0 h1 (Or.inr ⟨hu,_,hy⟩)) (.fp (fun j=> vs (i.toNat * sz + j)) hb (fun j hj=> ?_) (fun j x hj=> ?_))
     ·rw [Nat.add_assoc]
      refine hcell _ ?_
      have:(i.toNat + 1) * sz≤es.length * sz:=Nat.mul_le_mul_right _ (by omega)
      rw [Nat.add_mul] at this
      omega
     ·exact hrr _ j _ x hc hj
 ·rename_i e z s g n ki i
  obtain ⟨⟨h0,h1⟩,h⟩:=lq h
  cases h with
  | OQ hi h=>
   obtain ⟨rfl,rfl⟩:=bQ h
   obtain ⟨d,hu,hd,hz⟩:=hT.kok hk (by simp)
   have hd:d=_:=hd
   subst hd
   have hr:=bI he hx
   generalize hy:a.eval x=y at hr
   have hok:=hs.ok s g _ hi
   cases hr with
   | row0 A' hg hb hl=> simp at h1;omega
   | row hg hb=>
    obtain ⟨_,_,h3⟩:=hok
    rcases h3 with ⟨h4,_⟩ | ⟨b',tt,cur,hb',hzz,_⟩
    ·rw [h4] at hb;cases hb
    ·have:=mg (κ:=κ) ho hz (bI he hix).val h0 h1 (Or.inr ⟨hu,_,hy⟩)
     rw [Nat.zero_add,←hzz] at this
     exact iM hs this (.rp hg hb)
 ·rename_i e z s g q n ki i
  obtain ⟨⟨h0,h1⟩,h⟩:=lq h
  cases h with
  | OQ hi h=>
   obtain ⟨rfl,rfl⟩:=bQ h
   obtain ⟨d,hu,hd,hz⟩:=hT.kok hk (by simp)
   have hd:d=_:=hd
   subst hd
   have hr:=bI he hx
   generalize hy:a.eval x=y at hr
   have hok:=hs.ok s g _ hi
   cases hr with
   | BF A' hg hb hl=> simp at h1;omega
   | sub A' hg hb hA hn=>
    obtain ⟨_,_,h3⟩:=hok
    rcases h3 with ⟨h4,_⟩ | ⟨b',tt,cur,hb',hzz,_⟩
    ·rw [h4] at hb;cases hb
    ·rcases hA with ⟨rfl,hA⟩ | rfl
     ·simp at h1;omega
     ·have:=mg (κ:=κ) ho hz (bI he hix).val h0 h1 (Or.inr ⟨hu,_,hy⟩)
      rw [←hzz,←Nat.add_mul] at this
      exact iM hs this (.rp hg hb)
 ·cases h
theorem aeX (hT:zy P T) (hs:gG w0 A m κ) (he:bM κ env a.tmps) {x:Operand} {t:Nat} (ho:o.op= .call {callee:= .builtin .len,args:= #[x],argTypes:= #[t]}) (h:(Si (T t).k (aJ env x)).Runs F m v m'):
  o.wp P a κ.w (fun a' w'=> After w0 A κ o v m' a a' w') Q:=by
 generalize hx:aJ env x=c at h
 generalize hk:(T t).k=k at h
 have key:∀(n:Nat),v=I n→m'=m→(Builtin.len_ #[t] o.type #[a.eval x]).run P κ.w= .ok (goInt n) κ.w→o.wp P a κ.w (fun a' w'=> After w0 A κ o v m' a a' w') Q:=by
  intro n hv hm hrun
  subst hv hm
  refine iM (x:= .int .i64 n) hs ?_ (BP κ _)
  unfold execOp
  rw [ho]
  simp only [resolve,List.map_toArray,List.map_cons,List.map_nil,Sem.run_bind,Sem.run_pure,Result.andThen_ok,invoke,builtin,hrun]
  rfl
 have hu:k≠ .none_→∃d,P.underlying t=some d∧KOk P k d:=fun hn=> hT.kok hk hn
 unfold Si at h
 split at h
 ·obtain ⟨rfl,rfl⟩:=bQ h
  obtain ⟨d,hu,hd⟩:=hu (by simp)
  have hd:d=_:=hd
  subst hd
  exact key _ rfl rfl (by rw [(bI he hx).val];simp [Builtin.len_,run_underlying hu])
 ·rename_i e z es
  obtain ⟨rfl,rfl⟩:=bQ h
  obtain ⟨d,hu,hd,_⟩:=hu (by simp)
  have hd:d=_:=hd
  subst hd
  have hr:=bI he hx
  refine key es.length rfl rfl ?_
  generalize a.eval x=y at hr
  cases hr with
  | d hr=>
   cases hr with
   | fz0=> simp [Builtin.len_,run_underlying hu]
   | fz=> simp [Builtin.len_,run_underlying hu]
 ·obtain ⟨rfl,rfl⟩:=bQ h
  obtain ⟨d,hu,hd,_⟩:=hu (by simp)
  have hd:d=_:=hd
  subst hd
  have hr:=bI he hx
  refine key 0 rfl rfl ?_
  generalize a.eval x=y at hr
  cases hr with
  | nl=> simp [Builtin.len_,run_underlying hu]
 ·rename_i e z s g n
  obtain ⟨rfl,rfl⟩:=bQ h
  obtain ⟨d,hu,hd,_⟩:=hu (by simp)
  have hd:d=_:=hd
  subst hd
  have hr:=bI he hx
  refine key n rfl rfl ?_
  generalize a.eval x=y at hr
  cases hr with
  | row0=> simp [Builtin.len_,run_underlying hu]
  | row=> simp [Builtin.len_,run_underlying hu]
 ·rename_i e z s g q n
  obtain ⟨rfl,rfl⟩:=bQ h
  obtain ⟨d,hu,hd,_⟩:=hu (by simp)
  have hd:d=_:=hd
  subst hd
  have hr:=bI he hx
  refine key n rfl rfl ?_
  generalize a.eval x=y at hr
  cases hr with
  | BF=> simp [Builtin.len_,run_underlying hu]
  | sub=> simp [Builtin.len_,run_underlying hu]
 ·rename_i n e z _
  obtain ⟨rfl,rfl⟩:=bQ h
  obtain ⟨d,hu,hd,_⟩:=hu (by simp)
  have hd:d=_:=hd
  subst hd
  exact key n rfl rfl (by simp [Builtin.len_,run_underlying hu])
 ·rename_i kt et s g
  cases h with
  | OO hi h=>
   obtain ⟨rfl,rfl⟩:=bQ h
   obtain ⟨d,hu,hd⟩:=hu (by simp)
   have hd:d= .map kt et:=hd
   subst hd
   obtain ⟨b,ents,clock,hev,hbk,hh,hm,_⟩:=XA hs hi (bI he hx)
   rw [hev] at key
   exact key _ rfl rfl (by simp [Builtin.len_,run_underlying hu,MapKept.run_getObj_map hh,Result.andThen,hm.1])
 ·rename_i kt et ck es
  obtain ⟨rfl,rfl⟩:=bQ h
  obtain ⟨d,hu,hd⟩:=hu (by simp)
  have hd:d= .map kt et:=hd
  subst hd
  have hr:=bI he hx
  generalize hy:a.eval x=y at hr key
  cases hr with
  | d hr=>
   obtain ⟨b,ents,clock,rfl,hbS,hh,hm,_⟩:=hr.aeU
   exact key _ rfl rfl (by simp [Builtin.len_,run_underlying hu,MapKept.run_getObj_map hh,Result.andThen,hm.1])
 ·cases h
end
end
end Go.Proofs.YtnegekppaoedgaaGreatDoor

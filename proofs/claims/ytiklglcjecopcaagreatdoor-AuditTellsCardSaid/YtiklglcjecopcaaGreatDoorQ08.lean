/-
  Evaluation of Go code on plain data: how values and memory stand to those of the model. Over any program.
  Evaluation of Go code on plain data: runs of an operation's steps. Over any program.
-/
import Derived.Test.YtiklglcjecopcaaGreatDoorQ07
import Derived.MapKept
namespace Go.Proofs.YtiklglcjecopcaaGreatDoor
open Go.RowKit
inductive RelD (S:Nat→Prop) (w:World):D→Value→Prop
 | v (x:Value) (h:x.oneCell'=true):RelD S w (.v x) x
 | fz0 (A:Option Addr) (c:Nat) (h:A=none→c=0):RelD S w (.fz []) (.slice A 0 c)
 | fz (es:List (List D)) (b o sz c:Nat) (vs:Nat→Value) (hs:∀e∈es,e.length=sz) (hb:S b) (hcap:es.length≤c)
   (hc:∀j,j < es.length * sz→w.cell? ⟨b,o + j,none⟩=some (vs j))
   (hr:∀(i j:Nat) (e:List D) (x:D),es[i]? =some e→e[j]? =some x→RelD S w x (vs (i * sz + j))):RelD S w (.fz es) (.slice (some ⟨b,o,none⟩) es.length c)
 | mz (ck:CK) (es:List (Value×D)) (b:Nat) (ents:Array MapEntry) (clock:Nat) (vs:Nat→Array Value) (hb:S b) (hh:w.heap[b]? =some (.map ents clock)) (hst:MapKept.Stamped ents clock) (hl:ents.size=es.length)
   (hk:∀(j:Nat) (p:Value×D) (e:MapEntry),es[j]? =some p→ents[j]? =some e→e.key=p.1∧ckHas ck p.1=true)
   (h1:∀(j:Nat) (p:Value×D) (e:MapEntry),es[j]? =some p→ents[j]? =some e→(∀cs,p.2≠ .ag cs)→RelD S w p.2 e.val)
   (h2:∀(j:Nat) (p:Value×D) (e:MapEntry) (cs:List D),es[j]? =some p→ents[j]? =some e→p.2= .ag cs→e.val= .agg (vs j)∧(vs j).size=cs.length)
   (h3:∀(j:Nat) (p:Value×D) (cs:List D) (i:Nat) (x:D) (y:Value),es[j]? =some p→p.2= .ag cs→cs[i]? =some x→(vs j)[i]? =some y→RelD S w x y):RelD S w (.mz ck es) (.map (some b))
 | pz (cs:List D) (b o:Nat) (vs:Nat→Value) (hb:S b) (hc:∀j,j < cs.length→w.cell? ⟨b,o + j,none⟩=some (vs j)) (hr:∀(j:Nat) (x:D),cs[j]? =some x→RelD S w x (vs j)):RelD S w (.pz cs) (.pointer (some ⟨b,o,none⟩))
theorem RelD.one {S:Nat→Prop} {w:World} {x:D} {v:Value} (h:RelD S w x v):v.oneCell'=true:=by
 cases h with
 | v _ h=> exact h
 | fz0=> rfl
 | fz=> rfl
 | mz=> rfl
 | pz=> rfl
theorem RelD.mono {S S':Nat→Prop} {w w':World} (hS:∀b,S b→S' b) (hw:∀b,S b→w'.heap[b]? =w.heap[b]?) {x:D} {v:Value} (h:RelD S w x v):RelD S' w' x v:=by
 induction h with
 | v x h=> exact .v x h
 | fz0 A c h=> exact .fz0 A c h
 | fz es b o sz c vs hs hb hcap hc hr ih=> exact .fz es b o sz c vs hs (hS b hb) hcap (fun j hj=> by rw [World.cell?_of_block (w:=w) (hw b hb)];exact hc j hj) ih
 | mz ck es b ents clock vs hb hh hst hl hk h1 h2 h3 ih1 ih3=> exact .mz ck es b ents clock vs (hS b hb) (by rw [hw b hb];exact hh) hst hl hk ih1 h2 ih3
 | pz cs b o vs hb hc hr ih=> exact .pz cs b o vs (hS b hb) (fun j hj=> by rw [World.cell?_of_block (w:=w) (hw b hb)];exact hc j hj) ih
def RelE (S:Nat→Prop) (w:World) (d:D) (v:Value):Prop:=match d with
 | .ag cs=> ∃vs:Array Value,v= .agg vs∧vs.size=cs.length∧∀(j:Nat) (x:D) (y:Value),cs[j]? =some x→vs[j]? =some y→RelD S w x y
 | d=> RelD S w d v
theorem RelE.mono {S S':Nat→Prop} {w w':World} (hS:∀b,S b→S' b) (hw:∀b,S b→w'.heap[b]? =w.heap[b]?) {x:D} {v:Value} (h:RelE S w x v):RelE S' w' x v:=by
 cases x with
 | ag cs=>
  obtain ⟨vs,h1,h2,h3⟩:=h
  exact ⟨vs,h1,h2,fun j x y hx hy=> (h3 j x y hx hy).mono hS hw⟩
 | _=> exact RelD.mono hS hw h
theorem RelE.of {S:Nat→Prop} {w:World} {x:D} {v:Value} (h:RelD S w x v):RelE S w x v:=by
 cases x with
 | ag cs=> cases h
 | _=> exact h
theorem RelE.to {S:Nat→Prop} {w:World} {x:D} {v:Value} (hx:∀cs,x≠ .ag cs) (h:RelE S w x v):RelD S w x v:=by
 cases x with
 | ag cs=> exact absurd rfl (hx cs)
 | _=> exact h
structure Loc where
 blk:Option Nat
 cap:Nat
 sz:Nat
 len:Nat
structure Cx where
 φ:Nat→Nat→Loc
 gn:Nat→Nat
 S:Nat→Prop
 w:World
inductive Rel (κ:Cx):AV→Value→Prop
 | d {x:D} {v:Value} (h:RelD κ.S κ.w x v):Rel κ (.d x) v
 | agg {cs:List AV} {vs:Array Value} (hl:vs.size=cs.length) (h:∀(j:Nat) (c:AV) (v:Value),cs[j]? =some c→vs[j]? =some v→Rel κ c v):Rel κ (.agg cs) (.agg vs)
 | tup {cs:List AV} {vs:Array Value} (hl:vs.size=cs.length) (h:∀(j:Nat) (c:AV) (v:Value),cs[j]? =some c→vs[j]? =some v→Rel κ c v):Rel κ (.tup cs) (.tuple vs)
 | nl (A:Option Addr):Rel κ .nl (.slice A 0 0)
 | fp {cs:List D} {b o:Nat} (vs:Nat→Value) (hb:κ.S b) (hc:∀j,j < cs.length→κ.w.cell? ⟨b,o + j,none⟩=some (vs j)) (hr:∀(j:Nat) (x:D),cs[j]? =some x→RelD κ.S κ.w x (vs j)):Rel κ (.fp cs) (.pointer (some ⟨b,o,none⟩))
 | lp {s g o b:Nat} (hg:g≤κ.gn s) (hb:(κ.φ s g).blk=some b):Rel κ (.lp s g o) (.pointer (some ⟨b,o,none⟩))
 | rp {s g i o b:Nat} (hg:g≤κ.gn s) (hb:(κ.φ s g).blk=some b):Rel κ (.rp s g i o) (.pointer (some ⟨b,i * (κ.φ s g).sz + o,none⟩))
 | row0 {s g:Nat} (A:Option Addr) (hg:g≤κ.gn s) (hb:(κ.φ s g).blk=none) (hl:(κ.φ s g).len=0):Rel κ (.row s g 0) (.slice A 0 0)
 | row {s g b:Nat} (hg:g≤κ.gn s) (hb:(κ.φ s g).blk=some b):Rel κ (.row s g (κ.φ s g).len) (.slice (some ⟨b,0,none⟩) (κ.φ s g).len (κ.φ s g).cap)
 | sub0 {s g:Nat} (A:Option Addr) (hg:g≤κ.gn s) (hb:(κ.φ s g).blk=none) (hl:(κ.φ s g).len=0):Rel κ (.sub s g 0 0) (.slice A 0 0)
 | sub {s g o n b:Nat} (A:Option Addr) (hg:g≤κ.gn s) (hb:(κ.φ s g).blk=some b) (hA:(n=0∧(κ.φ s g).cap - o=0)∨A=some ⟨b,o * (κ.φ s g).sz,none⟩) (hn:o + n≤(κ.φ s g).len):Rel κ (.sub s g o n) (.slice A n ((κ.φ s g).cap - o))
 | mp {s g b:Nat} (hg:g≤κ.gn s) (hb:(κ.φ s g).blk=some b):Rel κ (.mp s g) (.map (some b))
 | fn {f:FuncId} {cs:List AV} {vs:Array Value} (hl:vs.size=cs.length) (h:∀(j:Nat) (c:AV) (v:Value),cs[j]? =some c→vs[j]? =some v→Rel κ c v):Rel κ (.fn f cs) (.func (.func f) #[] vs)
 | kb (b:Bool):Rel κ (.kb b) (.bool b)
structure Cx.Le (κ κ':Cx):Prop where
 gn:∀s,κ.gn s≤κ'.gn s
 φ:∀s g,g≤κ.gn s→κ'.φ s g=κ.φ s g
 S:∀b,κ.S b→κ'.S b
 w:∀b,κ.S b→κ'.w.heap[b]? =κ.w.heap[b]?
theorem Cx.Le.refl (κ:Cx):κ.Le κ:=⟨fun _=> Nat.le_refl _,fun _ _ _=> rfl,fun _ h=> h,fun _ _=> rfl⟩
theorem Cx.Le.trans {a b c:Cx} (h:a.Le b) (k:b.Le c):a.Le c:=
 ⟨fun s=> Nat.le_trans (h.gn s) (k.gn s),fun s g hg=> (k.φ s g (Nat.le_trans hg (h.gn s))).trans (h.φ s g hg),fun x hx=> k.S x (h.S x hx),fun x hx=> (k.w x (h.S x hx)).trans (h.w x hx)⟩
theorem Cx.Le.relD {κ κ':Cx} (h:κ.Le κ') {x:D} {v:Value} (hr:RelD κ.S κ.w x v):RelD κ'.S κ'.w x v:=hr.mono h.S h.w
theorem Cx.Le.relE {κ κ':Cx} (h:κ.Le κ') {x:D} {v:Value} (hr:RelE κ.S κ.w x v):RelE κ'.S κ'.w x v:=hr.mono h.S h.w
theorem Rel.mono {κ κ':Cx} (hl:κ.Le κ') {x:AV} {v:Value} (h:Rel κ x v):Rel κ' x v:=by
 induction h with
 | d h=> exact .d (hl.relD h)
 | agg hs _ ih=> exact .agg hs ih
 | tup hs _ ih=> exact .tup hs ih
 | nl A=> exact .nl A
 | fp vs hb hc hr=> exact .fp vs (hl.S _ hb) (fun j hj=> by rw [World.cell?_of_block (w:=κ.w) (hl.w _ hb)];exact hc j hj) (fun j x hx=> hl.relD (hr j x hx))
 | lp hg hb=> exact .lp (Nat.le_trans hg (hl.gn _)) (by rw [hl.φ _ _ hg];exact hb)
 | rp hg hb=> rw [←hl.φ _ _ hg];exact .rp (Nat.le_trans hg (hl.gn _)) (by rw [hl.φ _ _ hg];exact hb)
 | row0 A hg hb hz=> exact .row0 A (Nat.le_trans hg (hl.gn _)) (by rw [hl.φ _ _ hg];exact hb) (by rw [hl.φ _ _ hg];exact hz)
 | row hg hb=> rw [←hl.φ _ _ hg];exact .row (Nat.le_trans hg (hl.gn _)) (by rw [hl.φ _ _ hg];exact hb)
 | sub0 A hg hb hz=> exact .sub0 A (Nat.le_trans hg (hl.gn _)) (by rw [hl.φ _ _ hg];exact hb) (by rw [hl.φ _ _ hg];exact hz)
 | sub A hg hb hA hn=> rw [←hl.φ _ _ hg];exact .sub A (Nat.le_trans hg (hl.gn _)) (by rw [hl.φ _ _ hg];exact hb) (by rw [hl.φ _ _ hg];exact hA) (by rw [hl.φ _ _ hg];exact hn)
 | mp hg hb=> exact .mp (Nat.le_trans hg (hl.gn _)) (by rw [hl.φ _ _ hg];exact hb)
 | fn hs _ ih=> exact .fn hs ih
 | kb b=> exact .kb b
theorem Rel.ofD {κ:Cx} {x:D} {v:Value} (h:RelD κ.S κ.w x v):Rel κ (dv x) v:=by
 cases h with
 | v _ h=> exact .d (.v _ h)
 | fz0 A c h=> exact .d (.fz0 A c h)
 | fz es b o sz c vs hs hb hcap hc hr=> exact .d (.fz es b o sz c vs hs hb hcap hc hr)
 | mz ck es b ents clock vs hb hh hst hl hk h1 h2 h3=> exact .d (.mz ck es b ents clock vs hb hh hst hl hk h1 h2 h3)
 | pz cs b o vs hb hc hr=> exact .fp vs hb hc hr
theorem Rel.ofE {κ:Cx} {x:D} {v:Value} (h:RelE κ.S κ.w x v):Rel κ (mcell x) v:=by
 cases x with
 | ag cs=>
  obtain ⟨vs,rfl,h2,h3⟩:=h
  refine .agg (by simp [h2]) fun j c v hc hv=> ?_
  rw [List.getElem?_map] at hc
  cases hq:cs[j]? with
  | none=> rw [hq] at hc;cases hc
  | some x=>
   rw [hq] at hc
   injection hc with hc
   subst hc
   exact .ofD (h3 j x v hq hv)
 | _=> exact .ofD (RelE.to (fun cs e=> by cases e) h)
theorem Rel.unk1 {κ:Cx} {x:AV} {v:Value} (h:Rel κ x v):Rel κ (unk1 x) v:=by
 cases h with
 | kb b=> exact .d (.v _ rfl)
 | d h=> exact .d h
 | agg hl h=> exact .agg hl h
 | tup hl h=> exact .tup hl h
 | nl A=> exact .nl A
 | fp vs hb hc hr=> exact .fp vs hb hc hr
 | lp hg hb=> exact .lp hg hb
 | rp hg hb=> exact .rp hg hb
 | row0 A hg hb hz=> exact .row0 A hg hb hz
 | row hg hb=> exact .row hg hb
 | sub0 A hg hb hz=> exact .sub0 A hg hb hz
 | sub A hg hb hA hn=> exact .sub A hg hb hA hn
 | mp hg hb=> exact .mp hg hb
 | fn hl h=> exact .fn hl h
theorem Rel.unk {κ:Cx} {x:AV} {v:Value} (h:Rel κ x v):Rel κ (unk x) v:=by
 have h1:=h.unk1
 cases x with
 | agg cs=>
  cases h with
  | agg hl h=>
   refine .agg (by simpa using hl) fun j c v hc hv=> ?_
   rw [List.getElem?_map] at hc
   cases hq:cs[j]? with
   | none=> rw [hq] at hc;cases hc
   | some q=>
    rw [hq] at hc
    injection hc with hc
    subst hc
    exact (h j q v hq hv).unk1
 | _=> exact h1
theorem Rel.one {κ:Cx} {x:AV} {v:Value} (h:Rel κ x v) (h1:isOne x=true):v.oneCell'=true:=by
 cases h with
 | d h=> exact h.one
 | agg=> cases h1
 | tup=> cases h1
 | _=> rfl
def RowAt (κ:Cx) (cur:Array Value) (sz:Nat) (es:List (List D)):Prop:=∀(i j:Nat) (e:List D) (x:D),es[i]? =some e→e[j]? =some x→∃v,cur[i * sz + j]? =some v∧RelD κ.S κ.w x v
def MapIn (S:Nat→Prop) (w:World) (ck:CK) (ents:Array MapEntry) (es:List (Value×D)):Prop:=ents.size=es.length∧∀(j:Nat) (p:Value×D) (e:MapEntry),es[j]? =some p→ents[j]? =some e→e.key=p.1∧RelE S w p.2 e.val∧ckHas ck p.1=true
def MapAt (κ:Cx) (ck:CK) (ents:Array MapEntry) (es:List (Value×D)):Prop:=MapIn κ.S κ.w ck ents es
theorem RelD.map_mk {S:Nat→Prop} {w:World} {ck:CK} {ents:Array MapEntry} {es:List (Value×D)} {b clock:Nat} (hb:S b) (hh:w.heap[b]? =some (.map ents clock)) (hst:MapKept.Stamped ents clock) (h:MapIn S w ck ents es):RelD S w (.mz ck es) (.map (some b)):=by
 refine .mz ck es b ents clock (fun j=> match ents[j]? with | some e=> (match e.val with | .agg vs=> vs | _=> #[]) | none=> #[]) hb hh hst h.1 (fun j p e hp he=> ⟨(h.2 j p e hp he).1,(h.2 j p e hp he).2.2⟩) (fun j p e hp he hn=> (h.2 j p e hp he).2.1.to hn) (fun j p e cs hp he hc=> ?_) (fun j p cs i x y hp hc hx hy=> ?_)
 ·have:=(h.2 j p e hp he).2.1
  rw [hc] at this
  obtain ⟨vs,h1,h2,_⟩:=this
  simp only [he,h1,h2,and_self]
 ·have hlt:j < ents.size:=by rw [h.1];exact (List.getElem?_eq_some_iff.1 hp).1
  have he:ents[j]? =some (ents[j]'hlt):=Array.getElem?_eq_getElem hlt
  have:=(h.2 j p _ hp he).2.1
  rw [hc] at this
  obtain ⟨vs,h1,h2,h3⟩:=this
  simp only [he,h1] at hy
  exact h3 i x y hx hy
theorem RelD.map_inv {S:Nat→Prop} {w:World} {ck:CK} {es:List (Value×D)} {v:Value} (h:RelD S w (.mz ck es) v):∃b ents clock,v= .map (some b)∧S b∧w.heap[b]? =some (.map ents clock)∧MapIn S w ck ents es∧MapKept.Stamped ents clock:=by
 cases h with
 | mz _ _ b ents clock vs hb hh hst hl hk h1 h2 h3=>
  refine ⟨b,ents,clock,rfl,hb,hh,⟨hl,fun j p e hp he=> ⟨(hk j p e hp he).1,?_,(hk j p e hp he).2⟩⟩,hst⟩
  by_cases hc:∃cs,p.2= .ag cs
  ·obtain ⟨cs,hc⟩:=hc
   obtain ⟨q1,q2⟩:=h2 j p e cs hp he hc
   rw [hc]
   exact ⟨vs j,q1,q2,fun i x y hx hy=> h3 j p cs i x y hp hc hx hy⟩
  ·exact .of (h1 j p e hp he fun cs e=> hc ⟨cs,e⟩)
def InstOk (κ:Cx) (l:Loc):Inst→Prop
 | .box cs=> ∃b T vs,l.blk=some b∧κ.w.heap[b]? =some (.cells vs T (0,0))∧vs.size=cs.length∧∀(j:Nat) (c:AV) (v:Value),cs[j]? =some c→vs[j]? =some v→Rel κ c v∧v.oneCell'=true
 | .rows sz es _=> es.length=l.len∧(∀e∈es,e.length=sz)∧((l.blk=none∧es= [])∨∃b T cur,l.blk=some b∧l.sz=sz∧κ.w.heap[b]? =some (.cells cur T (0,0))∧l.len≤l.cap∧l.cap≤maxLen∧cur.size=l.cap * sz∧RowAt κ cur sz es)
 | .mapi ck es=> ∃b ents clock,l.blk=some b∧κ.w.heap[b]? =some (.map ents clock)∧MapAt κ ck ents es∧MapKept.Stamped ents clock
def Inst.rw_:Inst→Bool
 | .mapi _ _=> true
 | .box _=> true
 | .rows _ _ ro=> !ro
structure BelowX (dr:Prop) (b:Nat→Prop) (w w':World):Prop where
 os:w'.os=w.os
 tape:w'.tape=w.tape
 output:w'.output=w.output
 size:w.heap.size≤w'.heap.size
 block:∀k,k < w.heap.size→¬b k→w'.heap[k]? =w.heap[k]?
 drawn:dr→w.drawn≤w'.drawn
theorem BelowX.refl {dr:Prop} (b:Nat→Prop) (w:World):BelowX dr b w w:=⟨rfl,rfl,rfl,Nat.le_refl _,fun _ _ _=> rfl,fun _=> Nat.le_refl _⟩
theorem BelowX.step {dr:Prop} {b:Nat→Prop} {w w1 w2:World} (h:BelowX dr b w w1) (ho:w2.os=w1.os) (ht:w2.tape=w1.tape) (hp:w2.output=w1.output) (hz:w1.heap.size≤w2.heap.size) (hd:dr→w1.drawn≤w2.drawn) (hk:∀k,k < w.heap.size→¬b k→w2.heap[k]? =w1.heap[k]?):BelowX dr b w w2:=
 ⟨ho.trans h.os,ht.trans h.tape,hp.trans h.output,Nat.le_trans h.size hz,fun k h1 h2=> (hk k h1 h2).trans (h.block k h1 h2),fun d=> Nat.le_trans (h.drawn d) (hd d)⟩
theorem BelowX.grow {dr:Prop} {b:Nat→Prop} {w w1 w2:World} (h:BelowX dr b w w1) (k:BelowD dr w1.heap.size w1 w2):BelowX dr b w w2:=h.step k.os k.tape k.output k.size k.drawn fun i h1 _=> k.block i (Nat.lt_of_lt_of_le h1 h.size)
theorem BelowX.toD {dr:Prop} {w w1:World} (h:BelowX dr (fun _=> False) w w1):BelowD dr w.heap.size w w1:=⟨⟨h.os,h.tape,h.output,h.size,fun k hk=> h.block k hk id⟩,h.drawn⟩
structure Start where
 w:World
 o:Nat→Prop
 dr:Prop
 inv:Inv w
 fr:∀b,o b→¬Tab b
 n:Nat
 loc:Nat→Loc
def Start.New (s:Start) (b:Nat):Prop:=s.w.heap.size≤b∨s.o b
structure Sim (w0:Start) (A:Nat→Prop) (m:Mem) (κ:Cx):Prop where
 below:BelowX w0.dr w0.o w0.w κ.w
 gn:κ.gn=m.gen
 ok:∀s g i,m.at_ s g=some i→InstOk κ (κ.φ s g) i
 gens:∀s g i,m.at_ s g=some i→g≤m.gen s
 own:∀s g i b,m.at_ s g=some i→(κ.φ s g).blk=some b→w0.New b∧b < κ.w.heap.size
 notS:∀s g i b,m.at_ s g=some i→(κ.φ s g).blk=some b→i.rw_=true→¬κ.S b
 isS:∀s g i b,m.at_ s g=some i→(κ.φ s g).blk=some b→i.rw_=false→κ.S b
 sep:∀s g i s' g' i' b,m.at_ s g=some i→m.at_ s' g'=some i'→(κ.φ s g).blk=some b→(κ.φ s' g').blk=some b→i.rw_=true→s=s'∧g=g'
 st:∀b,κ.S b→b < κ.w.heap.size∧(A b∨w0.New b)
 args:∀b,A b→κ.S b
 pin:∀i,i < w0.n→κ.φ (1000001 + i) 1=w0.loc i∧1≤κ.gn (1000001 + i)
theorem Sim.inv {w0:Start} {A:Nat→Prop} {m:Mem} {κ:Cx} (h:Sim w0 A m κ):Inv κ.w:=w0.inv.keep fun b hb=> h.below.block b (w0.inv.lt hb) fun e=> w0.fr b e hb
theorem Sim.noTab {w0:Start} {A:Nat→Prop} {m:Mem} {κ:Cx} (h:Sim w0 A m κ) {s g:Nat} {i:Inst} {b:Nat} (hi:m.at_ s g=some i) (hb:(κ.φ s g).blk=some b):¬Tab b:=fun hT=> by
 rcases (h.own s g i b hi hb).1 with h1 | h1
 ·exact absurd (w0.inv.lt hT) (by omega)
 ·exact w0.fr b h1 hT
def EnvOk (κ:Cx) (env:Nat→Option AV) (tmps:Array Value):Prop:=∀t v,env t=some v→∃x,tmps[t]? =some x∧Rel κ v x
theorem EnvOk.mono {κ κ':Cx} (h:κ.Le κ') {env:Nat→Option AV} {tmps:Array Value} (he:EnvOk κ env tmps):EnvOk κ' env tmps:=fun t v hv=>
 let ⟨x,hx,hr⟩:=he t v hv
 ⟨x,hx,hr.mono h⟩
theorem InstOk.mono {κ κ':Cx} (h:κ.Le κ') {l:Loc} {i:Inst} (hi:InstOk κ l i) (hw:∀b,l.blk=some b→κ'.w.heap[b]? =κ.w.heap[b]?):InstOk κ' l i:=by
 cases i with
 | box cs=>
  obtain ⟨b,T,vs,hb,hh,hs,hr⟩:=hi
  exact ⟨b,T,vs,hb,by rw [hw b hb];exact hh,hs,fun j c v hc hv=> ⟨(hr j c v hc hv).1.mono h,(hr j c v hc hv).2⟩⟩
 | rows sz es ro=>
  obtain ⟨h1,h2,h3⟩:=hi
  refine ⟨h1,h2,h3.imp id ?_⟩
  rintro ⟨b,T,cur,hb,hz,hh,hl,hm,hc,hr⟩
  exact ⟨b,T,cur,hb,hz,by rw [hw b hb];exact hh,hl,hm,hc,fun i j e x he hx=> let ⟨v,hv,hd⟩:=hr i j e x he hx;⟨v,hv,h.relD hd⟩⟩
 | mapi ck es=>
  obtain ⟨b,ents,clock,hb,hh,hm⟩:=hi
  exact ⟨b,ents,clock,hb,by rw [hw b hb];exact hh,⟨hm.1.1,fun j p e hp he=> ⟨(hm.1.2 j p e hp he).1,(hm.1.2 j p e hp he).2.1.mono h.S h.w,(hm.1.2 j p e hp he).2.2⟩⟩,hm.2⟩
theorem beq_dec (x y:Nat):Nat.beq x y=decide (x=y):=by
 by_cases h:x=y
 ·subst h;simp
 ·simp only [h,decide_false];exact Bool.eq_false_iff.2 fun e=> h (Nat.eq_of_beq_eq_true e)
theorem setAt {m:Mem} {s g x y:Nat} {i:Option Inst}:(m.set s g i).at_ x y=if x=s∧y=g then i else m.at_ x y:=by
 unfold Mem.set
 by_cases h1:x=s <;> by_cases h2:y=g <;> simp [beq_dec,h1,h2]
theorem addAt {m:Mem} {s x y:Nat} {i:Inst}:(m.add s i).at_ x y=if x=s∧y=m.gen s + 1 then some i else m.at_ x y:=by
 unfold Mem.add
 by_cases h1:x=s <;> by_cases h2:y=m.gen s + 1 <;> simp [beq_dec,h1,h2]
theorem addGen {m:Mem} {s x:Nat} {i:Inst}:(m.add s i).gen x=if x=s then m.gen s + 1 else m.gen x:=by
 unfold Mem.add updT
 by_cases h1:x=s <;> simp [beq_dec,h1]
theorem Sim.grow {w0:Start} {A:Nat→Prop} {m:Mem} {κ:Cx} (h:Sim w0 A m κ) {w':World} (hb:BelowD w0.dr κ.w.heap.size κ.w w') {S':Nat→Prop} (h1:∀b,κ.S b→S' b) (h2:∀b,S' b→κ.S b∨(κ.w.heap.size≤b∧b < w'.heap.size)):
  Sim w0 A m {κ with w:=w',S:=S'}∧κ.Le {κ with w:=w',S:=S'}:=by
 have hw:∀b,b < κ.w.heap.size→w'.heap[b]? =κ.w.heap[b]? :=hb.block
 have hz:=h.below.size
 have hle:κ.Le {κ with w:=w',S:=S'}:=⟨fun _=> Nat.le_refl _,fun _ _ _=> rfl,h1,fun b hS=> hw b (h.st b hS).1⟩
 refine ⟨⟨h.below.grow hb,h.gn,?_,h.gens,?_,?_,?_,h.sep,?_,fun b hA=> h1 b (h.args b hA),h.pin⟩,hle⟩
 ·intro s g i hi
  exact (h.ok s g i hi).mono hle fun b hbk=> hw b (h.own s g i b hi hbk).2
 ·intro s g i b hi hbk
  have:=h.own s g i b hi hbk
  exact ⟨this.1,Nat.lt_of_lt_of_le this.2 hb.size⟩
 ·intro s g i b hi hbk hrw hS
  rcases h2 b hS with hS | hS
  ·exact h.notS s g i b hi hbk hrw hS
  ·have:=(h.own s g i b hi hbk).2
   omega
 ·intro s g i b hi hbk hrw
  exact h1 b (h.isS s g i b hi hbk hrw)
 ·intro b hS
  rcases h2 b hS with hS | hS
  ·have:=h.st b hS
   exact ⟨Nat.lt_of_lt_of_le this.1 hb.size,this.2⟩
  ·exact ⟨hS.2,Or.inr (Or.inl (by omega))⟩
def Cx.put (κ:Cx) (s:Nat) (l:Loc) (w':World):Cx:={φ:=fun x y=> if x=s∧y=κ.gn s + 1 then l else κ.φ x y,gn:=fun x=> if x=s then κ.gn s + 1 else κ.gn x,S:=κ.S,w:=w'}
theorem Cx.put_le (κ:Cx) (s:Nat) (l:Loc) (w':World) (hw:∀b,κ.S b→w'.heap[b]? =κ.w.heap[b]?):κ.Le (κ.put s l w'):=by
 refine ⟨fun x=> ?_,fun x y hy=> ?_,fun _ h=> h,hw⟩
 ·show κ.gn x≤if x=s then κ.gn s + 1 else κ.gn x
  split
  ·rename_i h;subst h;omega
  ·omega
 ·show (if x=s∧y=κ.gn s + 1 then l else κ.φ x y)=_
  rw [if_neg]
  rintro ⟨rfl,rfl⟩
  omega
theorem Cx.put_new (κ:Cx) (s:Nat) (l:Loc) (w':World):(κ.put s l w').φ s (κ.gn s + 1)=l:=by simp [Cx.put]
theorem Cx.put_gn (κ:Cx) (s:Nat) (l:Loc) (w':World):(κ.put s l w').gn s=κ.gn s + 1:=by simp [Cx.put]
theorem Sim.add {w0:Start} {A:Nat→Prop} {m:Mem} {κ:Cx} (h:Sim w0 A m κ) {w':World} (hb:BelowD w0.dr κ.w.heap.size κ.w w') (s:Nat) (i:Inst) (l:Loc)
  (hl:∀b,l.blk=some b→w0.New b∧b < w'.heap.size∧¬κ.S b∧∀s g i,m.at_ s g=some i→(κ.φ s g).blk≠some b) (hrw:i.rw_=true) (hi:κ.Le (κ.put s l w')→InstOk (κ.put s l w') l i):
  Sim w0 A (m.add s i) (κ.put s l w')∧κ.Le (κ.put s l w'):=by
 have hw:∀b,b < κ.w.heap.size→w'.heap[b]? =κ.w.heap[b]? :=hb.block
 have hle:=κ.put_le s l w' fun b hS=> hw b (h.st b hS).1
 have hz:=h.below.size
 have hgn:=h.gn
 have hφ:∀x y i',m.at_ x y=some i'→(κ.put s l w').φ x y=κ.φ x y:=fun x y i' hx=> hle.φ x y (by rw [hgn];exact h.gens x y i' hx)
 have cases_:∀x y i',(m.add s i).at_ x y=some i'→(x=s∧y=κ.gn s + 1∧i'=i)∨m.at_ x y=some i':=by
  intro x y i' hx
  rw [addAt] at hx
  split at hx
  ·rename_i hxy
   exact Or.inl ⟨hxy.1,by rw [hgn];exact hxy.2,(Option.some.inj hx).symm⟩
  ·exact Or.inr hx
 refine ⟨⟨h.below.grow hb,?_,?_,?_,?_,?_,?_,?_,?_,h.args,fun i hi=> ⟨(hle.φ _ _ (h.pin i hi).2).trans (h.pin i hi).1,Nat.le_trans (h.pin i hi).2 (hle.gn _)⟩⟩,hle⟩
 ·funext x
  show (if x=s then κ.gn s + 1 else κ.gn x)=_
  rw [addGen,hgn]
 ·intro x y i' hx
  rcases cases_ x y i' hx with ⟨rfl,rfl,rfl⟩ | hx
  ·rw [Cx.put_new]
   exact hi hle
  ·rw [hφ x y i' hx]
   exact (h.ok x y i' hx).mono hle fun b hbk=> hw b (h.own x y i' b hx hbk).2
 ·intro x y i' hx
  rw [addGen]
  rcases cases_ x y i' hx with ⟨rfl,rfl,rfl⟩ | hx
  ·rw [if_pos rfl,hgn]
   exact Nat.le_refl _
  ·have:=h.gens x y i' hx
   split
   ·rename_i he
    rw [he] at this
    omega
   ·exact this
 ·intro x y i' b hx hbk
  rcases cases_ x y i' hx with ⟨rfl,rfl,rfl⟩ | hx
  ·rw [Cx.put_new] at hbk
   have:=hl b hbk
   exact ⟨this.1,this.2.1⟩
  ·rw [hφ x y i' hx] at hbk
   have:=h.own x y i' b hx hbk
   exact ⟨this.1,Nat.lt_of_lt_of_le this.2 hb.size⟩
 ·intro x y i' b hx hbk hr hS
  rcases cases_ x y i' hx with ⟨rfl,rfl,rfl⟩ | hx
  ·rw [Cx.put_new] at hbk
   exact (hl b hbk).2.2.1 hS
  ·rw [hφ x y i' hx] at hbk
   exact h.notS x y i' b hx hbk hr hS
 ·intro x y i' b hx hbk hr
  rcases cases_ x y i' hx with ⟨rfl,rfl,rfl⟩ | hx
  ·rw [hrw] at hr
   cases hr
  ·rw [hφ x y i' hx] at hbk
   exact h.isS x y i' b hx hbk hr
 ·intro x y i1 x' y' i2 b hx hx' hb1 hb2 hr
  have c1:=cases_ x y i1 hx
  have c2:=cases_ x' y' i2 hx'
  clear hx hx'
  rcases c1 with ⟨rfl,rfl,rfl⟩ | hx <;> rcases c2 with ⟨rfl,rfl,rfl⟩ | hx'
  ·exact ⟨rfl,rfl⟩
  ·rw [Cx.put_new] at hb1
   rw [hφ x' y' i2 hx'] at hb2
   exact absurd hb2 ((hl b hb1).2.2.2 x' y' i2 hx')
  ·rw [Cx.put_new] at hb2
   rw [hφ x y i1 hx] at hb1
   exact absurd hb1 ((hl b hb2).2.2.2 x y i1 hx)
  ·rw [hφ x y i1 hx] at hb1
   rw [hφ x' y' i2 hx'] at hb2
   exact h.sep x y i1 x' y' i2 b hx hx' hb1 hb2 hr
 ·intro b hS
  have:=h.st b hS
  exact ⟨Nat.lt_of_lt_of_le this.1 hb.size,this.2⟩
theorem Sim.fresh {w0:Start} {A:Nat→Prop} {m:Mem} {κ:Cx} (h:Sim w0 A m κ) {w':World} {b:Nat} (h1:κ.w.heap.size≤b) (h2:b < w'.heap.size):
  w0.New b∧b < w'.heap.size∧¬κ.S b∧∀s g i,m.at_ s g=some i→(κ.φ s g).blk≠some b:=
 ⟨Or.inl (Nat.le_trans h.below.size h1),h2,fun hS=> by have:=(h.st b hS).1;omega,fun s g i hi e=> by have:=(h.own s g i b hi e).2;omega⟩
theorem Sim.set {w0:Start} {A:Nat→Prop} {m:Mem} {κ:Cx} (h:Sim w0 A m κ) {w':World} {s g:Nat} {i i':Inst} (hi:m.at_ s g=some i) (hrw:i.rw_=true) (hrw':i'.rw_=true)
  (hdr:κ.w.drawn≤w'.drawn) (ho:w'.os=κ.w.os) (ht:w'.tape=κ.w.tape) (hp:w'.output=κ.w.output) (hsz:w'.heap.size=κ.w.heap.size) (hw:∀b,(κ.φ s g).blk≠some b→w'.heap[b]? =κ.w.heap[b]?)
  (hok:κ.Le {κ with w:=w'}→InstOk {κ with w:=w'} (κ.φ s g) i'):
  Sim w0 A (m.set s g (some i')) {κ with w:=w'}∧κ.Le {κ with w:=w'}:=by
 have hSw:∀b,κ.S b→w'.heap[b]? =κ.w.heap[b]? :=fun b hS=> hw b fun e=> h.notS s g i b hi e hrw hS
 have hle:κ.Le {κ with w:=w'}:=⟨fun _=> Nat.le_refl _,fun _ _ _=> rfl,fun _ h=> h,hSw⟩
 have hbel:BelowX w0.dr w0.o w0.w w':=h.below.step ho ht hp (by omega) (fun _=> hdr) fun k hk hne=> hw k fun e=> by
  rcases (h.own s g i k hi e).1 with h1 | h1
  ·omega
  ·exact hne h1
 have cases_:∀x y j,(m.set s g (some i')).at_ x y=some j→(x=s∧y=g∧j=i')∨(¬(x=s∧y=g)∧m.at_ x y=some j):=by
  intro x y j hx
  rw [setAt] at hx
  split at hx
  ·rename_i hxy
   exact Or.inl ⟨hxy.1,hxy.2,(Option.some.inj hx).symm⟩
  ·rename_i hxy
   exact Or.inr ⟨hxy,hx⟩
 refine ⟨⟨hbel,h.gn,?_,?_,?_,?_,?_,?_,?_,h.args,h.pin⟩,hle⟩
 ·intro x y j hx
  rcases cases_ x y j hx with ⟨rfl,rfl,rfl⟩ | ⟨hne,hx⟩
  ·exact hok hle
  ·exact (h.ok x y j hx).mono hle fun b hbk=> hw b fun e=> hne (by have:=h.sep s g i x y j b hi hx e hbk hrw;exact ⟨this.1.symm,this.2.symm⟩)
 ·intro x y j hx
  rcases cases_ x y j hx with ⟨rfl,rfl,rfl⟩ | ⟨hne,hx⟩
  ·exact h.gens x y i hi
  ·exact h.gens x y j hx
 ·intro x y j b hx hbk
  show _∧b < w'.heap.size
  rw [hsz]
  rcases cases_ x y j hx with ⟨rfl,rfl,rfl⟩ | ⟨hne,hx⟩
  ·exact h.own x y i b hi hbk
  ·exact h.own x y j b hx hbk
 ·intro x y j b hx hbk hr
  rcases cases_ x y j hx with ⟨rfl,rfl,rfl⟩ | ⟨hne,hx⟩
  ·exact h.notS x y i b hi hbk hrw
  ·exact h.notS x y j b hx hbk hr
 ·intro x y j b hx hbk hr
  rcases cases_ x y j hx with ⟨rfl,rfl,rfl⟩ | ⟨hne,hx⟩
  ·rw [hrw'] at hr
   cases hr
  ·exact h.isS x y j b hx hbk hr
 ·intro x y i1 x' y' i2 b hx hx' hb1 hb2 hr
  have c1:=cases_ x y i1 hx
  have c2:=cases_ x' y' i2 hx'
  clear hx hx'
  rcases c1 with ⟨rfl,rfl,rfl⟩ | ⟨hne,hx⟩ <;> rcases c2 with ⟨rfl,rfl,rfl⟩ | ⟨hne',hx'⟩
  ·exact ⟨rfl,rfl⟩
  ·exact h.sep x y i x' y' i2 b hi hx' hb1 hb2 hrw
  ·exact h.sep x y i1 x' y' i b hx hi hb1 hb2 hr
  ·exact h.sep x y i1 x' y' i2 b hx hx' hb1 hb2 hr
 ·intro b hS
  show b < w'.heap.size∧_
  rw [hsz]
  exact h.st b hS
theorem Sim.frz {w0:Start} {A:Nat→Prop} {m:Mem} {κ:Cx} (h:Sim w0 A m κ) {s g sz:Nat} {es:List (List D)} {ro:Bool} (hi:m.at_ s g=some (.rows sz es ro)):
  Sim w0 A (m.set s g (some (.rows sz es true))) {κ with S:=fun b=> κ.S b∨(κ.φ s g).blk=some b}∧κ.Le {κ with S:=fun b=> κ.S b∨(κ.φ s g).blk=some b}:=by
 have hle:κ.Le {κ with S:=fun b=> κ.S b∨(κ.φ s g).blk=some b}:=⟨fun _=> Nat.le_refl _,fun _ _ _=> rfl,fun _ h=> Or.inl h,fun _ _=> rfl⟩
 have cases_:∀x y j,(m.set s g (some (.rows sz es true))).at_ x y=some j→(x=s∧y=g∧j= .rows sz es true)∨(¬(x=s∧y=g)∧m.at_ x y=some j):=by
  intro x y j hx
  rw [setAt] at hx
  split at hx
  ·rename_i hxy
   exact Or.inl ⟨hxy.1,hxy.2,(Option.some.inj hx).symm⟩
  ·rename_i hxy
   exact Or.inr ⟨hxy,hx⟩
 refine ⟨⟨h.below,h.gn,?_,?_,?_,?_,?_,?_,?_,fun b hA=> Or.inl (h.args b hA),h.pin⟩,hle⟩
 ·intro x y j hx
  rcases cases_ x y j hx with ⟨rfl,rfl,rfl⟩ | ⟨hne,hx⟩
  ·exact (h.ok x y _ hi).mono hle fun _ _=> rfl
  ·exact (h.ok x y j hx).mono hle fun _ _=> rfl
 ·intro x y j hx
  rcases cases_ x y j hx with ⟨rfl,rfl,rfl⟩ | ⟨hne,hx⟩
  ·exact h.gens x y _ hi
  ·exact h.gens x y j hx
 ·intro x y j b hx hbk
  rcases cases_ x y j hx with ⟨rfl,rfl,rfl⟩ | ⟨hne,hx⟩
  ·exact h.own x y _ b hi hbk
  ·exact h.own x y j b hx hbk
 ·intro x y j b hx hbk hr hS
  rcases cases_ x y j hx with ⟨rfl,rfl,rfl⟩ | ⟨hne,hx⟩
  ·cases hr
  ·rcases hS with hS | hS
   ·exact h.notS x y j b hx hbk hr hS
   ·exact hne (h.sep x y j s g _ b hx hi hbk hS hr)
 ·intro x y j b hx hbk hr
  rcases cases_ x y j hx with ⟨rfl,rfl,rfl⟩ | ⟨hne,hx⟩
  ·exact Or.inr hbk
  ·exact Or.inl (h.isS x y j b hx hbk hr)
 ·intro x y i1 x' y' i2 b hx hx' hb1 hb2 hr
  have c1:=cases_ x y i1 hx
  have c2:=cases_ x' y' i2 hx'
  clear hx hx'
  rcases c1 with ⟨rfl,rfl,rfl⟩ | ⟨hne,hx⟩ <;> rcases c2 with ⟨rfl,rfl,rfl⟩ | ⟨hne',hx'⟩
  ·exact ⟨rfl,rfl⟩
  ·cases hr
  ·exact h.sep x y i1 x' y' _ b hx hi hb1 hb2 hr
  ·exact h.sep x y i1 x' y' i2 b hx hx' hb1 hb2 hr
 ·intro b hS
  rcases hS with hS | hS
  ·exact h.st b hS
  ·have:=h.own s g _ b hi hS
   exact ⟨this.2,Or.inr this.1⟩
theorem Sim.drop {w0:Start} {A:Nat→Prop} {m:Mem} {κ:Cx} (h:Sim w0 A m κ) (s g:Nat):Sim w0 A (m.set s g none) κ:=by
 have cases_:∀x y j,(m.set s g none).at_ x y=some j→¬(x=s∧y=g)∧m.at_ x y=some j:=by
  intro x y j hx
  rw [setAt] at hx
  split at hx
  ·cases hx
  ·rename_i hxy
   exact ⟨hxy,hx⟩
 exact ⟨h.below,h.gn,fun x y j hx=> h.ok x y j (cases_ x y j hx).2,fun x y j hx=> h.gens x y j (cases_ x y j hx).2,fun x y j b hx=> h.own x y j b (cases_ x y j hx).2,fun x y j b hx=> h.notS x y j b (cases_ x y j hx).2,
  fun x y j b hx=> h.isS x y j b (cases_ x y j hx).2,fun x y i1 x' y' i2 b hx hx'=> h.sep x y i1 x' y' i2 b (cases_ x y i1 hx).2 (cases_ x' y' i2 hx').2,h.st,h.args,h.pin⟩
theorem Sim.growX {w0:Start} {A:Nat→Prop} {m:Mem} {κ:Cx} (h:Sim w0 A m κ) {w':World} {b:Nat→Prop} (hb:BelowX w0.dr b κ.w w') (hf:∀c,b c→w0.New c∧¬κ.S c∧∀s g i,m.at_ s g=some i→(κ.φ s g).blk≠some c) {S':Nat→Prop} (h1:∀c,κ.S c→S' c) (h2:∀c,S' c→κ.S c∨(κ.w.heap.size≤c∧c < w'.heap.size)):
  Sim w0 A m {κ with w:=w',S:=S'}∧κ.Le {κ with w:=w',S:=S'}:=by
 have hz:=h.below.size
 have hle:κ.Le {κ with w:=w',S:=S'}:=⟨fun _=> Nat.le_refl _,fun _ _ _=> rfl,h1,fun c hS=> hb.block c (h.st c hS).1 fun e=> (hf c e).2.1 hS⟩
 have hbel:BelowX w0.dr w0.o w0.w w':=h.below.step hb.os hb.tape hb.output hb.size hb.drawn fun k hk hne=> hb.block k (by omega) fun e=> by
  rcases (hf k e).1 with h1 | h1
  ·omega
  ·exact hne h1
 refine ⟨⟨hbel,h.gn,?_,h.gens,?_,?_,?_,h.sep,?_,fun b hA=> h1 b (h.args b hA),h.pin⟩,hle⟩
 ·intro s g i hi
  exact (h.ok s g i hi).mono hle fun c hc=> hb.block c (h.own s g i c hi hc).2 fun e=> (hf c e).2.2 s g i hi hc
 ·intro s g i b hi hbk
  have:=h.own s g i b hi hbk
  exact ⟨this.1,Nat.lt_of_lt_of_le this.2 hb.size⟩
 ·intro s g i b hi hbk hrw hS
  rcases h2 b hS with hS | hS
  ·exact h.notS s g i b hi hbk hrw hS
  ·have:=(h.own s g i b hi hbk).2
   omega
 ·intro s g i b hi hbk hrw
  exact h1 b (h.isS s g i b hi hbk hrw)
 ·intro b hS
  rcases h2 b hS with hS | hS
  ·have:=h.st b hS
   exact ⟨Nat.lt_of_lt_of_le this.1 hb.size,this.2⟩
  ·exact ⟨hS.2,Or.inr (Or.inl (by omega))⟩
theorem Sim.back {w0:Start} {A:Nat→Prop} {m:Mem} {κ:Cx} {s g:Nat} (h:Sim w0 A (m.set s g none) κ) {i':Inst} (hg:g≤m.gen s) (hrw:i'.rw_=true) (hok:InstOk κ (κ.φ s g) i')
  (hf:∀c,(κ.φ s g).blk=some c→w0.New c∧c < κ.w.heap.size∧¬κ.S c∧∀x y i,(m.set s g none).at_ x y=some i→(κ.φ x y).blk≠some c):Sim w0 A (m.set s g (some i')) κ:=by
 have cases_:∀x y j,(m.set s g (some i')).at_ x y=some j→(x=s∧y=g∧j=i')∨(¬(x=s∧y=g)∧(m.set s g none).at_ x y=some j):=by
  intro x y j hx
  rw [setAt] at hx ⊢
  split at hx
  ·rename_i hxy
   exact Or.inl ⟨hxy.1,hxy.2,(Option.some.inj hx).symm⟩
  ·rename_i hxy
   exact Or.inr ⟨hxy,by rw [if_neg hxy];exact hx⟩
 refine ⟨h.below,h.gn,?_,?_,?_,?_,?_,?_,h.st,h.args,h.pin⟩
 ·intro x y j hx
  rcases cases_ x y j hx with ⟨rfl,rfl,rfl⟩ | ⟨hne,hx⟩
  ·exact hok
  ·exact h.ok x y j hx
 ·intro x y j hx
  rcases cases_ x y j hx with ⟨rfl,rfl,rfl⟩ | ⟨hne,hx⟩
  ·exact hg
  ·exact h.gens x y j hx
 ·intro x y j b hx hbk
  rcases cases_ x y j hx with ⟨rfl,rfl,rfl⟩ | ⟨hne,hx⟩
  ·exact ⟨(hf b hbk).1,(hf b hbk).2.1⟩
  ·exact h.own x y j b hx hbk
 ·intro x y j b hx hbk hr
  rcases cases_ x y j hx with ⟨rfl,rfl,rfl⟩ | ⟨hne,hx⟩
  ·exact (hf b hbk).2.2.1
  ·exact h.notS x y j b hx hbk hr
 ·intro x y j b hx hbk hr
  rcases cases_ x y j hx with ⟨rfl,rfl,rfl⟩ | ⟨hne,hx⟩
  ·rw [hrw] at hr
   cases hr
  ·exact h.isS x y j b hx hbk hr
 ·intro x y i1 x' y' i2 b hx hx' hb1 hb2 hr
  have c1:=cases_ x y i1 hx
  have c2:=cases_ x' y' i2 hx'
  clear hx hx'
  rcases c1 with ⟨rfl,rfl,rfl⟩ | ⟨hne,hx⟩ <;> rcases c2 with ⟨rfl,rfl,rfl⟩ | ⟨hne',hx'⟩
  ·exact ⟨rfl,rfl⟩
  ·exact absurd hb2 ((hf b hb1).2.2.2 x' y' i2 hx')
  ·exact absurd hb1 ((hf b hb2).2.2.2 x y i1 hx)
  ·exact h.sep x y i1 x' y' i2 b hx hx' hb1 hb2 hr
open Go.RowKit
inductive Step.Runs (F:FuncId→List AV→AV→Prop):Step→Mem→AV→Mem→Prop
 | ret {v:AV} {m:Mem}:Runs F (.ret v) m v m
 | rdb {s g:Nat} {k:List AV→Step} {m m':Mem} {v:AV} {cs:List AV} (h:m.at_ s g=some (.box cs)) (r:Runs F (k cs) m v m'):Runs F (.rdb s g k) m v m'
 | rdr {s g:Nat} {k:List (List D)→Step} {m m':Mem} {v:AV} {sz:Nat} {es:List (List D)} {ro:Bool} (h:m.at_ s g=some (.rows sz es ro)) (r:Runs F (k es) m v m'):Runs F (.rdr s g k) m v m'
 | rdm {s g:Nat} {k:CK→List (Value×D)→Step} {m m':Mem} {v:AV} {ck:CK} {es:List (Value×D)} (h:m.at_ s g=some (.mapi ck es)) (r:Runs F (k ck es) m v m'):Runs F (.rdm s g k) m v m'
 | rww {s g:Nat} {k:Nat→List (List D)→Step} {m m':Mem} {v:AV} {sz:Nat} {es:List (List D)} (h:m.at_ s g=some (.rows sz es false)) (r:Runs F (k sz es) m v m'):Runs F (.rww s g k) m v m'
 | rdz {s g z:Nat} {k:Step} {m m':Mem} {v:AV} {es:List (List D)} {ro:Bool} (h:m.at_ s g=some (.rows z es ro)) (r:Runs F k m v m'):Runs F (.rdz s g z k) m v m'
 | wr {s g:Nat} {i:Inst} {k:Step} {m m':Mem} {v:AV} (r:Runs F k (m.set s g (some i)) v m'):Runs F (.wr s g i k) m v m'
 | new {s:Nat} {i:Inst} {k:Nat→Step} {m m':Mem} {v:AV} (r:Runs F (k (m.gen s + 1)) (m.add s i) v m'):Runs F (.new s i k) m v m'
 | app {s g sz:Nat} {xs:List (List D)} {k:Nat→Step} {m m':Mem} {v:AV} {es:List (List D)} (h:m.at_ s g=some (.rows sz es false)) (r:Runs F (k (m.gen s + 1)) ((m.set s g none).add s (.rows sz (es ++ xs) false)) v m'):Runs F (.app s g sz xs k) m v m'
 | frz {s g sz:Nat} {es:List (List D)} {ro:Bool} {k:Step} {m m':Mem} {v:AV} (h:m.at_ s g=some (.rows sz es ro)) (r:Runs F k (m.set s g (some (.rows sz es true))) v m'):Runs F (.frz s g k) m v m'
 | elem {es:List (List D)} {i:Nat} {k:List D→Step} {m m':Mem} {v:AV} {c:List D} (h:es[i]? =some c) (r:Runs F (k c) m v m'):Runs F (.elem es i k) m v m'
 | call {f:FuncId} {args:List AV} {k:AV→Step} {m m':Mem} {v x:AV} (h:F f args x) (r:Runs F (k x) m v m'):Runs F (.call f args k) m v m'
 | chk {p:Prop} {k:Step} {m m':Mem} {v:AV} (h:p) (r:Runs F k m v m'):Runs F (.chk p k) m v m'
 | br {b:Bool} {x y:Step} {m m':Mem} {v:AV} (r:Runs F (bif b then x else y) m v m'):Runs F (.br b x y) m v m'
theorem Step.wp_runs {F:FuncId→List AV→AV→Prop} (s:Step):∀(m:Mem) (K:AV→Mem→Prop),s.wp F m K→∃v m',s.Runs F m v m'∧K v m':=by
 induction s with
 | ret v=> exact fun m K h=> ⟨v,m,.ret,h⟩
 | rdb s g k ih=>
  intro m K h
  simp only [Step.wp] at h
  split at h
  ·rename_i cs hc
   obtain ⟨v,m',hr,hk⟩:=ih _ _ _ h
   exact ⟨v,m',.rdb hc hr,hk⟩
  ·exact h.elim
 | rdr s g k ih=>
  intro m K h
  simp only [Step.wp] at h
  split at h
  ·rename_i sz es ro hc
   obtain ⟨v,m',hr,hk⟩:=ih _ _ _ h
   exact ⟨v,m',.rdr hc hr,hk⟩
  ·exact h.elim
 | rdm s g k ih=>
  intro m K h
  simp only [Step.wp] at h
  split at h
  ·rename_i ck es hc
   obtain ⟨v,m',hr,hk⟩:=ih _ _ _ _ h
   exact ⟨v,m',.rdm hc hr,hk⟩
  ·exact h.elim
 | rww s g k ih=>
  intro m K h
  simp only [Step.wp] at h
  split at h
  ·rename_i sz es hc
   obtain ⟨v,m',hr,hk⟩:=ih _ _ _ _ h
   exact ⟨v,m',.rww hc hr,hk⟩
  ·exact h.elim
 | rdz s g z k ih=>
  intro m K h
  simp only [Step.wp] at h
  split at h
  ·rename_i sz es ro hc
   by_cases he:sz=z
   ·subst he
    simp only [Nat.beq_refl,cond_true] at h
    obtain ⟨v,m',hr,hk⟩:=ih _ _ h
    exact ⟨v,m',.rdz hc hr,hk⟩
   ·rw [beq_dec] at h
    simp only [he,decide_false,cond_false] at h
  ·exact h.elim
 | wr s g i k ih=>
  intro m K h
  obtain ⟨v,m',hr,hk⟩:=ih _ _ h
  exact ⟨v,m',.wr hr,hk⟩
 | new s i k ih=>
  intro m K h
  obtain ⟨v,m',hr,hk⟩:=ih _ _ _ h
  exact ⟨v,m',.new hr,hk⟩
 | app s g sz xs k ih=>
  intro m K h
  simp only [Step.wp] at h
  split at h
  ·rename_i sz' es hc
   by_cases he:sz=sz'
   ·subst he
    simp only [Nat.beq_refl,cond_true] at h
    obtain ⟨v,m',hr,hk⟩:=ih _ _ _ h
    exact ⟨v,m',.app hc hr,hk⟩
   ·rw [beq_dec] at h
    simp only [he,decide_false,cond_false] at h
  ·exact h.elim
 | frz s g k ih=>
  intro m K h
  simp only [Step.wp] at h
  split at h
  ·rename_i sz es ro hc
   obtain ⟨v,m',hr,hk⟩:=ih _ _ h
   exact ⟨v,m',.frz hc hr,hk⟩
  ·exact h.elim
 | elem es i k ih=>
  rintro m K ⟨c,hc,h⟩
  obtain ⟨v,m',hr,hk⟩:=ih _ _ _ h
  exact ⟨v,m',.elem hc hr,hk⟩
 | call f args k ih=>
  rintro m K ⟨r,hf,h⟩
  obtain ⟨v,m',hr,hk⟩:=ih _ _ _ h
  exact ⟨v,m',.call hf hr,hk⟩
 | chk p k ih=>
  rintro m K ⟨hp,h⟩
  obtain ⟨v,m',hr,hk⟩:=ih _ _ h
  exact ⟨v,m',.chk hp hr,hk⟩
 | br b x y ihx ihy=>
  rintro m K ⟨h1,h2⟩
  cases b
  ·obtain ⟨v,m',hr,hk⟩:=ihy _ _ (h2 rfl)
   exact ⟨v,m',.br hr,hk⟩
  ·obtain ⟨v,m',hr,hk⟩:=ihx _ _ (h1 rfl)
   exact ⟨v,m',.br hr,hk⟩
 | fail=> exact fun m K h=> h.elim
def RelL (κ:Cx) (cs:List AV) (vs:List Value):Prop:=vs.length=cs.length∧∀(j:Nat) (c:AV) (v:Value),cs[j]? =some c→vs[j]? =some v→Rel κ c v
theorem RelL.mono {κ κ':Cx} (h:κ.Le κ') {cs:List AV} {vs:List Value} (hr:RelL κ cs vs):RelL κ' cs vs:=⟨hr.1,fun j c v hc hv=> (hr.2 j c v hc hv).mono h⟩
theorem RelL.nil (κ:Cx):RelL κ [] []:=⟨rfl,fun j c v h=> by simp at h⟩
theorem RelL.cons {κ:Cx} {c:AV} {cs:List AV} {v:Value} {vs:List Value} (h:Rel κ c v) (hs:RelL κ cs vs):RelL κ (c::cs) (v::vs):=
 ⟨by simp [hs.1],fun j x y hx hy=> by
  cases j with
  | zero=> simp at hx hy;subst hx hy;exact h
  | succ j=> exact hs.2 j x y (by simpa using hx) (by simpa using hy)⟩
theorem RelL.cons_inv {κ:Cx} {c:AV} {cs:List AV} {vs:List Value} (h:RelL κ (c::cs) vs):∃v vs',vs=v::vs'∧Rel κ c v∧RelL κ cs vs':=by
 cases vs with
 | nil=> have:=h.1;simp at this
 | cons v vs'=> exact ⟨v,vs',rfl,h.2 0 c v rfl rfl,by have:=h.1;simpa using this,fun j x y hx hy=> h.2 (j + 1) x y (by simpa using hx) (by simpa using hy)⟩
theorem RelL.nil_inv {κ:Cx} {vs:List Value} (h:RelL κ [] vs):vs= []:=List.eq_nil_of_length_eq_zero h.1
theorem RelL.get {κ:Cx} {cs:List AV} {vs:List Value} (h:RelL κ cs vs) {j:Nat} {c:AV} (hc:cs[j]? =some c):∃v,vs[j]? =some v∧Rel κ c v:=by
 have hj:j < vs.length:=by rw [h.1];exact (List.getElem?_eq_some_iff.1 hc).1
 exact ⟨vs[j],List.getElem?_eq_getElem hj,h.2 j c _ hc (List.getElem?_eq_getElem hj)⟩
theorem RelL.take {κ:Cx} {cs:List AV} {vs:List Value} (h:RelL κ cs vs) (n:Nat):RelL κ (cs.take n) (vs.take n):=⟨by simp [h.1],fun j c v hc hv=> by
 rw [List.getElem?_take] at hc hv
 split at hc
 ·rename_i hj
  rw [if_pos hj] at hv
  exact h.2 j c v hc hv
 ·cases hc⟩
theorem RelL.drop {κ:Cx} {cs:List AV} {vs:List Value} (h:RelL κ cs vs) (n:Nat):RelL κ (cs.drop n) (vs.drop n):=⟨by simp [h.1],fun j c v hc hv=> by
 rw [List.getElem?_drop] at hc hv
 exact h.2 _ c v hc hv⟩
theorem RelL.append {κ:Cx} {cs cs':List AV} {vs vs':List Value} (h:RelL κ cs vs) (h':RelL κ cs' vs'):RelL κ (cs ++ cs') (vs ++ vs'):=by
 induction cs generalizing vs with
 | nil=> rw [h.nil_inv];exact h'
 | cons c cs ih=>
  obtain ⟨v,vs1,rfl,hv,hs⟩:=h.cons_inv
  exact .cons hv (ih hs)
theorem RelL.over {κ:Cx} {cs cs':List AV} {vs vs':List Value} (h:RelL κ cs vs) (h':RelL κ cs' vs') (o:Nat):RelL κ (over cs o cs') (over vs o vs'):=by
 unfold Go.Proofs.YtiklglcjecopcaaGreatDoor.over
 have e:=h'.1
 rw [e]
 exact ((h.take o).append h').append (h.drop _)
theorem Rel.agg_inv {κ:Cx} {cs:List AV} {v:Value} (h:Rel κ (.agg cs) v):∃vs,v= .agg vs∧RelL κ cs vs.toList:=by
 cases h with
 | agg hl h=> exact ⟨_,rfl,by simpa using hl,fun j c v hc hv=> h j c v hc (by simpa using hv)⟩
theorem Rel.tup_inv {κ:Cx} {cs:List AV} {v:Value} (h:Rel κ (.tup cs) v):∃vs,v= .tuple vs∧RelL κ cs vs.toList:=by
 cases h with
 | tup hl h=> exact ⟨_,rfl,by simpa using hl,fun j c v hc hv=> h j c v hc (by simpa using hv)⟩
theorem Rel.agg_mk {κ:Cx} {cs:List AV} {vs:List Value} (h:RelL κ cs vs):Rel κ (.agg cs) (.agg vs.toArray):= .agg (by simpa using h.1) fun j c v hc hv=> h.2 j c v hc (by simpa using hv)
theorem Rel.tup_mk {κ:Cx} {cs:List AV} {vs:List Value} (h:RelL κ cs vs):Rel κ (.tup cs) (.tuple vs.toArray):= .tup (by simpa using h.1) fun j c v hc hv=> h.2 j c v hc (by simpa using hv)
theorem Rel.cells {κ:Cx} {x:AV} {v:Value} (h:Rel κ x v) (h1:(cellsOf x).all isOne=true):RelL κ (cellsOf x) v.cells.toList∧∀u∈v.cells.toList,u.oneCell'=true:=by
 have key:∀{cs:List AV} {vs:List Value},RelL κ cs vs→cs.all isOne=true→∀u∈vs,u.oneCell'=true:=by
  intro cs vs hr ha u hu
  obtain ⟨j,hj,rfl⟩:=List.getElem_of_mem hu
  have hj':j < cs.length:=by rw [←hr.1];exact hj
  exact (hr.2 j cs[j] vs[j] (List.getElem?_eq_getElem hj') (List.getElem?_eq_getElem hj)).one (List.all_eq_true.1 ha _ (List.getElem_mem hj'))
 have one:∀{y:AV},cellsOf y= [y]→Rel κ y v→isOne y=true→RelL κ (cellsOf y) v.cells.toList∧∀u∈v.cells.toList,u.oneCell'=true:=by
  intro y hy hr hy1
  have e:v.cells= #[v]:=by
   have:=hr.one hy1
   cases v <;> first | rfl | cases this
  rw [hy,e]
  have:RelL κ [y] #[v].toList:= .cons hr (.nil κ)
  exact ⟨this,fun u hu=> by simp at hu;subst hu;exact hr.one hy1⟩
 cases x with
 | agg cs=>
  obtain ⟨vs,rfl,hr⟩:=h.agg_inv
  exact ⟨hr,key hr h1⟩
 | tup vs=> simp [cellsOf,isOne] at h1
 | ow sz es=> simp [cellsOf,isOne] at h1
 | _=> exact one rfl h rfl
end Go.Proofs.YtiklglcjecopcaaGreatDoor

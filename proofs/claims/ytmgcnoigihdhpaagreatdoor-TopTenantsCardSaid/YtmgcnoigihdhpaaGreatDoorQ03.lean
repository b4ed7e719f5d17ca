/-
Running code on constants: how the memory stands to the world. Over any program.
-/
import Derived.Test.YtmgcnoigihdhpaaGreatDoorQ02
import Derived.Laws.BitsLemmas
import Derived.Laws.Strings
import Derived.Maps.RangeRun
namespace Go.Proofs.YtmgcnoigihdhpaaGreatDoor.Ci
open Go.RowKit
def KdOk (T:TypeId) (c:Loc) (n:Nat):Kd→Prop
 | .any=> True
 | .of t=> T=t∧c.off=0
 | .whole t=> T=t∧c.off=0∧c.room=n
def BlkOk (σ:Nm) (w:World) (c:Loc):Blk→Prop
 | .cl k cs=> ∃(vals:Array Value) (T:TypeId),w.heap[c.blk]? =some (.cells vals T (0,0))∧cs.length≤c.room∧c.off + c.room=vals.size∧KdOk T c cs.length k∧∀(j:Nat) (x:CV),cs[j]? =some x→∃v,vals[c.off + j]? =some v∧VR σ x v∧oneC x=true
 | .mp es bs ck=> ∃(ents:Array MapEntry),w.heap[c.blk]? =some (.map ents ck)∧MapKept.Stamped ents ck∧ents.toList.map (·.born)=bs∧ents.size=es.length∧∀(j:Nat) (p:CV×CV) (e:MapEntry),es[j]? =some p→ents[j]? =some e→VR σ p.1 e.key∧VR σ p.2 e.val
 | .it none since seen last=> since=0∧seen= []∧last=0∧c.off=0∧w.heap[c.blk]? =some (.mapIter none 0 #[] 0)
 | .it (some m) since seen last=> ∃d,σ m=some d∧c.off=0∧w.heap[c.blk]? =some (.mapIter (some d.blk) since seen.toArray last)
 | .mu es=> ∃(ents:Array MapEntry) (ck:Nat),w.heap[c.blk]? =some (.map ents ck)∧MapKept.Stamped ents ck∧(∀e∈ents.toList,∃p∈es,e.key= .int .i64 p.1∧VR σ p.2 e.val)∧∀p∈es,∃e∈ents.toList,e.key= .int .i64 p.1
theorem BlkOk.mono {σ σ':Nm} (hs:Le σ σ') {w w':World} {c:Loc} (hw:w'.heap[c.blk]? =w.heap[c.blk]?) {b:Blk} (h:BlkOk σ w c b):BlkOk σ' w' c b:=by
 cases b with
 | cl k cs=>
  obtain ⟨vals,T,h1,h2,h3,hk,h4⟩:=h
  exact ⟨vals,T,by rw [hw];exact h1,h2,h3,hk,fun j x hx=> let ⟨v,a1,a2,a3⟩:=h4 j x hx;⟨v,a1,a2.mono hs,a3⟩⟩
 | it m since seen last=>
  cases m with
  | none=>
   obtain ⟨h1,h2,h3,h4,h5⟩:=h
   exact ⟨h1,h2,h3,h4,by rw [hw];exact h5⟩
  | some m=>
   obtain ⟨d,h1,h2,h3⟩:=h
   exact ⟨d,hs _ _ h1,h2,by rw [hw];exact h3⟩
 | mu es=>
  obtain ⟨ents,ck,h1,h2,h3,h4⟩:=h
  exact ⟨ents,ck,by rw [hw];exact h1,h2,fun e he=> let ⟨p,a1,a2,a3⟩:=h3 e he;⟨p,a1,a2,a3.mono hs⟩,h4⟩
 | mp es bs ck=>
  obtain ⟨ents,h1,h2,hb,h3,h4⟩:=h
  exact ⟨ents,by rw [hw];exact h1,h2,hb,h3,fun j p e hp he=> ⟨(h4 j p e hp he).1.mono hs,(h4 j p e hp he).2.mono hs⟩⟩
structure Base where
 w:World
 F:Nat→Prop
 lt:∀b,F b→b < w.heap.size
def Base.of (w:World):Base:=⟨w,fun b=> b < w.heap.size,fun _ h=> h⟩
structure BelowF (w0:Base) (w:World):Prop where
 os:w.os=w0.w.os
 tape:w.tape=w0.w.tape
 output:w.output=w0.w.output
 size:w0.w.heap.size≤w.heap.size
 block:∀b,w0.F b→w.heap[b]? =w0.w.heap[b]?
theorem BelowF.to {w w':World} (h:BelowF (Base.of w) w'):Below w.heap.size w w':=⟨h.os,h.tape,h.output,h.size,h.block⟩
theorem BelowF.refl (w:World):BelowF (Base.of w) w:=⟨rfl,rfl,rfl,Nat.le_refl _,fun _ _=> rfl⟩
theorem BelowF.keep {w0:Base} {w w':World} (h:BelowF w0 w) (hb:Below w.heap.size w w'):BelowF w0 w':=⟨hb.os.trans h.os,hb.tape.trans h.tape,hb.output.trans h.output,Nat.le_trans h.size hb.size,fun k hk=> (hb.block k (Nat.lt_of_lt_of_le (w0.lt k hk) h.size)).trans (h.block k hk)⟩
structure R (w0:Base) (σ:Nm) (H:Tr Blk) (nx:Nat) (w:World):Prop where
 below:BelowF w0 w
 blk:∀l c b,σ l=some c→H.get l=some b→BlkOk σ w c b
 lo:∀l c,σ l=some c→¬w0.F c.blk∧c.blk < w.heap.size
 sep:∀l l' c c' b b',σ l=some c→σ l'=some c'→H.get l=some b→H.get l'=some b'→c.blk=c'.blk→l=l'
 fresh:∀l c,σ l=some c→l < nx
theorem R.start (w:World):R (Base.of w) (fun _=> none) .e 0 w:=⟨.refl _,fun l c b h=> (by cases h),fun l c h=> (by cases h),fun l l' c c' b b' h=> (by cases h),fun l c h=> (by cases h)⟩
theorem R.heap {w0:Base} {w:World} {σ:Nm} {H H':Tr Blk} {nx nx':Nat} (h:R w0 σ H nx w) (hn:nx≤nx') (hH:∀l c,σ l=some c→H'.get l=H.get l∨H'.get l=none):R w0 σ H' nx' w:=by
 have up:∀l c b,σ l=some c→H'.get l=some b→H.get l=some b:=fun l c b hl hb=> by
  rcases hH l c hl with e | e
  ·rw [←e];exact hb
  ·rw [e] at hb;cases hb
 exact ⟨h.below,fun l c b hl hb=> h.blk l c b hl (up l c b hl hb),h.lo,fun l l' c c' b b' hl hl' hb hb' e=> h.sep l l' c c' b b' hl hl' (up l c b hl hb) (up l' c' b' hl' hb') e,fun l c hl=> Nat.lt_of_lt_of_le (h.fresh l c hl) hn⟩
theorem R.weak {w0:Base} {w:World} {σ:Nm} {H H':Tr Blk} {nx nx':Nat} (h:R w0 σ H nx w) (hn:nx≤nx') (hH:∀l b',H'.get l=some b'→∃b,H.get l=some b∧∀c,BlkOk σ w c b→BlkOk σ w c b'):R w0 σ H' nx' w:=
 ⟨h.below,fun l c b' hl hb=> let ⟨b,h1,h2⟩:=hH l b' hb;h2 c (h.blk l c b hl h1),h.lo,fun l l' c c' b b' hl hl' hb hb' e=> let ⟨_,h1,_⟩:=hH l b hb;let ⟨_,h2,_⟩:=hH l' b' hb';h.sep l l' c c' _ _ hl hl' h1 h2 e,fun l c hl=> Nat.lt_of_lt_of_le (h.fresh l c hl) hn⟩
theorem R.drew {w0:Base} {w:World} {σ:Nm} {H:Tr Blk} {nx:Nat} (h:R w0 σ H nx w):R w0 σ H nx w.drew:=
 ⟨⟨h.below.os,h.below.tape,h.below.output,h.below.size,h.below.block⟩,fun l c b hl hb=> (h.blk l c b hl hb).mono (.refl σ) rfl,h.lo,h.sep,h.fresh⟩
theorem R.keep {w0:Base} {w w':World} {σ:Nm} {H:Tr Blk} {nx:Nat} (h:R w0 σ H nx w) (hb:Below w.heap.size w w'):R w0 σ H nx w':=
 ⟨h.below.keep hb,fun l c b hl hb2=> (h.blk l c b hl hb2).mono (.refl σ) (hb.block _ (h.lo l c hl).2),fun l c hl=> ⟨(h.lo l c hl).1,Nat.lt_of_lt_of_le (h.lo l c hl).2 hb.size⟩,h.sep,h.fresh⟩
theorem R.upd {w0:Base} {w w':World} {σ:Nm} {H:Tr Blk} {nx l:Nat} {c:Loc} {b b':Blk} (h:R w0 σ H nx w) (hl:σ l=some c) (hH:H.get l=some b) (ho:w'.os=w.os) (ht:w'.tape=w.tape) (hp:w'.output=w.output) (hsz:w'.heap.size=w.heap.size)
  (hw:∀k,k≠c.blk→w'.heap[k]? =w.heap[k]?) (hb:BlkOk σ w' c b'):R w0 σ (H.put l b') nx w':=by
 have hlo:=h.lo l c hl
 refine ⟨⟨by rw [ho];exact h.below.os,by rw [ht];exact h.below.tape,by rw [hp];exact h.below.output,by rw [hsz];exact h.below.size,fun k hk=> by rw [hw k (fun e=> hlo.1 (e ▸ hk))];exact h.below.block k hk⟩,fun l' c' b2 hl' hb2=> ?_,fun l' c' hl'=> by rw [hsz];exact h.lo l' c' hl',fun l1 l2 c1 c2 b1 b2 h1 h2 g1 g2 e=> ?_,h.fresh⟩
 ·rw [get_put] at hb2
  by_cases he:l'=l
  ·subst he
   rw [if_pos rfl] at hb2
   injection hb2 with hb2
   subst hb2
   rw [hl] at hl'
   injection hl' with hl'
   subst hl'
   exact hb
  ·rw [if_neg he] at hb2
   exact (h.blk l' c' b2 hl' hb2).mono (.refl σ) (hw _ fun e=> he (h.sep l' l c' c b2 b hl' hl hb2 hH e))
 ·have up:∀l1 b1,(H.put l b').get l1=some b1→∃b2,H.get l1=some b2:=by
   intro l1 b1 g
   rw [get_put] at g
   by_cases he:l1=l
   ·subst he;exact ⟨b,hH⟩
   ·rw [if_neg he] at g;exact ⟨b1,g⟩
  obtain ⟨_,g1⟩:=up l1 b1 g1
  obtain ⟨_,g2⟩:=up l2 b2 g2
  exact h.sep l1 l2 c1 c2 _ _ h1 h2 g1 g2 e
def setN (σ:Nm) (l:Nat) (c:Loc):Nm:=fun j=> if j=l then some c else σ j
theorem setN_self (σ:Nm) (l:Nat) (c:Loc):setN σ l c l=some c:=if_pos rfl
theorem setN_ne (σ:Nm) {l j:Nat} (c:Loc) (h:j≠l):setN σ l c j=σ j:=if_neg h
theorem setN_le {σ:Nm} {l:Nat} (c:Loc) (h:σ l=none):Le σ (setN σ l c):=fun j x hj=> by
 rw [setN_ne σ c fun e=> by rw [e,h] at hj;cases hj]
 exact hj
theorem R.name {w0:Base} {w w':World} {σ:Nm} {H H':Tr Blk} {nx nx' l:Nat} {c:Loc} {b:Blk} (h:R w0 σ H nx w) (hl:σ l=none) (hlt:l < nx') (hn:nx≤nx') (hH:H'.get l=some b) (hH':∀j,j≠l→H'.get j=H.get j)
  (ho:w'.os=w.os) (ht:w'.tape=w.tape) (hp:w'.output=w.output) (hsz:w.heap.size≤w'.heap.size) (hlo:¬w0.F c.blk∧c.blk < w'.heap.size)
  (hw:∀k,k < w.heap.size→k≠c.blk→w'.heap[k]? =w.heap[k]?) (hfree:∀l' c' b',σ l'=some c'→H.get l'=some b'→c'.blk≠c.blk) (hb:BlkOk (setN σ l c) w' c b):R w0 (setN σ l c) H' nx' w':=by
 have hle:Le σ (setN σ l c):=setN_le c hl
 have old:∀l' c',setN σ l c l'=some c'→(l'=l∧c'=c)∨(l'≠l∧σ l'=some c'):=by
  intro l' c' h'
  by_cases he:l'=l
  ·subst he
   rw [setN_self] at h'
   injection h' with h'
   exact Or.inl ⟨rfl,h'.symm⟩
  ·rw [setN_ne σ c he] at h'
   exact Or.inr ⟨he,h'⟩
 refine ⟨⟨by rw [ho];exact h.below.os,by rw [ht];exact h.below.tape,by rw [hp];exact h.below.output,Nat.le_trans h.below.size hsz,fun k hk=> by rw [hw k (Nat.lt_of_lt_of_le (w0.lt k hk) h.below.size) (fun e=> hlo.1 (e ▸ hk))];exact h.below.block k hk⟩,fun l' c' b2 hl' hb2=> ?_,fun l' c' hl'=> ?_,fun l1 l2 c1 c2 b1 b2 h1 h2 g1 g2 e=> ?_,fun l' c' hl'=> ?_⟩
 ·rcases old l' c' hl' with ⟨rfl,rfl⟩ | ⟨hne,hl'⟩
  ·rw [hH] at hb2
   injection hb2 with hb2
   subst hb2
   exact hb
  ·rw [hH' l' hne] at hb2
   exact (h.blk l' c' b2 hl' hb2).mono hle (hw _ (h.lo l' c' hl').2 (hfree l' c' b2 hl' hb2))
 ·rcases old l' c' hl' with ⟨rfl,rfl⟩ | ⟨hne,hl'⟩
  ·exact hlo
  ·exact ⟨(h.lo l' c' hl').1,Nat.lt_of_lt_of_le (h.lo l' c' hl').2 hsz⟩
 ·rcases old l1 c1 h1 with ⟨e1,e1'⟩ | ⟨hne1,k1⟩ <;> rcases old l2 c2 h2 with ⟨e2,e2'⟩ | ⟨hne2,k2⟩
  ·rw [e1,e2]
  ·rw [hH' l2 hne2] at g2
   exact absurd (by rw [←e,e1']) (hfree l2 c2 b2 k2 g2)
  ·rw [hH' l1 hne1] at g1
   exact absurd (by rw [e,e2']) (hfree l1 c1 b1 k1 g1)
  ·rw [hH' l1 hne1] at g1
   rw [hH' l2 hne2] at g2
   exact h.sep l1 l2 c1 c2 b1 b2 k1 k2 g1 g2 e
 ·rcases old l' c' hl' with ⟨rfl,rfl⟩ | ⟨_,hl'⟩
  ·exact hlt
  ·exact Nat.lt_of_lt_of_le (h.fresh l' c' hl') hn
theorem R.new {w0:Base} {w:World} {σ:Nm} {H H':Tr Blk} {nx nx' l:Nat} {room:Nat} {b:Blk} (h:R w0 σ H nx w) (hl:σ l=none) (hlt:l < nx') (hn:nx≤nx') (hH:H'.get l=some b) (hH':∀j,j≠l→H'.get j=H.get j) (o:Obj)
  (hb:BlkOk (setN σ l ⟨w.heap.size,0,room⟩) (w.alloc o) ⟨w.heap.size,0,room⟩ b):R w0 (setN σ l ⟨w.heap.size,0,room⟩) H' nx' (w.alloc o):=by
 refine h.name hl hlt hn hH hH' rfl rfl rfl (by simp) ⟨fun hF=> Nat.lt_irrefl _ (Nat.lt_of_lt_of_le (w0.lt _ hF) h.below.size),by simp⟩ (fun k hk _=> ?_) (fun l' c' b' hl' _ e=> ?_) hb
 ·have:(w.alloc o).heap=w.heap.push o:=rfl
  rw [this,Array.getElem?_push_lt hk,Array.getElem?_eq_getElem hk]
 ·have:=(h.lo l' c' hl').2
  have e:c'.blk=w.heap.size:=e
  omega
theorem R.cells {w0:Base} {w:World} {σ:Nm} {H:Tr Blk} {nx l o:Nat} {c:Loc} {cs:List CV} (h:R w0 σ H nx w) (hl:σ l=some c) (hH:cellsAt H l o=some cs):∃(all:List CV) (vals:Array Value) (T:TypeId) (vs:List Value),(∃k,H.get l=some (.cl k all))∧cs=all.drop o∧w.heap[c.blk]? =some (.cells vals T (0,0))∧all.length≤c.room∧c.off + c.room=vals.size∧
  VRL σ cs vs∧(∀x∈cs,oneC x=true)∧∀(j:Nat) (v:Value),vs[j]? =some v→w.cell? ⟨c.blk,c.off + (o + j),none⟩=some v:=by
 unfold cellsAt cellsOf at hH
 obtain ⟨all,h0,h2⟩:=ob_some hH
 obtain ⟨b,h1,h3⟩:=ob_some h0
 injection h2 with h2
 cases b with
 | mp es=> cases h3
 | it=> cases h3
 | mu=> cases h3
 | cl kd xs=>
  injection h3 with h3
  subst h3
  rw [dropN_eq] at h2
  subst h2
  obtain ⟨vals,T,a1,a2,a3,_,a4⟩:=h.blk l c _ hl h1
  have hcell:∀j,w.cell? ⟨c.blk,j,none⟩=vals[j]? :=fun j=> cell_of_row _ _ _ vals T (0,0) a1
  refine ⟨xs,vals,T,(List.range (xs.drop o).length).map (fun j=> vals.getD (c.off + (o + j)) undef),⟨kd,h1⟩,rfl,a1,a2,a3,⟨by simp,fun j x v hx hv=> ?_⟩,fun u hu=> ?_,fun j v hv=> ?_⟩
  ·rw [List.getElem?_drop] at hx
   obtain ⟨u,b1,b2,b3⟩:=a4 _ x hx
   rw [List.getElem?_map] at hv
   cases hr:(List.range (xs.drop o).length)[j]? with
   | none=> rw [hr] at hv;cases hv
   | some q=>
    rw [hr] at hv
    injection hv with hv
    have hq:q=j:=by
     have:=List.getElem?_eq_some_iff.1 hr
     obtain ⟨q1,q2⟩:=this
     simp at q2
     exact q2.symm
    subst hq
    have hv:vals.getD (c.off + (o + q)) undef=v:=hv
    rw [Array.getD_eq_getD_getElem?,b1] at hv
    subst hv
    exact b2
  ·obtain ⟨j,hj,rfl⟩:=List.getElem_of_mem hu
   have hlt:o + j < xs.length:=by simp at hj;omega
   obtain ⟨u,b1,b2,b3⟩:=a4 _ _ (List.getElem?_eq_getElem hlt)
   rw [List.getElem_drop]
   exact b3
  ·rw [List.getElem?_map] at hv
   cases hr:(List.range (xs.drop o).length)[j]? with
   | none=> rw [hr] at hv;cases hv
   | some q=>
    rw [hr] at hv
    injection hv with hv
    obtain ⟨q1,q2⟩:=List.getElem?_eq_some_iff.1 hr
    have hq:q=j:=by simp at q2;exact q2.symm
    subst hq
    have hlt:o + q < xs.length:=by simp at q1;omega
    obtain ⟨u,b1,b2,b3⟩:=a4 _ _ (List.getElem?_eq_getElem hlt)
    have hv:vals.getD (c.off + (o + q)) undef=v:=hv
    rw [Array.getD_eq_getD_getElem?,b1] at hv
    subst hv
    rw [hcell]
    exact b1
theorem VRL.ones {σ:Nm} {cs:List CV} {vs:List Value} (h:VRL σ cs vs) (h1:∀c∈cs,oneC c=true):∀u∈vs,u.oneCell'=true:=fun u hu=> by
 obtain ⟨j,hj,rfl⟩:=List.getElem_of_mem hu
 have hlt:j < cs.length:=by rw [←h.1];exact hj
 exact (h.2 j cs[j] _ (List.getElem?_eq_getElem hlt) (List.getElem?_eq_getElem hj)).one (h1 _ (List.getElem_mem hlt))
section
variable {P : Program} {o : Oper} {a : Act} {w w' : World} {K : Act → World → Prop} {Q : Exit → Act → World → Prop}
theorem wp_val {x:Value} (h:(execOp a.eval o).run P w= .ok (.value x) w') (hk:K (a.put o.dst x) w'):o.wp P a w K Q:=by
 unfold Oper.wp
 rw [h]
 exact hk
theorem wp_skp (h:(execOp a.eval o).run P w= .ok .skip w') (hk:K (a.put o.dst undef) w'):o.wp P a w K Q:=by
 unfold Oper.wp
 rw [h]
 exact hk
end
theorem und_run {P:Program} {t:TypeId} {d:TypeDesc} (h:und P t=some d) (w:World):(underlying t).run P w= .ok d w:=run_underlying h w
theorem szT_run {P:Program} {t:TypeId} {z:Nat} (h:szT P t=some z) (w:World):(sizeOf t).run P w= .ok z w:=by
 obtain ⟨i,hi,h⟩:=ob_some h
 injection h with h
 simp [sizeOf,typeInfo,hi,h]
theorem isAgg_run {P:Program} {t:TypeId} {d:TypeDesc} (h:und P t=some d) (w:World):(isAgg t).run P w= .ok (aggT d) w:=by
 unfold isAgg
 rw [Sem.run_bind,und_run h w]
 cases d <;> rfl
theorem ld_part {P:Program} {σ:Nm} {t:TypeId} {cs:List CV} {vs:Array Value} {off:Nat} {v:CV} (hr:VRL σ cs vs.toList) (h1:∀c∈cs,oneC c=true) (h:ld P t (cs.drop off)=some v) (w:World):∃x,(part t vs off).run P w= .ok x w∧VR σ v x:=by
 unfold ld at h
 obtain ⟨d,hd,h⟩:=ob_some h
 have ha:=isAgg_run hd w
 cases hg:aggT d with
 | true=>
  rw [hg] at h ha
  obtain ⟨z,hz,h⟩:=ob_some (show ob (szT P t) _=some v from h)
  obtain ⟨hle,h⟩:=ifO_some h
  injection h with h
  subst h
  rw [takeN_eq]
  have hle:=ble_le hle
  rw [len_eq] at hle
  refine ⟨.agg (vs.extract off (off + z)),by simp [part,ha,szT_run hz w],?_⟩
  have:=(hr.drop off).take z
  have e:(vs.extract off (off + z))=((vs.toList.drop off).take z).toArray:=by
   apply Array.ext'
   simp
  rw [e]
  exact .of_agg this fun c hc=> h1 c (List.mem_of_mem_drop (List.mem_of_mem_take hc))
 | false=>
  rw [hg] at h ha
  have h:nth (cs.drop off) 0=some v:=h
  rw [nth_eq,List.getElem?_drop] at h
  obtain ⟨x,hx,hv⟩:=hr.get h
  refine ⟨x,?_,hv⟩
  have:vs[off]? =some x:=by simpa using hx
  simp [part,ha,this]
theorem ld_load {P:Program} {σ:Nm} {t:TypeId} {cs:List CV} {vs:List Value} {b q:Nat} {v:CV} {w:World} (hr:VRL σ cs vs) (h1:∀c∈cs,oneC c=true) (hc:∀(j:Nat) (u:Value),vs[j]? =some u→w.cell? ⟨b,q + j,none⟩=some u) (h:ld P t cs=some v):
  ∃x,(Instr.loadAt t (.pointer (some ⟨b,q,none⟩))).run P w= .ok x w∧VR σ v x∧(oneC v=true→x.oneCell'=true):=by
 unfold ld at h
 obtain ⟨d,hd,h⟩:=ob_some h
 have ha:=isAgg_run hd w
 cases hg:aggT d with
 | true=>
  rw [hg] at h ha
  obtain ⟨z,hz,h⟩:=ob_some (show ob (szT P t) _=some v from h)
  obtain ⟨hle,h⟩:=ifO_some h
  injection h with h
  subst h
  rw [takeN_eq]
  have hle:=ble_le hle
  rw [len_eq] at hle
  have hl:(vs.take z).length=z:=by simp [hr.1];omega
  have hload:(loadCells ⟨b,q,none⟩ z).run P w= .ok (vs.take z).toArray w:=by
   have:=run_loadCells_list (P:=P) (w:=w) (a:=⟨b,q,none⟩) (vs.take z) fun j u hu=> by
    rw [add_eq]
    rw [List.getElem?_take] at hu
    split at hu
    ·exact hc j u hu
    ·cases hu
   rw [hl] at this
   exact this
  exact ⟨.agg (vs.take z).toArray,by simp [Instr.loadAt,Instr.sureAddr,loadVar,ha,szT_run hz w,hload],.of_agg (hr.take z) fun c hc=> h1 c (List.mem_of_mem_take hc),fun h=> by cases h⟩
 | false=>
  rw [hg] at h ha
  have h:nth cs 0=some v:=h
  rw [nth_eq] at h
  obtain ⟨x,hx,hv⟩:=hr.get h
  have:=hc 0 x hx
  rw [Nat.add_zero] at this
  exact ⟨x,by simp [Instr.loadAt,Instr.sureAddr,loadVar,ha,this],hv,hv.one⟩
section
variable {P : Program} {σ : Nm} {E : Tr CV} {ρ : Operand → Value} {w : World}
def Evs (σ:Nm) (E:Tr CV) (ρ:Operand→Value) (xs:Array Operand):Prop:=∀x∈xs,∀c,ev E x=some c→VR σ c (ρ x)
theorem evL_rel:∀(xs:List Operand) {cs:List CV},(∀x∈xs,∀c,ev E x=some c→VR σ c (ρ x))→evL E xs=some cs→VRL σ cs (xs.map ρ)
 | [],cs,_,h=> by
  injection h with h
  subst h
  exact .nil σ
 | x::xs,cs,hev,h=> by
  obtain ⟨c,h1,h⟩:=ob_some (show ob (ev E x) _=some cs from h)
  obtain ⟨cs',h2,h⟩:=ob_some h
  injection h with h
  subst h
  exact .cons (hev x (by simp) c h1) (evL_rel xs (fun y hy=> hev y (by simp [hy])) h2)
theorem evP_rel:∀(xs:List (Nat×Operand)) {cs:List (Nat×CV)},(∀q∈xs,∀c,ev E q.2=some c→VR σ c (ρ q.2))→evP E xs=some cs→
  cs.map (·.1)=xs.map (·.1)∧VRL σ (cs.map (·.2)) (xs.map fun q=> ρ q.2)∧∀q∈cs,∀l,q.2≠ .tup l∨True
 | [],cs,_,h=> by
  injection h with h
  subst h
  exact ⟨rfl,.nil σ,fun q hq=> by simp at hq⟩
 | q::xs,cs,hev,h=> by
  obtain ⟨c,h1,h⟩:=ob_some (show ob (ev E q.2) _=some cs from h)
  obtain ⟨cs',h2,h⟩:=ob_some h
  injection h with h
  subst h
  obtain ⟨k1,k2,k3⟩:=evP_rel xs (fun y hy=> hev y (by simp [hy])) h2
  exact ⟨by simp [k1],.cons (hev q (by simp) c h1) k2,fun _ _ _=> Or.inr trivial⟩
theorem isStr_some {t:TypeId} {n:Nat} (h:isStr P t=some n):P.underlying t=some .string:=by
 obtain ⟨d,hd,h⟩:=ob_some h
 cases d <;> first | exact hd | cases h
theorem elT_some {t e:TypeId} (h:elT P t=some e):P.underlying t=some (.slice e):=by
 obtain ⟨d,hd,h⟩:=ob_some h
 cases d with
 | slice x=>
  injection h with h
  subst h
  exact hd
 | _=> cases h
theorem arT_some {β:Type} {t:TypeId} {f:Nat→TypeId→Option β} {r:β} (h:arT P t f=some r):∃n e,P.underlying t=some (.array n e)∧f n e=some r:=by
 obtain ⟨d,hd,h⟩:=ob_some h
 cases d with
 | array n e=> exact ⟨n,e,hd,h⟩
 | _=> cases h
theorem stT_some {β:Type} {t:TypeId} {f:Array Field→Option β} {r:β} (h:stT P t f=some r):∃fs,P.underlying t=some (.struct fs)∧f fs=some r:=by
 obtain ⟨d,hd,h⟩:=ob_some h
 cases d with
 | struct fs=> exact ⟨fs,hd,h⟩
 | _=> cases h
theorem mpT_some {β:Type} {t:TypeId} {f:TypeId→TypeId→Option β} {r:β} (h:mpT P t f=some r):∃k e,P.underlying t=some (.map k e)∧f k e=some r:=by
 obtain ⟨d,hd,h⟩:=ob_some h
 cases d with
 | map k e=> exact ⟨k,e,hd,h⟩
 | _=> cases h
theorem VR.pv {l o:Nat} {v:Value} (h:VR σ (.p l o) v):∃c,σ l=some c∧v= .pointer (some ⟨c.blk,c.off + o,none⟩):=by
 cases h with
 | p _ h=> exact ⟨_,h,rfl⟩
theorem VR.sv {l o n:Nat} {k:Cp} {v:Value} (h:VR σ (.s l o n k) v):∃c,σ l=some c∧∃A cap,v= .slice (some A) n cap∧n≤cap∧(A=⟨c.blk,c.off + o,none⟩∨(n=0∧cap=0))∧(∀m,k= .kn m→cap=m)∧∀z q,k= .op z q→(o + cap * z≤c.room∨cap=0)∧cap≤maxLen∧q≤cap:=by
 cases h with
 | sk _ _ m h hn=> exact ⟨_,h,_,_,rfl,hn,Or.inl rfl,fun k e=> (by injection e),fun z q e=> (by cases e)⟩
 | so _ _ z q m h hn hq hk hm=> exact ⟨_,h,_,_,rfl,hn,Or.inl rfl,fun k e=> (by cases e),fun z q e=> (by injection e with e e';subst e e';exact ⟨Or.inl hk,hm,hq⟩)⟩
 | s0 _ _ _ h hk hz=> exact ⟨_,h,_,_,rfl,Nat.le_refl _,Or.inr ⟨rfl,rfl⟩,fun m e=> (hk m e).symm,fun z q e=> ⟨Or.inr rfl,Nat.zero_le _,Nat.le_of_eq (hz z q e)⟩⟩
theorem q_pick {c x y:Operand} {v:CV} (hev:Evs σ E ρ #[c,x,y]) (h:qPick E c x y=some v):∃u,(do pure (.value (if←asBool (ρ c) then ρ x else ρ y)):Sem Next).run P w= .ok (.value u) w∧VR σ v u:=by
 obtain ⟨b,h1,h⟩:=ob_some h
 obtain ⟨t,rfl,h⟩:=isBool_some h
 have hb:=(hev c (by simp) _ h1).val
 cases t with
 | true=> exact ⟨ρ x,by simp [hb,asBool],hev x (by simp) _ h⟩
 | false=> exact ⟨ρ y,by simp [hb,asBool],hev y (by simp) _ h⟩
theorem q_load {w0:Base} {H:Tr Blk} {nx:Nat} (hs:R w0 σ H nx w) {t:TypeId} {x:Operand} {v:CV} (hev:Evs σ E ρ #[x]) (h:qLoad P E H t x=some v):∃u,(Instr.loadAt t (ρ x)).run P w= .ok u w∧VR σ v u:=by
 obtain ⟨c,h1,h⟩:=ob_some h
 obtain ⟨l,o,rfl,h⟩:=isP_some h
 obtain ⟨cs,h2,h⟩:=ob_some h
 obtain ⟨c,hc,e⟩:=(hev x (by simp) _ h1).pv
 obtain ⟨all,vals,T,vs,_,_,_,_,_,hr,hone,hcell⟩:=hs.cells hc h2
 rw [e]
 obtain ⟨u,h3,h4,_⟩:=ld_load (P:=P) hr hone (fun j u hu=> by rw [Nat.add_assoc];exact hcell j u hu) h
 exact ⟨u,h3,h4⟩
theorem q_faddr {t:TypeId} {x:Operand} {i:Nat} {v:CV} (hev:Evs σ E ρ #[x]) (h:qFaddr P E t x i=some v):∃u,(Instr.fieldAt t (ρ x) i).run P w= .ok u w∧VR σ v u:=by
 obtain ⟨c,h1,h⟩:=ob_some h
 obtain ⟨l,o,rfl,h⟩:=isP_some h
 obtain ⟨c,hc,e⟩:=(hev x (by simp) _ h1).pv
 obtain ⟨fs,hu,h⟩:=stT_some h
 obtain ⟨f,hf,h⟩:=ob_some h
 obtain ⟨z,hz,h⟩:=ob_some h
 obtain ⟨h2,h⟩:=ifO_some h
 injection h with h
 subst h
 have h2:=ble_le h2
 have hz0:z≠0:=by omega
 refine ⟨.pointer (some ⟨c.blk,c.off + (o + f.offset),none⟩),?_,.p _ hc⟩
 rw [e]
 simp [Instr.fieldAt,run_underlying hu,hf,Instr.sureAddr,fieldPlace,szT_run hz w,hz0,add_eq,Nat.add_assoc]
theorem q_iaddr {t:TypeId} {x i:Operand} {v:CV} (hev:Evs σ E ρ #[x,i]) (h:qIaddr P E t x i=some v):∃u,(Instr.indexAt t (ρ x) (ρ i)).run P w= .ok u w∧VR σ v u:=by
 obtain ⟨c,h1,h⟩:=ob_some h
 obtain ⟨ci,h2,h⟩:=ob_some h
 obtain ⟨k,j,rfl,h⟩:=isNat_some h
 have hi:=(hev i (by simp) _ h2).val
 have hx:=hev x (by simp) _ h1
 cases c with
 | s l o n kp=>
  obtain ⟨e,he,h⟩:=ob_some h
  obtain ⟨z,hz,h⟩:=ob_some h
  obtain ⟨hj,h⟩:=ifO_some h
  injection h with h
  subst h
  have hj:=ble_le hj
  obtain ⟨c,hc,A,cap,hA,_,hA2,_⟩:=hx.sv
  have hA2:A=⟨c.blk,c.off + o,none⟩:=hA2.elim id fun h=> by omega
  subst hA2
  have hu:=elT_some he
  refine ⟨.pointer (some ⟨c.blk,c.off + (o + j * z),none⟩),?_,.p _ hc⟩
  rw [hA,hi]
  have h3:(0:Int)≤Int.ofNat j∧Int.ofNat j < n:=⟨Int.natCast_nonneg j,by show (j:Int) < n;omega⟩
  simp only [Instr.indexAt,asIntOf,Sem.run_bind,Sem.run_pure,Result.andThen_ok,run_underlying hu,if_pos h3,szT_run hz w]
  simp [add_eq,Nat.add_assoc]
 | p l o=>
  obtain ⟨n,e,hu,h⟩:=arT_some h
  obtain ⟨z,hz,h⟩:=ob_some h
  obtain ⟨hj,h⟩:=ifO_some h
  injection h with h
  subst h
  have hj:=ble_le hj
  obtain ⟨c,hc,hA⟩:=hx.pv
  refine ⟨.pointer (some ⟨c.blk,c.off + (o + j * z),none⟩),?_,.p _ hc⟩
  rw [hA,hi]
  have h3:(0:Int)≤Int.ofNat j∧Int.ofNat j < n:=⟨Int.natCast_nonneg j,by show (j:Int) < n;omega⟩
  simp only [Instr.indexAt,asIntOf,Sem.run_bind,Sem.run_pure,Result.andThen_ok,run_underlying hu,Instr.sureAddr,if_pos h3,szT_run hz w]
  simp [add_eq,Nat.add_assoc]
 | _=> cases h
end
end Go.Proofs.YtmgcnoigihdhpaaGreatDoor.Ci
namespace Go.Proofs.YtmgcnoigihdhpaaGreatDoor.Ci
open Go.RowKit
theorem now_eq {β:Type} (n:Int) (f:Int→β):now n f=f n:=by
 cases n with
 | ofNat m=> cases m <;> rfl
 | negSucc m=> cases m <;> rfl
theorem I_eq (k:IntKind) (n:Int):I k n=some (.v (.int k n)):=now_eq n _
theorem B_eq (b:Bool):B b=some (.v (.bool b)):=by cases b <;> rfl
theorem kEq_eq {a b:IntKind} (h:kEq a b=true):a=b:=by
 cases a <;> cases b <;> first | rfl | (exact absurd h (by decide))
theorem ieq_eq (a b:Int):ieq a b=decide (a=b):=by
 cases a <;> cases b <;> simp only [ieq]
 ·rename_i m n
  cases h:Nat.beq m n with
  | true=> rw [beq_eq' h];exact (decide_eq_true rfl).symm
  | false=> exact (decide_eq_false fun e=> Nat.ne_of_beq_eq_false h (Int.ofNat.inj e)).symm
 ·exact (decide_eq_false (by intro h;cases h)).symm
 ·exact (decide_eq_false (by intro h;cases h)).symm
 ·rename_i m n
  cases h:Nat.beq m n with
  | true=> rw [beq_eq' h];exact (decide_eq_true rfl).symm
  | false=> exact (decide_eq_false fun e=> Nat.ne_of_beq_eq_false h (Int.negSucc.inj e)).symm
theorem ble_dec (a b:Nat):Nat.ble a b=decide (a≤b):=by
 cases h:Nat.ble a b with
 | true=> exact (decide_eq_true (ble_le h)).symm
 | false=> exact (decide_eq_false fun e=> by rw [Nat.ble_eq_true_of_le e] at h;cases h).symm
theorem ilt_eq (a b:Int):ilt a b=decide (a < b):=by
 cases a with
 | ofNat m=>
  cases b with
  | ofNat n=>
   show Nat.ble (m + 1) n=_
   rw [ble_dec]
   exact decide_eq_decide.2 (by show m + 1≤n↔(m:Int) < n;omega)
  | negSucc n=> exact (decide_eq_false (by show ¬(m:Int) < Int.negSucc n;omega)).symm
 | negSucc m=>
  cases b with
  | ofNat n=> exact (decide_eq_true (by show Int.negSucc m < (n:Int);omega)).symm
  | negSucc n=>
   show Nat.ble (n + 1) m=_
   rw [ble_dec]
   exact decide_eq_decide.2 (by omega)
theorem wrapF_eq (k:IntKind) (n:Int):wrapF k n=k.wrap n:=by
 cases k with
 | i64=>
  show wrapI n=_
  have h:∀m:Int,-4611686018427387905≤m→m≤4611686018427387904→IntKind.i64.wrap m=m:=by
   intro m h1 h2
   rw [IntKind.wrap_i64]
   omega
  cases n with
  | ofNat m=>
   show (bif Nat.ble m 4611686018427387904 then Int.ofNat m else IntKind.i64.wrap (Int.ofNat m))=_
   cases hb:Nat.ble m 4611686018427387904 with
   | false=> exact cond_false _ _
   | true=>
    have:=ble_le hb
    have e:=h (Int.ofNat m) (by show (-4611686018427387905:Int)≤(m:Int);omega) (by show (m:Int)≤4611686018427387904;omega)
    rw [e]
    exact cond_true _ _
  | negSucc m=>
   show (bif Nat.ble m 4611686018427387904 then Int.negSucc m else IntKind.i64.wrap (Int.negSucc m))=_
   cases hb:Nat.ble m 4611686018427387904 with
   | false=> exact cond_false _ _
   | true=>
    have:=ble_le hb
    have e:=h (Int.negSucc m) (by omega) (by omega)
    rw [e]
    exact cond_true _ _
 | _=> rfl
theorem leqN_eq:∀{m n:List Nat},leqN m n=true→m=n
 | [],[],_=> rfl
 | [],_::_,h=> by cases h
 | _::_,[],h=> by cases h
 | a::l,b::r,h=> by
  simp only [leqN] at h
  cases hb:Nat.beq a b with
  | false=> rw [hb] at h;cases h
  | true=>
   rw [hb] at h
   rw [beq_eq' hb,leqN_eq h]
theorem leqN_refl:∀(m:List Nat),leqN m m=true
 | []=> rfl
 | a::l=> by simp only [leqN,Nat.beq_refl,cond_true,leqN_refl l]
theorem ofNat_inj {a b:Nat} (ha:a < 256) (hb:b < 256) (h:UInt8.ofNat a=UInt8.ofNat b):a=b:=by
 have:=congrArg UInt8.toNat h
 simpa [Nat.mod_eq_of_lt ha,Nat.mod_eq_of_lt hb] using this
theorem map_inj:∀{m n:List Nat},(∀b∈m,b < 256)→(∀b∈n,b < 256)→m.map UInt8.ofNat=n.map UInt8.ofNat→m=n
 | [],[],_,_,_=> rfl
 | [],_::_,_,_,h=> by cases h
 | _::_,[],_,_,h=> by cases h
 | a::l,b::r,hm,hn,h=> by
  injection h with h1 h2
  rw [ofNat_inj (hm a (by simp)) (hn b (by simp)) h1,map_inj (fun x hx=> hm x (by simp [hx])) (fun x hx=> hn x (by simp [hx])) h2]
theorem leqN_beq {m n:List Nat} (hm:∀b∈m,b < 256) (hn:∀b∈n,b < 256):(m.map UInt8.ofNat==n.map UInt8.ofNat)=leqN m n:=by
 cases h:leqN m n with
 | true=> rw [leqN_eq h];exact beq_self_eq_true _
 | false=>
  cases h2:(m.map UInt8.ofNat==n.map UInt8.ofNat) with
  | false=> rfl
  | true=>
   have:=map_inj hm hn (eq_of_beq h2)
   subst this
   rw [leqN_refl] at h
   cases h
theorem lltN_eq:∀{m n:List Nat},(∀b∈m,b < 256)→(∀b∈n,b < 256)→Op.bytesLess (m.map UInt8.ofNat) (n.map UInt8.ofNat)=lltN m n
 | [],[],_,_=> rfl
 | [],_::_,_,_=> rfl
 | _::_,[],_,_=> rfl
 | a::l,b::r,hm,hn=> by
  have ih:=lltN_eq (m:=l) (n:=r) (fun x hx=> hm x (by simp [hx])) (fun x hx=> hn x (by simp [hx]))
  have ha:=hm a (by simp)
  have hb:=hn b (by simp)
  simp only [List.map_cons,Op.bytesLess,lltN,ih]
  have e1:(UInt8.ofNat a==UInt8.ofNat b)=Nat.beq a b:=by
   cases h:Nat.beq a b with
   | true=> rw [beq_eq' h];exact beq_self_eq_true _
   | false=>
    have hne:=Nat.ne_of_beq_eq_false h
    exact beq_eq_false_iff_ne.2 fun e=> hne (ofNat_inj ha hb e)
  have e2:(decide (UInt8.ofNat a < UInt8.ofNat b))=Nat.ble (Nat.succ a) b:=by
   rw [ble_dec]
   refine decide_eq_decide.2 ?_
   rw [UInt8.lt_iff_toNat_lt]
   simp [Nat.mod_eq_of_lt ha,Nat.mod_eq_of_lt hb]
   omega
  rw [e1,e2]
  cases h:Nat.beq a b with
  | true=>
   have:Nat.ble (Nat.succ a) b=false:=by
    rw [ble_dec]
    have:=beq_eq' h
    exact decide_eq_false (by omega)
   rw [this]
   simp
  | false=> simp
section
variable {P : Program} {σ : Nm} {E : Tr CV} {ρ : Operand → Value} {w : World}
theorem eqGuard_any (op:BinOp) (t:TypeId) (x y:Operand) {a b:Value} (h1:a≠ .nilIface) (h2:∀c,a≠ .agg c):(eqGuard op t x y a b).run P w= .ok () w:=by
 cases op <;> first
  | rfl
  | (cases a <;> first
    | rfl
    | exact absurd rfl h1
    | exact absurd rfl (h2 _))
theorem bopI_ok {op:BinOp} {t:TypeId} {x y:Operand} {k:IntKind} {m n:Int} {other:Option CV} {v:CV} (h:bopI op k m n other=some v):
  (∃u,(do eqGuard op t x y (.int k m) (.int k n);binOp op t (.int k m) (.int k n)).run P w= .ok u w∧VR σ v u)∨other=some v:=by
 have hg:=eqGuard_any (P:=P) (w:=w) op t x y (a:= .int k m) (b:= .int k n) (by intro h;cases h) (by intro c h;cases h)
 cases op <;> first
  | exact Or.inr h
  | skip
 all_goals
  left
  first
   | (rw [bopI,I_eq] at h
      injection h with h
      subst h
      rw [wrapF_eq]
      refine ⟨_,?_,.v _ rfl⟩
      rw [Sem.run_bind,hg]
      simp [binOp,Op.intArith]
      try rfl)
   | (rw [bopI,B_eq] at h
      injection h with h
      subst h
      refine ⟨_,?_,.v _ rfl⟩
      rw [Sem.run_bind,hg]
      simp only [ieq_eq,ilt_eq,Result.andThen_ok]
      simp [binOp,Op.intCmp]
      done)
   | (rw [bopI,B_eq] at h
      injection h with h
      subst h
      refine ⟨_,?_,.v _ rfl⟩
      rw [Sem.run_bind,hg]
      simp only [ieq_eq,ilt_eq,Result.andThen_ok]
      simp [binOp,Op.intCmp]
      first
       | rfl
       | (rw [←decide_not];exact decide_eq_decide.2 (by omega)))
theorem bopS_ok {op:BinOp} {t:TypeId} {x y:Operand} {m n:List Nat} {v:CV} (hm:∀b∈m,b < 256) (hn:∀b∈n,b < 256) (h:bopS op m n=some v):
  ∃u,(do eqGuard op t x y (strV m) (strV n);binOp op t (strV m) (strV n)).run P w= .ok u w∧VR σ v u:=by
 have hg:=eqGuard_any (P:=P) (w:=w) op t x y (a:=strV m) (b:=strV n) (by intro h;cases h) (by intro c h;cases h)
 have e1:∀l:List Nat,(⟨(l.map UInt8.ofNat).toArray⟩:ByteArray).toList=l.map UInt8.ofNat:=fun l=> ByteArray.toList_mk _
 cases op <;> first
  | (exfalso;cases h;done)
  | skip
 all_goals first
  | (rw [bopS,B_eq] at h
     injection h with h
     subst h
     refine ⟨_,?_,.v _ rfl⟩
     rw [Sem.run_bind,hg]
     simp only [binOp,strV,Op.stringOp,e1,leqN_beq hm hn,lltN_eq hm hn,Result.andThen_ok,Sem.run_pure]
     try rfl)
  | skip
 obtain ⟨hle,h⟩:=ifO_some (show ifO _ _=some v from h)
 injection h with h
 subst h
 have hle:=ble_le hle
 rw [len_eq,len_eq] at hle
 have hle:m.length + n.length≤1000000000:=hle
 refine ⟨strV (m ++ n),?_,?_⟩
 ·rw [Sem.run_bind,hg]
  have e2:∀l:List Nat,(⟨(l.map UInt8.ofNat).toArray⟩:ByteArray).size=l.length:=fun l=> by simp [ByteArray.size]
  have hs:¬((((⟨(m.map UInt8.ofNat).toArray⟩:ByteArray).size + (⟨(n.map UInt8.ofNat).toArray⟩:ByteArray).size:Nat):Int) > IntKind.i64.max):=by
   rw [e2,e2]
   have:IntKind.i64.max=9223372036854775807:=by decide
   omega
  simp only [binOp,strV,Op.stringOp,Result.andThen_ok,if_neg hs,Sem.run_pure]
  congr 2
  apply ByteArray.ext
  simp
 ·rw [app_eq]
  refine .t _ fun b hb=> ?_
  rcases List.mem_append.1 hb with hb | hb
  ·exact hm b hb
  ·exact hn b hb
theorem plain_ok {op:BinOp} {t:TypeId} {x y:Operand} {a b:CV} {va vb:Value} {v:CV} (ha:VR σ a va) (hb:VR σ b vb) (h:plainOp P op t x y a b=some v):
  ∃u,(do eqGuard op t x y va vb;binOp op t va vb).run P w= .ok u w∧VR σ v u:=by
 obtain ⟨ua,h1,h⟩:=ob_some h
 obtain ⟨ub,h2,h⟩:=ob_some h
 obtain ⟨r,h3,h4⟩:=ob_some h
 have:=toV_rel ha h1
 subst this
 have:=toV_rel hb h2
 subst this
 exact ⟨r,semP_run _ h3 w,ofV_rel σ h4⟩
def refV:Value→Bool
 | .pointer _=> true
 | .slice _ _ _=> true
 | .map _=> true
 | .func _ _ _=> true
 | _=> false
theorem bopN_ok {op:BinOp} {t:TypeId} {x y:Operand} {a b:CV} {va vb:Value} {v:CV} (ha:VR σ a va) (hb:VR σ b vb) (h:bopN P op t a b=some v):
  ∃u,(do eqGuard op t x y va vb;binOp op t va vb).run P w= .ok u w∧VR σ v u:=by
 obtain ⟨y',rfl,h4⟩:=isV_some h
 clear h
 obtain ⟨d,hu,h5⟩:=ob_some h4
 clear h4
 obtain ⟨hf,h⟩:=ifO_some h5
 clear h5
 have:=hb.val
 subst this
 have key:(eqGuard op t x y va vb).run P w= .ok () w∧(Op.equal t va vb).run P w= .ok false w∧refV va=true:=by
  unfold nilFits at hf
  split at hf
  ·split at hf
   ·rename_i e
    obtain ⟨c,hc,e⟩:=ha.pv
    subst e
    exact ⟨eqGuard_any op t x y (by intro h;cases h) (by intro c h;cases h),by rw [Op.equal,Op.maxDepth,show (10000:Nat)=9999 + 1 from rfl,Op.equalIn,Sem.run_bind,run_underlying hu];rfl,rfl⟩
   ·cases hf
  ·split at hf
   ·obtain ⟨c,hc,A,cap,e,_⟩:=ha.sv
    subst e
    exact ⟨eqGuard_any op t x y (by intro h;cases h) (by intro c h;cases h),by rw [Op.equal,Op.maxDepth,show (10000:Nat)=9999 + 1 from rfl,Op.equalIn,Sem.run_bind,run_underlying hu];rfl,rfl⟩
   ·cases hf
  ·split at hf
   ·cases ha with
    | m hc=> exact ⟨eqGuard_any op t x y (by intro h;cases h) (by intro c h;cases h),by rw [Op.equal,Op.maxDepth,show (10000:Nat)=9999 + 1 from rfl,Op.equalIn,Sem.run_bind,run_underlying hu];rfl,rfl⟩
   ·cases hf
  ·split at hf
   ·obtain ⟨us,vs,e,_⟩:=ha.fnL
    subst e
    exact ⟨eqGuard_any op t x y (by intro h;cases h) (by intro c h;cases h),by rw [Op.equal,Op.maxDepth,show (10000:Nat)=9999 + 1 from rfl,Op.equalIn,Sem.run_bind,run_underlying hu];rfl,rfl⟩
   ·cases hf
  ·cases hf
 obtain ⟨k1,k2,k3⟩:=key
 cases op with
 | eql=>
  injection h with h
  subst h
  refine ⟨.bool false,?_,.v _ rfl⟩
  rw [Sem.run_bind,k1]
  simp only [Result.andThen_ok]
  have:binOp .eql t va vb=(do pure (.bool (←Op.equal t va vb))):=by
   cases va <;> first
    | rfl
    | cases k3
  rw [this,Sem.run_bind,k2]
  rfl
 | neq=>
  injection h with h
  subst h
  refine ⟨.bool true,?_,.v _ rfl⟩
  rw [Sem.run_bind,k1]
  simp only [Result.andThen_ok]
  have:binOp .neq t va vb=(do pure (.bool (!(←Op.equal t va vb)))):=by
   cases va <;> first
    | rfl
    | cases k3
  rw [this,Sem.run_bind,k2]
  rfl
 | _=> cases h
theorem bop_ok {op:BinOp} {t:TypeId} {x y:Operand} {a b:CV} {va vb:Value} {v:CV} (ha:VR σ a va) (hb:VR σ b vb) (h:bop P op t x y a b=some v):
  ∃u,(do eqGuard op t x y va vb;binOp op t va vb).run P w= .ok u w∧VR σ v u:=by
 cases a with
 | v m=>
  obtain ⟨n,rfl,h⟩:=isV_some h
  have e1:=ha.val
  have e2:=hb.val
  subst e1 e2
  have other:plainOp P op t x y (.v va) (.v vb)=some v→∃u,(do eqGuard op t x y va vb;binOp op t va vb).run P w= .ok u w∧VR σ v u:=plain_ok ha hb
  cases va with
  | int k m'=>
   cases vb with
   | int k' n'=>
    have h:ifB (kEq k k') (bopI op k m' n' (plainOp P op t x y (.v (.int k m')) (.v (.int k' n')))) (plainOp P op t x y (.v (.int k m')) (.v (.int k' n')))=some v:=h
    cases hk:kEq k k' with
    | false=> rw [hk] at h;exact other h
    | true=>
     rw [hk] at h
     have:=kEq_eq hk
     subst this
     rcases bopI_ok (P:=P) (σ:=σ) (w:=w) (t:=t) (x:=x) (y:=y) (show bopI op k m' n' _=some v from h) with h | h
     ·exact h
     ·exact other h
   | _=> exact other h
  | _=> exact other h
 | t m=>
  cases b with
  | t n=>
   cases ha with
   | t _ hm=>
    cases hb with
    | t _ hn=> exact bopS_ok hm hn h
  | _=> cases h
 | agg=> exact plain_ok ha hb h
 | tup=> cases h
 | _=> exact bopN_ok ha hb h
theorem q_bin {op:BinOp} {t:TypeId} {x y:Operand} {v:CV} (hev:Evs σ E ρ #[x,y]) (h:qBin P E op t x y=some v):∃u,(do eqGuard op t x y (ρ x) (ρ y);binOp op t (ρ x) (ρ y)).run P w= .ok u w∧VR σ v u:=by
 obtain ⟨a,h1,h⟩:=ob_some h
 obtain ⟨b,h2,h⟩:=ob_some h
 exact bop_ok (hev x (by simp) _ h1) (hev y (by simp) _ h2) h
end
end Go.Proofs.YtmgcnoigihdhpaaGreatDoor.Ci
namespace Go.Proofs.YtmgcnoigihdhpaaGreatDoor.Ci
open Go.RowKit
section
variable {P : Program} {σ : Nm} {E : Tr CV} {ρ : Operand → Value} {w : World}
theorem zeroT_run {t:TypeId} {z:List CV} (h:zeroT P t=some z) (σ:Nm) (w:World):∃zv,(zeroValue t).run P w= .ok zv w∧VRL σ z zv.cells.toList∧∀c∈z,oneC c=true:=by
 obtain ⟨i,hi,h⟩:=ob_some h
 obtain ⟨zv,hz,h⟩:=ob_some h
 obtain ⟨c,hc,h⟩:=ob_some h
 injection h with h
 subst h
 obtain ⟨k1,k2⟩:=(ofV_rel σ hc).cells (ofV_nt hc)
 exact ⟨zv,by simp [zeroValue,typeInfo,hi,hz],k1,k2⟩
theorem fillC_rel {place:Nat→Option (Nat×Nat)}:∀(l:List (Nat×CV)) (pl:List (Nat×Value)) (cs r:List CV) (vs:Array Value),l.map (·.1)=pl.map (·.1)→VRL σ (l.map (·.2)) (pl.map (·.2))→VRL σ cs vs.toList→(∀c∈cs,oneC c=true)→
  fillC place l cs=some r→∃us,Instr.fill place vs pl=some us∧VRL σ r us.toList∧∀c∈r,oneC c=true
 | [],pl,cs,r,vs,hi,hv,hr,h1,h=> by
  have:pl= []:=by cases pl with
   | nil=> rfl
   | cons=> cases hi
  subst this
  injection h with h
  subst h
  exact ⟨vs,rfl,hr,h1⟩
 | q::l,[],cs,r,vs,hi,hv,hr,h1,h=> by cases hi
 | q::l,p::pl,cs,r,vs,hi,hv,hr,h1,h=> by
  simp only [List.map_cons,List.cons.injEq] at hi hv
  obtain ⟨hi1,hi2⟩:=hi
  obtain ⟨v,vs',e,hv1,hv2⟩:=hv.cons_inv
  injection e with e1 e2
  subst e1 e2
  obtain ⟨⟨off,z⟩,hp,h⟩:=ob_some (show ob (place q.1) _=some r from h)
  obtain ⟨hb,h⟩:=ifO_some h
  obtain ⟨hb1,hb⟩:=and_true hb
  obtain ⟨hb2,hb3⟩:=and_true hb
  have hb2:=beq_eq' hb2
  have hb3:=ble_le hb3
  rw [len_eq] at hb2 hb3
  obtain ⟨hc,hc1⟩:=hv1.cells hb1
  have hl:=hc.1
  have hl2:=hr.1
  have hb2:(cells q.2).length=z:=hb2
  have hb3:off + z≤cs.length:=hb3
  have hsz:p.2.cells.size=z:=by rw [←hb2,←hl];simp
  rw [show p=(p.1,p.2) from rfl,fill_step place vs p.1 p.2 _ (by rw [←hi1];exact hp) hsz (by rw [←hl2] at hb3;simpa using hb3)]
  have h:fillC place l (wrt (cells q.2) off cs)=some r:=h
  rw [wrt_eq _ _ _ (by omega)] at h
  refine fillC_rel l pl _ r _ hi2 hv2 (by simpa using hr.over hc off) (fun c hc'=> ?_) h
  unfold over at hc'
  rcases List.mem_append.1 hc' with hc' | hc'
  ·rcases List.mem_append.1 hc' with hc' | hc'
   ·exact h1 c (List.mem_of_mem_take hc')
   ·exact hc1 c hc'
  ·exact h1 c (List.mem_of_mem_drop hc')
theorem placesC_run:∀(l:List Field) {pl:List (Nat×Nat)},placesC P l=some pl→∀w,(l.mapM fun f=> do pure (f.offset,←sizeOf f.type):Sem (List (Nat×Nat))).run P w= .ok pl w
 | [],pl,h,w=> by
  injection h with h
  subst h
  rfl
 | f::l,pl,h,w=> by
  obtain ⟨z,hz,h⟩:=ob_some (show ob (szT P f.type) _=some pl from h)
  obtain ⟨pl',h2,h⟩:=ob_some h
  injection h with h
  subst h
  have:=placesC_run l h2 w
  simp only [List.mapM_cons,Sem.run_bind,szT_run hz w,Result.andThen_ok,Sem.run_pure,this]
theorem evP_rel2 {ps:Array (Nat×Operand)} {l:List (Nat×CV)} (hev:∀q∈ps,∀c,ev E q.2=some c→VR σ c (ρ q.2)) (h:evP E ps.toList=some l):
  l.map (·.1)=(ps.map fun q=> (q.1,ρ q.2)).toList.map (·.1)∧VRL σ (l.map (·.2)) ((ps.map fun q=> (q.1,ρ q.2)).toList.map (·.2)):=by
 obtain ⟨k1,k2,_⟩:=evP_rel (ρ:=ρ) ps.toList (fun q hq=> hev q (by simpa using hq)) h
 refine ⟨by rw [k1];simp [Function.comp_def],?_⟩
 have:(ps.map fun q=> (q.1,ρ q.2)).toList.map (·.2)=ps.toList.map fun q=> ρ q.2:=by simp [Function.comp_def]
 rw [this]
 exact k2
theorem q_build {t:TypeId} {ps:Array (Nat×Operand)} {v:CV} (hev:∀q∈ps,∀c,ev E q.2=some c→VR σ c (ρ q.2)) (h:qBuild P E t ps=some v):∃u,(Instr.build t (ps.map fun q=> (q.1,ρ q.2))).run P w= .ok u w∧VR σ v u:=by
 obtain ⟨d,hd,h⟩:=ob_some h
 obtain ⟨z,hz,h⟩:=ob_some h
 obtain ⟨l,hl,h⟩:=ob_some h
 obtain ⟨cs,hc,h⟩:=ob_some h
 injection h with h
 subst h
 obtain ⟨zv,z1,z2,z3⟩:=zeroT_run hz σ w
 obtain ⟨k1,k2⟩:=evP_rel2 hev hl
 have hu:P.underlying t=some d:=hd
 cases d with
 | struct fs=>
  obtain ⟨pl,hp,hc⟩:=ob_some (show ob (placesC P fs.toList) _=some cs from hc)
  have e:nth pl=fun i=> (pl.toArray)[i]? :=by
   funext i
   rw [nth_eq]
   simp
  rw [e] at hc
  obtain ⟨us,h1,h2,h3⟩:=fillC_rel l _ z cs zv.cells k1 k2 z2 z3 hc
  refine ⟨.agg us,?_,by have:=VR.of_agg h2 h3;simpa using this⟩
  have hm:=placesC_run (P:=P) fs.toList hp w
  have hm:(fs.mapM fun f=> do pure (f.offset,←sizeOf f.type):Sem (Array (Nat×Nat))).run P w= .ok pl.toArray w:=by
   rw [Array.mapM_eq_mapM_toList]
   simp only [Sem.run_map,hm]
   rfl
  simp only [Instr.build,Sem.run_bind,z1,Result.andThen_ok,run_underlying hu,hm,h1,Sem.run_pure]
 | array n e=>
  obtain ⟨sz,hs,hc⟩:=ob_some (show ob (szT P e) _=some cs from hc)
  obtain ⟨us,h1,h2,h3⟩:=fillC_rel l _ z cs zv.cells k1 k2 z2 z3 hc
  refine ⟨.agg us,?_,by have:=VR.of_agg h2 h3;simpa using this⟩
  have h1:Instr.fill (fun i=> some (i * sz,sz)) zv.cells (ps.map fun q=> (q.1,ρ q.2)).toList=some us:=h1
  simp only [Instr.build,Sem.run_bind,z1,Result.andThen_ok,run_underlying hu,szT_run hs w,h1,Sem.run_pure]
 | _=> cases hc
theorem q_nil {x:Operand} {v:CV} (hev:Evs σ E ρ #[x]) (h:qNil E x=some v):VR σ v (ρ x)∧((∃A,ρ x= .pointer (some A))∨∃f us vs,ρ x= .func (.func f) us vs):=by
 obtain ⟨c,h1,h⟩:=ob_some h
 have hx:=hev x (by simp) _ h1
 cases c with
 | p l o=>
  injection h with h
  subst h
  obtain ⟨c,_,e⟩:=hx.pv
  exact ⟨hx,Or.inl ⟨_,e⟩⟩
 | fn f a b=>
  injection h with h
  subst h
  obtain ⟨us,vs,e,_⟩:=hx.fnL
  exact ⟨hx,Or.inr ⟨_,_,_,e⟩⟩
 | _=> cases h
theorem q_extract {x:Operand} {i:Nat} {v:CV} (hev:Evs σ E ρ #[x]) (h:qExtract E x i=some v):∃u,(Instr.extract (ρ x) i).run P w= .ok u w∧VR σ v u:=by
 obtain ⟨c,h1,h⟩:=ob_some h
 have hx:=hev x (by simp) _ h1
 cases c with
 | tup cs=>
  obtain ⟨vs,e,hr⟩:=hx.tupL
  have h:nth cs i=some v:=h
  rw [nth_eq] at h
  obtain ⟨u,hu,hv⟩:=hr.get h
  have hu:vs[i]? =some u:=by simpa using hu
  exact ⟨u,by simp [Instr.extract,e,hu],hv⟩
 | _=> cases h
theorem q_field {t:TypeId} {x:Operand} {i:Nat} {v:CV} (hev:Evs σ E ρ #[x]) (h:qField P E t x i=some v):∃u,(Instr.field t (ρ x) i).run P w= .ok u w∧VR σ v u:=by
 obtain ⟨c,h1,h⟩:=ob_some h
 have hx:=hev x (by simp) _ h1
 cases c with
 | agg cs=>
  obtain ⟨vs,e,hr,hone⟩:=hx.aggL
  obtain ⟨fs,hu,h⟩:=stT_some (show stT P t _=some v from h)
  obtain ⟨f,hf,h⟩:=ob_some h
  rw [dropN_eq] at h
  obtain ⟨u,h2,h3⟩:=ld_part hr hone h w
  exact ⟨u,by simp [Instr.field,run_underlying hu,hf,asAgg,e,h2],h3⟩
 | _=> cases h
theorem q_index {t:TypeId} {x i:Operand} {v:CV} (hev:Evs σ E ρ #[x,i]) (h:qIndex P E t x i=some v):∃u,(Instr.index t (ρ x) (ρ i)).run P w= .ok u w∧VR σ v u:=by
 obtain ⟨c,h1,h⟩:=ob_some h
 obtain ⟨ci,h2,h⟩:=ob_some h
 obtain ⟨k,j,rfl,h⟩:=isNat_some h
 have hi:=(hev i (by simp) _ h2).val
 have hx:=hev x (by simp) _ h1
 cases c with
 | t bs=>
  obtain ⟨n0,h3,h⟩:=ob_some (show ob (isStr P t) _=some v from h)
  obtain ⟨b,h4,h⟩:=ob_some h
  injection h with h
  subst h
  rw [nth_eq] at h4
  have hu:=isStr_some h3
  generalize ρ x=vx at hx ⊢
  cases hx with
  | t _ hb=>
   have hlt:j < bs.length:=(List.getElem?_eq_some_iff.1 h4).1
   have hlt':j < (⟨(bs.map UInt8.ofNat).toArray⟩:ByteArray).size:=by simpa [ByteArray.size] using hlt
   have hg:(⟨(bs.map UInt8.ofNat).toArray⟩:ByteArray)[j]? =some (UInt8.ofNat b):=by
    show decidableGetElem? _ _=_
    unfold decidableGetElem?
    rw [dif_pos hlt']
    have:(⟨(bs.map UInt8.ofNat).toArray⟩:ByteArray)[j]=(bs.map UInt8.ofNat)[j]'(by simpa using hlt):=rfl
    rw [this,List.getElem_map]
    congr 2
    exact (List.getElem?_eq_some_iff.1 h4).2
   refine ⟨.int .u8 (Int.ofNat b),?_,.v _ rfl⟩
   have h0:(0:Int)≤Int.ofNat j:=Int.natCast_nonneg j
   have hbl:b < 256:=hb b (List.mem_of_getElem? h4)
   simp only [Instr.index,hi,asIntOf,Sem.run_bind,Sem.run_pure,Result.andThen_ok,run_underlying hu,strV,if_pos h0]
   have:(Int.ofNat j).toNat=j:=rfl
   rw [this,hg]
   simp [Nat.mod_eq_of_lt hbl]
 | agg cs=>
  obtain ⟨vs,e,hr,hone⟩:=hx.aggL
  obtain ⟨n,el,hu,h⟩:=arT_some (show arT P t _=some v from h)
  obtain ⟨z,hz,h⟩:=ob_some h
  obtain ⟨hj,h⟩:=ifO_some h
  have hj:=ble_le hj
  rw [dropN_eq] at h
  obtain ⟨u,h2,h3⟩:=ld_part hr hone h w
  have h0:(0:Int)≤Int.ofNat j∧Int.ofNat j < n:=⟨Int.natCast_nonneg j,by show (j:Int) < n;omega⟩
  refine ⟨u,?_,h3⟩
  have h2:(part el vs ((Int.ofNat j).toNat * z)).run P w= .ok u w:=h2
  simp only [Instr.index,hi,asIntOf,Sem.run_bind,Sem.run_pure,Result.andThen_ok,run_underlying hu,e,if_pos h0,szT_run hz w,h2]
 | _=> cases h
theorem pr1_ok {c:CV} {va:Value} {f:Value→Sem Value} {v:CV} (ha:VR σ c va) (h:pr1 P c f=some v):∃u,(f va).run P w= .ok u w∧VR σ v u:=by
 obtain ⟨ua,h1,h⟩:=ob_some h
 obtain ⟨r,h3,h4⟩:=ob_some h
 have:=toV_rel ha h1
 subst this
 exact ⟨r,semP_run _ h3 w,ofV_rel σ h4⟩
theorem q_un {op:UnOp} {x:Operand} {v:CV} (hev:Evs σ E ρ #[x]) (h:qUn P E op x=some v):∃u,(Op.unary op (ρ x)).run P w= .ok u w∧VR σ v u:=by
 obtain ⟨c,h1,h⟩:=ob_some h
 have hx:=hev x (by simp) _ h1
 cases op with
 | not=>
  obtain ⟨b,rfl,h5⟩:=isBool_some (show isBool c _=some v from h)
  rw [B_eq] at h5
  injection h5 with h5
  subst h5
  have:=hx.val
  exact ⟨.bool (!b),by rw [this];rfl,.v _ rfl⟩
 | _=> exact pr1_ok hx h
theorem q_conv {s d:TypeId} {x:Operand} {v:CV} (hev:Evs σ E ρ #[x]) (h:qConv P E s d x=some v):∃u,(convert s d (ρ x)).run P w= .ok u w∧VR σ v u:=by
 obtain ⟨c,h1,h⟩:=ob_some h
 exact pr1_ok (hev x (by simp) _ h1) h
theorem q_func {f:Fn} {fs cs:Array Operand} {v:CV} (hev:Evs σ E ρ (fs ++ cs)) (h:qFunc E f fs cs=some v):VR σ v (.func f (fs.map ρ) (cs.map ρ)):=by
 cases f with
 | func f=>
  obtain ⟨a,h1,h⟩:=ob_some (show ob (evL E fs.toList) _=some v from h)
  obtain ⟨b,h2,h⟩:=ob_some h
  injection h with h
  subst h
  have r1:=evL_rel (ρ:=ρ) fs.toList (fun x hx=> hev x (by simp at hx ⊢;exact Or.inl hx)) h1
  have r2:=evL_rel (ρ:=ρ) cs.toList (fun x hx=> hev x (by simp at hx ⊢;exact Or.inr hx)) h2
  refine .fn f a b _ _ (by have:=r1.1;simpa using this) (by have:=r2.1;simpa using this) (fun j c u hc hu=> r1.2 j c u hc ?_) (fun j c u hc hu=> r2.2 j c u hc ?_)
  ·rw [←Array.toList_map]
   simpa using hu
  ·rw [←Array.toList_map]
   simpa using hu
 | _=> cases h
end
end Go.Proofs.YtmgcnoigihdhpaaGreatDoor.Ci
namespace Go.Proofs.YtmgcnoigihdhpaaGreatDoor.Ci
open Go.RowKit
section
variable {P : Program} {σ : Nm} {E : Tr CV} {ρ : Operand → Value} {w : World}
def BndOk (ρ:Operand→Value) (d:Nat) (x:Option Operand) (n:Nat):Prop:=match x with
 | none=> n=d
 | some y=> ∃k,ρ y= .int k (Int.ofNat n)
theorem bnd_ok {d:Nat} {x:Option Operand} {n:Nat} (hev:∀y∈x,∀c,ev E y=some c→VR σ c (ρ y)) (h:bnd E d x=some n):BndOk ρ d x n:=by
 cases x with
 | none=>
  injection h with h
  exact h.symm
 | some y=>
  obtain ⟨c,h1,h⟩:=ob_some (show ob (ev E y) _=some n from h)
  obtain ⟨k,m,rfl,h⟩:=isNat_some h
  injection h with h
  subst h
  exact ⟨k,(hev y rfl _ h1).val⟩
theorem run_bound {x:Value} {k:IntKind} {n y:Nat} {c:BoundsCode} (hx:x= .int k (Int.ofNat n)) (h:n≤y):(Instr.sliceBound x y c).run P w= .ok n w:=by
 subst hx
 have h0:(0:Int)≤Int.ofNat n∧Int.ofNat n≤(y:Int):=⟨Int.natCast_nonneg n,by show (n:Int)≤y;omega⟩
 simp only [Instr.sliceBound,asIntOf,Sem.run_bind,Sem.run_pure,Result.andThen_ok,if_pos h0]
 rfl
theorem run_bounds {sl:Bool} {d cap:Nat} {lo hi mx:Option Operand} {a b m:Nat} (hlo:BndOk ρ 0 lo a) (hhi:BndOk ρ d hi b) (hmx:BndOk ρ cap mx m) (hh:mx≠none→hi≠none) (h1:a≤b) (h2:b≤m) (h3:m≤cap):
  (Instr.sliceBounds sl d cap (lo.map ρ) (hi.map ρ) (mx.map ρ)).run P w= .ok (a,b,m) w:=by
 cases mx with
 | none=>
  have hmx:m=cap:=hmx
  subst hmx
  cases hi with
  | none=>
   have hhi:b=d:=hhi
   subst hhi
   cases lo with
   | none=>
    have hlo:a=0:=hlo
    subst hlo
    rfl
   | some y=>
    obtain ⟨k,hy⟩:=hlo
    simp [Instr.sliceBounds,run_bound hy h1]
  | some z=>
   obtain ⟨k',hz⟩:=hhi
   cases lo with
   | none=>
    have hlo:a=0:=hlo
    subst hlo
    simp [Instr.sliceBounds,run_bound hz h2]
   | some y=>
    obtain ⟨k,hy⟩:=hlo
    simp [Instr.sliceBounds,run_bound hz h2,run_bound hy h1]
 | some q=>
  obtain ⟨k2,hq⟩:=hmx
  cases hi with
  | none=> exact absurd rfl (hh (by simp))
  | some z=>
   obtain ⟨k',hz⟩:=hhi
   cases lo with
   | none=>
    have hlo:a=0:=hlo
    subst hlo
    simp [Instr.sliceBounds,run_bound hq h3,run_bound hz h2]
   | some y=>
    obtain ⟨k,hy⟩:=hlo
    simp [Instr.sliceBounds,run_bound hq h3,run_bound hz h2,run_bound hy h1]
theorem mkS_ok {l o z a b m:Nat} {c:Loc} (hc:σ l=some c) (h1:a≤b) (h2:b≤m):VR σ (mkS l o z a b m) (.slice (some (if m=a then ⟨c.blk,c.off + o,none⟩ else (⟨c.blk,c.off + o,none⟩:Addr).add (a * z))) (b - a) (m - a)):=by
 unfold mkS
 cases hb:Nat.beq a m with
 | true=>
  rw [if_pos (beq_eq' hb).symm]
  exact .sk _ _ _ hc (by show b - a≤m - a;omega)
 | false=>
  rw [if_neg (fun e=> Nat.ne_of_beq_eq_false hb e.symm),add_eq]
  have:=VR.sk (σ:=σ) (l:=l) (c:=c) (o + a * z) (b - a) (m - a) hc (by omega)
  rw [←Nat.add_assoc] at this
  exact this
theorem mxOk_ok {hi mx:Option Operand} (h:mxOk hi mx=true):mx≠none→hi≠none:=by
 cases mx with
 | none=> exact fun h=> absurd rfl h
 | some m=>
  cases hi with
  | none=> cases h
  | some x=> exact fun _ h=> by cases h
theorem run_slice {t e:TypeId} {z n cap a b m:Nat} {A:Option Addr} {lo hi mx:Option Value} (hu:P.underlying t=some (.slice e)) (hz:szT P e=some z) (hb:(Instr.sliceBounds true n cap lo hi mx).run P w= .ok (a,b,m) w):
  (Instr.sliceAt t (.slice A n cap) lo hi mx).run P w= .ok (.slice (if m=a then A else A.map (·.add (a * z))) (b - a) (m - a)) w:=by
 simp only [Instr.sliceAt,Instr.slice,Sem.run_bind,Result.andThen_ok,run_underlying hu,hb,szT_run hz w,Sem.run_pure]
theorem q_slice {t:TypeId} {x:Operand} {lo hi mx:Option Operand} {v:CV} (hev:Evs σ E ρ (#[x] ++ lo.toArray ++ hi.toArray ++ mx.toArray)) (h:qSlice P E t x lo hi mx=some v):
  ∃u,(Instr.sliceAt t (ρ x) (lo.map ρ) (hi.map ρ) (mx.map ρ)).run P w= .ok u w∧VR σ v u:=by
 have hlo:∀y∈lo,∀c,ev E y=some c→VR σ c (ρ y):=fun y hy=> hev y (by simp [Option.mem_def.1 hy])
 have hhi:∀y∈hi,∀c,ev E y=some c→VR σ c (ρ y):=fun y hy=> hev y (by simp [Option.mem_def.1 hy])
 have hmx:∀y∈mx,∀c,ev E y=some c→VR σ c (ρ y):=fun y hy=> hev y (by simp [Option.mem_def.1 hy])
 obtain ⟨c,h1,h⟩:=ob_some h
 have hx:=hev x (by simp) _ h1
 obtain ⟨hm3,h⟩:=ifO_some h
 have hm3:=mxOk_ok hm3
 cases c with
 | t bs=>
  obtain ⟨hn,h⟩:=noneO_some (show noneO mx _=some v from h)
  subst hn
  obtain ⟨n0,h3,h⟩:=ob_some h
  obtain ⟨a,ha,h⟩:=ob_some h
  obtain ⟨b,hb,h⟩:=ob_some h
  have ha:=bnd_ok hlo ha
  have hb:=bnd_ok hhi hb
  obtain ⟨hab,h⟩:=ifO_some h
  obtain ⟨k1,k2⟩:=and_true hab
  have k1:=ble_le k1
  have k2:=ble_le k2
  injection h with h
  subst h
  rw [takeN_eq,dropN_eq]
  rw [len_eq] at hb k2
  have hu:=isStr_some h3
  generalize ρ x=vx at hx ⊢
  cases hx with
  | t _ hb8=>
   have hsz:(⟨(bs.map UInt8.ofNat).toArray⟩:ByteArray).size=bs.length:=by simp [ByteArray.size]
   have hbd:=run_bounds (P:=P) (w:=w) (sl:=false) (d:=bs.length) (cap:=bs.length) (lo:=lo) (hi:=hi) (mx:=none) (a:=a) (b:=b) (m:=bs.length) ha hb rfl (fun h=> absurd rfl h) k1 k2 (Nat.le_refl _)
   refine ⟨strV ((bs.drop a).take (b - a)),?_,.t _ fun q hq=> hb8 q (List.mem_of_mem_drop (List.mem_of_mem_take hq))⟩
   have e:(⟨(bs.map UInt8.ofNat).toArray⟩:ByteArray).extract a b=⟨(((bs.drop a).take (b - a)).map UInt8.ofNat).toArray⟩:=by
    apply ByteArray.ext
    simp [ByteArray.data_extract,List.map_take,List.map_drop]
   have hbd:(Instr.sliceBounds false bs.length bs.length (lo.map ρ) (hi.map ρ) none).run P w= .ok (a,b,bs.length) w:=hbd
   simp only [Instr.sliceAt,Instr.slice,Sem.run_bind,Result.andThen_ok,run_underlying hu,strV,hsz,hbd,Option.map_none,Option.isSome_none,Bool.false_eq_true,if_false,Sem.run_pure,e]
 | v y=>
  have hy:=hx.val
  obtain ⟨hn,h⟩:=ifO_some (show ifO (isNilS y) _=some v from h)
  have hy2:y= .slice none 0 0:=by
   unfold isNilS at hn
   split at hn
   ·rfl
   ·cases hn
  obtain ⟨e,he,h⟩:=ob_some h
  obtain ⟨z,hz,h⟩:=ob_some h
  obtain ⟨a,ha,h⟩:=ob_some h
  obtain ⟨b,hb,h⟩:=ob_some h
  obtain ⟨m,hm,h⟩:=ob_some h
  have ha:=bnd_ok hlo ha
  have hb:=bnd_ok hhi hb
  have hm:=bnd_ok hmx hm
  obtain ⟨hs,h⟩:=ifO_some h
  injection h with h
  subst h
  have hs:a + (b + m)=0:=beq_eq' hs
  have e1:a=0:=by omega
  have e2:b=0:=by omega
  have e3:m=0:=by omega
  subst e1 e2 e3
  have hbd:=run_bounds (P:=P) (w:=w) (sl:=true) (d:=0) (cap:=0) (lo:=lo) (hi:=hi) (mx:=mx) (a:=0) (b:=0) (m:=0) ha hb hm hm3 (Nat.le_refl _) (Nat.le_refl _) (Nat.le_refl _)
  rw [hy,hy2]
  exact ⟨_,run_slice (elT_some he) hz hbd,.v _ rfl⟩
 | s l o n k=>
  obtain ⟨e,he,h⟩:=ob_some (show ob (elT P t) _=some v from h)
  obtain ⟨z,hz,h⟩:=ob_some h
  obtain ⟨a,ha,h⟩:=ob_some h
  obtain ⟨b,hb,h⟩:=ob_some h
  have ha:=bnd_ok hlo ha
  have hb:=bnd_ok hhi hb
  obtain ⟨c,hc,A,cap,hA,hn,hA2,hkn,hop⟩:=hx.sv
  have hu:=elT_some he
  rw [hA]
  have mk:∀{m:Nat},a≤b→b≤m→m≤cap→VR σ (mkS l o z a b m) (.slice (if m=a then some A else (some A).map (·.add (a * z))) (b - a) (m - a)):=by
   intro m h1 h2 h3
   rcases hA2 with rfl | ⟨rfl,rfl⟩
   ·have:=mkS_ok (z:=z) (o:=o) hc h1 h2
    split at this <;> split <;> first | exact this | contradiction
   ·have e1:m=0:=by omega
    have e2:b=0:=by omega
    have e3:a=0:=by omega
    subst e1 e2 e3
    exact .s0 _ _ _ hc (fun n e=> by injection e with e;exact e.symm) fun _ _ e=> by cases e
  cases mx with
  | some y=>
   obtain ⟨m,hm,h⟩:=ob_some (show ob (bnd E n (some y)) _=some v from h)
   have hm:=bnd_ok hmx hm
   obtain ⟨hs,h⟩:=ifO_some h
   obtain ⟨k1,hs⟩:=and_true hs
   obtain ⟨k2,k3⟩:=and_true hs
   have k1:=ble_le k1
   have k2:=ble_le k2
   have k3:=ble_le k3
   injection h with h
   subst h
   have hbd:=run_bounds (P:=P) (w:=w) (sl:=true) (d:=n) (cap:=cap) (lo:=lo) (hi:=hi) (mx:=some y) (a:=a) (b:=b) (m:=m) ha hb hm hm3 k1 k2 (by omega)
   exact ⟨_,run_slice hu hz hbd,mk k1 k2 (by omega)⟩
  | none=>
   cases k with
   | kn k=>
    obtain ⟨hs,h⟩:=ifO_some (show ifO (Bool.and (Nat.ble a b) (Nat.ble b k)) _=some v from h)
    obtain ⟨k1,k2⟩:=and_true hs
    have k1:=ble_le k1
    have k2:=ble_le k2
    injection h with h
    subst h
    have:=hkn k rfl
    subst this
    have hbd:=run_bounds (P:=P) (w:=w) (sl:=true) (d:=n) (cap:=cap) (lo:=lo) (hi:=hi) (mx:=none) (a:=a) (b:=b) (m:=cap) ha hb rfl (fun h=> absurd rfl h) k1 k2 (Nat.le_refl _)
    exact ⟨_,run_slice hu hz hbd,mk k1 k2 (Nat.le_refl _)⟩
   | op z' q=>
    obtain ⟨hs,h⟩:=ifO_some (show ifO (Bool.and (Nat.beq z z') (Bool.and (Nat.ble a b) (Bool.or (Nat.ble b n) (Nat.ble b q)))) _=some v from h)
    obtain ⟨k0,hs⟩:=and_true hs
    obtain ⟨k1,k2⟩:=and_true hs
    have k0:=beq_eq' k0
    have k1:=ble_le k1
    injection h with h
    subst h
    subst k0
    obtain ⟨hr,hmx,hqc⟩:=hop z q rfl
    have k2:b≤cap:=by
     have k2:(Nat.ble b n || Nat.ble b q)=true:=k2
     rw [Bool.or_eq_true] at k2
     rcases k2 with k2 | k2
     ·have:=ble_le k2;omega
     ·have:=ble_le k2;omega
    have hbd:=run_bounds (P:=P) (w:=w) (sl:=true) (d:=n) (cap:=cap) (lo:=lo) (hi:=hi) (mx:=none) (a:=a) (b:=b) (m:=cap) ha hb rfl (fun h=> absurd rfl h) k1 (by omega) (Nat.le_refl _)
    refine ⟨_,run_slice hu hz hbd,?_⟩
    by_cases hca:cap=a
    ·have e2:b=a:=by omega
     subst hca e2
     rw [if_pos rfl,Nat.sub_self,show Nat.sub b b=0 from Nat.sub_self b]
     refine VR.s0 _ (.op z (q - b)) _ hc (fun n e=> by cases e) fun z' q' e=> ?_
     injection e with _ e
     omega
    ·rw [if_neg hca]
     have hA3:A=⟨c.blk,c.off + o,none⟩:=hA2.elim id fun h=> by omega
     have hr:o + cap * z≤c.room:=hr.elim id fun h=> by omega
     subst hA3
     have hmul:(cap - a) * z + a * z=cap * z:=by rw [←Nat.add_mul];congr 1;omega
     have:=VR.so (σ:=σ) (l:=l) (c:=c) (o + a * z) (b - a) z (q - a) (cap - a) hc (by omega) (by omega) (by omega) (by omega)
     rw [←Nat.add_assoc] at this
     show VR σ _ (.slice (some ((⟨c.blk,c.off + o,none⟩:Addr).add (a * z))) _ _)
     rw [add_eq]
     exact this
 | p l o=>
  obtain ⟨hn,h⟩:=noneO_some (show noneO mx _=some v from h)
  subst hn
  obtain ⟨k,e,hu,h⟩:=arT_some h
  obtain ⟨z,hz,h⟩:=ob_some h
  obtain ⟨a,ha,h⟩:=ob_some h
  obtain ⟨b,hb,h⟩:=ob_some h
  have ha:=bnd_ok hlo ha
  have hb:=bnd_ok hhi hb
  obtain ⟨hab,h⟩:=ifO_some h
  obtain ⟨k1,k2⟩:=and_true hab
  have k1:=ble_le k1
  have k2:=ble_le k2
  injection h with h
  subst h
  obtain ⟨c,hc,hA⟩:=hx.pv
  have hbd:=run_bounds (P:=P) (w:=w) (sl:=false) (d:=k) (cap:=k) (lo:=lo) (hi:=hi) (mx:=none) (a:=a) (b:=b) (m:=k) ha hb rfl (fun h=> absurd rfl h) k1 k2 (Nat.le_refl _)
  have hbd:(Instr.sliceBounds false k k (lo.map ρ) (hi.map ρ) none).run P w= .ok (a,b,k) w:=hbd
  refine ⟨_,?_,mkS_ok (z:=z) hc k1 k2⟩
  rw [hA]
  simp only [Instr.sliceAt,Instr.sureAddr,Sem.run_bind,Sem.run_pure,Result.andThen_ok,run_underlying hu,Option.map_none,hbd,szT_run hz w]
 | _=> cases h
theorem semP_bind {α β:Type} (f:α→Sem β):∀(s:Sem α),semP P (s >>=f)=(semP P s).bind fun a=> semP P (f a):=by
 intro s
 induction s with
 | pure a=> rfl
 | program k ih=> exact ih P
 | mark m k ih=> exact ih
 | _=> rfl
theorem semP_und (t:TypeId):semP P (underlying t)=P.underlying t:=by
 show semP P (match P.underlying t with | some d=> pure d | none=> stuck "no such type")=_
 cases P.underlying t <;> rfl
theorem findNow_keys (kind:TypeDesc) (k:Value):∀(l1 l2:List MapEntry) (i:Nat) (r:Option (Nat×Value)),l1.map (·.key)=l2.map (·.key)→Instr.findNow kind k l1 i=some r→
  ∃r',Instr.findNow kind k l2 i=some r'∧r'.map (·.1)=r.map (·.1)∧∀j v,r'=some (j,v)→i≤j∧∃e,l2[j - i]? =some e∧e.val=v
 | [],l2,i,r,hk,h=> by
  have:l2= []:=by cases l2 with
   | nil=> rfl
   | cons=> cases hk
  subst this
  injection h with h
  subst h
  exact ⟨none,rfl,rfl,fun j v h=> by cases h⟩
 | e::l1,[],i,r,hk,h=> by cases hk
 | e::l1,e2::l2,i,r,hk,h=> by
  simp only [List.map_cons,List.cons.injEq] at hk
  obtain ⟨k1,k2⟩:=hk
  simp only [Instr.findNow,←k1] at h ⊢
  cases hs:Instr.sameNow kind k e.key with
  | none=> rw [hs] at h;cases h
  | some b=>
   rw [hs] at h
   cases b with
   | true=>
    injection h with h
    subst h
    exact ⟨_,rfl,rfl,fun j v h=> by
     injection h with h
     injection h with h3 h4
     subst h3 h4
     exact ⟨Nat.le_refl _,e2,by simp,rfl⟩⟩
   | false=>
    obtain ⟨r',h1,h2,h3⟩:=findNow_keys kind k l1 l2 (i + 1) r k2 h
    refine ⟨r',h1,h2,fun j v hj=> ?_⟩
    obtain ⟨h4,e',h5,h6⟩:=h3 j v hj
    refine ⟨by omega,e',?_,h6⟩
    rw [show j - i=(j - (i + 1)) + 1 by omega,List.getElem?_cons_succ]
    exact h5
theorem findNow_none (kind:TypeDesc) (k:Value):∀(l1 l2:List MapEntry) (i:Nat),l1.map (·.key)=l2.map (·.key)→Instr.findNow kind k l1 i=none→Instr.findNow kind k l2 i=none
 | [],l2,i,hk,h=> by cases h
 | e::l1,[],i,hk,h=> by cases hk
 | e::l1,e2::l2,i,hk,h=> by
  simp only [List.map_cons,List.cons.injEq] at hk
  obtain ⟨k1,k2⟩:=hk
  simp only [Instr.findNow,←k1] at h ⊢
  cases hs:Instr.sameNow kind k e.key with
  | none=> rfl
  | some b=>
   rw [hs] at h
   cases b with
   | true=> cases h
   | false=> exact findNow_none kind k l1 l2 (i + 1) k2 h
theorem findAsk_keys (kt:TypeId) (k:Value) (w:World):∀(l1 l2:List MapEntry) (i:Nat) (r:Option (Nat×Value)),l1.map (·.key)=l2.map (·.key)→semP P (Instr.findAsking kt k l1 i)=some r→
  ∃r',(Instr.findAsking kt k l2 i).run P w= .ok r' w∧r'.map (·.1)=r.map (·.1)∧∀j v,r'=some (j,v)→i≤j∧∃e,l2[j - i]? =some e∧e.val=v
 | [],l2,i,r,hk,h=> by
  have:l2= []:=by cases l2 with
   | nil=> rfl
   | cons=> cases hk
  subst this
  injection h with h
  subst h
  exact ⟨none,rfl,rfl,fun j v h=> by cases h⟩
 | e::l1,[],i,r,hk,h=> by cases hk
 | e::l1,e2::l2,i,r,hk,h=> by
  simp only [List.map_cons,List.cons.injEq] at hk
  obtain ⟨k1,k2⟩:=hk
  simp only [Instr.findAsking] at h ⊢
  rw [semP_bind] at h
  cases hb:semP P (Op.equal kt k e.key) with
  | none=> rw [hb] at h;cases h
  | some b=>
   rw [hb] at h
   have hrun:=semP_run _ hb w
   rw [Sem.run_bind,←k1,hrun]
   cases b with
   | true=>
    injection h with h
    subst h
    exact ⟨_,rfl,rfl,fun j v h=> by
     injection h with h
     injection h with h3 h4
     subst h3 h4
     exact ⟨Nat.le_refl _,e2,by simp,rfl⟩⟩
   | false=>
    obtain ⟨r',h1,h2,h3⟩:=findAsk_keys kt k w l1 l2 (i + 1) r k2 h
    refine ⟨r',h1,h2,fun j v hj=> ?_⟩
    obtain ⟨h4,e',h5,h6⟩:=h3 j v hj
    refine ⟨by omega,e',?_,h6⟩
    rw [show j - i=(j - (i + 1)) + 1 by omega,List.getElem?_cons_succ]
    exact h5
theorem findKey_keys {kt:TypeId} {k:Value} {l1 l2:List MapEntry} {r:Option (Nat×Value)} (hk:l1.map (·.key)=l2.map (·.key)) (h:semP P (Instr.findKey kt k l1)=some r) (w:World):
  ∃r',(Instr.findKey kt k l2).run P w= .ok r' w∧r'.map (·.1)=r.map (·.1)∧∀j v,r'=some (j,v)→∃e,l2[j]? =some e∧e.val=v:=by
 unfold Instr.findKey at h ⊢
 rw [semP_bind,semP_und] at h
 cases hu:P.underlying kt with
 | none=> rw [hu] at h;cases h
 | some d=>
  rw [hu] at h
  have h:semP P (match Instr.findNow d k l1 0 with | some r=> pure r | none=> Instr.findAsking kt k l1)=some r:=h
  rw [Sem.run_bind,run_underlying hu]
  show ∃r',(match Instr.findNow d k l2 0 with | some r=> pure r | none=> Instr.findAsking kt k l2:Sem _).run P w= .ok r' w∧_
  cases hn:Instr.findNow d k l1 0 with
  | some q=>
   rw [hn] at h
   injection h with h
   subst h
   obtain ⟨r',h1,h2,h3⟩:=findNow_keys d k l1 l2 0 q hk hn
   rw [h1]
   exact ⟨r',rfl,h2,fun j v hj=> (h3 j v hj).2⟩
  | none=>
   rw [hn] at h
   rw [findNow_none d k l1 l2 0 hk hn]
   obtain ⟨r',h1,h2,h3⟩:=findAsk_keys kt k w l1 l2 0 r hk h
   exact ⟨r',h1,h2,fun j v hj=> (h3 j v hj).2⟩
theorem keysC_rel:∀(es:List (CV×CV)) (ks ents:List MapEntry),ents.length=es.length→(∀(j:Nat) (p:CV×CV) (e:MapEntry),es[j]? =some p→ents[j]? =some e→VR σ p.1 e.key)→keysC es=some ks→ks.map (·.key)=ents.map (·.key)
 | [],ks,ents,hl,_,h=> by
  injection h with h
  subst h
  have:ents= []:=List.eq_nil_of_length_eq_zero hl
  subst this
  rfl
 | q::es,ks,ents,hl,hr,h=> by
  obtain ⟨v,h1,h⟩:=ob_some (show ob (toV q.1) _=some ks from h)
  obtain ⟨ks',h2,h⟩:=ob_some h
  injection h with h
  subst h
  cases ents with
  | nil=> cases hl
  | cons e ents=>
   rw [List.map_cons,List.map_cons,keysC_rel es ks' ents (by simpa using hl) (fun j p e hp he=> hr (j + 1) p e (by simpa using hp) (by simpa using he)) h2]
   have:=toV_rel (hr 0 q e rfl rfl) h1
   rw [this]
   rfl
theorem findC_ok {kt:TypeId} {eB:Bool} {k:CV} {kv:Value} {es:List (CV×CV)} {r:Option (Nat×Value)} {ents:List MapEntry} (hk:VR σ k kv) (hl:ents.length=es.length) (hr:∀(j:Nat) (p:CV×CV) (e:MapEntry),es[j]? =some p→ents[j]? =some e→VR σ p.1 e.key)
  (h:findC P kt eB k es=some r) (w:World):(Instr.checkKey eB 10000 kt kv).run P w= .ok () w∧∃r',(Instr.findKey kt kv ents).run P w= .ok r' w∧r'.map (·.1)=r.map (·.1)∧∀j v,r'=some (j,v)→∃e,ents[j]? =some e∧e.val=v:=by
 obtain ⟨u,h1,h⟩:=ob_some h
 obtain ⟨x,h2,h⟩:=ob_some h
 obtain ⟨ks,h3,h4⟩:=ob_some h
 have:=toV_rel hk h1
 subst this
 exact ⟨semP_run _ h2 w,findKey_keys (keysC_rel es ks ents hl hr h3) h4 w⟩
theorem emptyB_eq {α:Type} (l:List α):emptyB l=l.isEmpty:=by cases l <;> rfl
theorem mapOf_ok {w0:Base} {H:Tr Blk} {nx:Nat} (hs:R w0 σ H nx w) {c:CV} {v:Value} {es:List (CV×CV)} (hv:VR σ c v) (h:mapOf H c=some es):
  (v= .map none∧es= [])∨∃l lc ents bs clock,c= .m l∧σ l=some lc∧H.get l=some (.mp es bs clock)∧v= .map (some lc.blk)∧w.heap[lc.blk]? =some (.map ents clock)∧MapKept.Stamped ents clock∧ents.toList.map (·.born)=bs∧ents.size=es.length∧∀(j:Nat) (p:CV×CV) (e:MapEntry),es[j]? =some p→ents[j]? =some e→VR σ p.1 e.key∧VR σ p.2 e.val:=by
 cases c with
 | v y=>
  obtain ⟨hn,h5⟩:=ifO_some (show ifO (isNilM y) _=some es from h)
  injection h5 with h5
  left
  have:=hv.val
  rw [this]
  refine ⟨?_,h5.symm⟩
  unfold isNilM at hn
  split at hn
  ·rfl
  ·cases hn
 | m l=>
  right
  obtain ⟨b,h1,h2⟩:=ob_some (show ob (H.get l) _=some es from h)
  cases b with
  | cl=> cases h2
  | it=> cases h2
  | mu=> cases h2
  | mp xs bs ck=>
   injection h2 with h2
   subst h2
   cases hv with
   | m hc=>
    obtain ⟨ents,k1,k2,kb,k3,k4⟩:=hs.blk l _ _ hc h1
    exact ⟨l,_,ents,bs,ck,rfl,hc,h1,rfl,k1,k2,kb,k3,k4⟩
 | _=> cases h
theorem okC_ok {ok b:Bool} {c:CV} {v:Value} (h:VR σ c v):VR σ (okC ok b c) (if ok then .tuple #[v,.bool b] else v):=by
 cases ok with
 | false=> exact h
 | true=> exact VR.of_tup (.cons h (.cons (.v (.bool b) rfl) (.nil σ)))
theorem isI_some {β:Type} {x:CV} {f:Int→Option β} {r:β} (h:isI x f=some r):∃n,x= .v (.int .i64 n)∧f n=some r:=by
 obtain ⟨y,rfl,h⟩:=isV_some h
 cases y with
 | int k n=>
  obtain ⟨h1,h2⟩:=ifO_some (show ifO (kEq k .i64) (f n)=some r from h)
  rw [kEq_eq h1]
  exact ⟨n,rfl,h2⟩
 | _=> cases h
theorem findNow_int (n:Int):∀(l:List MapEntry) (i:Nat),(∀e∈l,∃m,e.key= .int .i64 m)→
  ((Instr.findNow (.int .i64) (.int .i64 n) l i=some none∧∀e∈l,e.key≠ .int .i64 n)∨∃j v,Instr.findNow (.int .i64) (.int .i64 n) l i=some (some (j,v))∧∃e∈l,e.key= .int .i64 n∧e.val=v)
 | [],i,_=> Or.inl ⟨rfl,fun e he=> by cases he⟩
 | e::l,i,h=> by
  obtain ⟨m,hm⟩:=h e (List.mem_cons_self ..)
  by_cases hmn:m=n
  ·subst hmn
   right
   refine ⟨i,e.val,?_,e,List.mem_cons_self ..,hm,rfl⟩
   simp [Instr.findNow,hm,Instr.sameNow]
  ·have hs:Instr.findNow (.int .i64) (.int .i64 n) (e::l) i=Instr.findNow (.int .i64) (.int .i64 n) l (i + 1):=by
    have hne:(n==m)=false:=by simpa using fun e:n=m=> hmn e.symm
    simp [Instr.findNow,hm,Instr.sameNow,hne]
   rw [hs]
   rcases findNow_int n l (i + 1) (fun e' he'=> h e' (List.mem_cons_of_mem _ he')) with ⟨h1,h2⟩ | ⟨j,v,h1,e',he',h2⟩
   ·refine Or.inl ⟨h1,fun e' he'=> ?_⟩
    rcases List.mem_cons.1 he' with rfl | he'
    ·rw [hm]
     intro e2
     injection e2 with _ e2
     exact hmn e2
    ·exact h2 e' he'
   ·exact Or.inr ⟨j,v,h1,e',List.mem_cons_of_mem _ he',h2⟩
theorem hits_ok (n:Int):∀(es:List (Int×CV)),(∀p∈es,p.1=n→p.2∈hits n es)∧(∀c∈hits n es,∃p∈es,p.1=n∧p.2=c)
 | []=> And.intro (fun p hp=> by cases hp) (fun c (hc:c∈([]:List CV))=> by cases hc)
 | q::es=> by
  obtain ⟨h1,h2⟩:=hits_ok n es
  have e:hits n (q::es)=ifB (ieq n q.1) (q.2::hits n es) (hits n es):=rfl
  rw [e,ieq_eq]
  by_cases hq:n=q.1
  ·rw [decide_eq_true hq]
   refine ⟨fun p hp hn=> ?_,fun c hc=> ?_⟩
   ·rcases List.mem_cons.1 hp with rfl | hp
    ·exact List.mem_cons_self ..
    ·exact List.mem_cons_of_mem _ (h1 p hp hn)
   ·rcases List.mem_cons.1 hc with rfl | hc
    ·exact ⟨q,List.mem_cons_self ..,hq.symm,rfl⟩
    ·obtain ⟨p,a,b⟩:=h2 c hc
     exact ⟨p,List.mem_cons_of_mem _ a,b⟩
  ·rw [decide_eq_false hq]
   refine ⟨fun p hp hn=> ?_,fun c hc=> ?_⟩
   ·rcases List.mem_cons.1 hp with rfl | hp
    ·exact absurd hn.symm hq
    ·exact h1 p hp hn
   ·obtain ⟨p,a,b⟩:=h2 c hc
    exact ⟨p,List.mem_cons_of_mem _ a,b⟩
theorem q_lookU {w0:Base} {H:Tr Blk} {nx:Nat} (hs:R w0 σ H nx w) {t kt e:TypeId} {c ci:CV} {vx vi:Value} {ok:Bool} {v:CV} (hu:P.underlying t=some (.map kt e)) (hx:VR σ c vx) (hi:VR σ ci vi) (h:lookU P H kt e c ci ok=some v):∃u,(Instr.lookup t vx vi ok).run P w= .ok u w∧VR σ v u:=by
 obtain ⟨l,rfl,h⟩:=isM_some h
 obtain ⟨b,h1,h⟩:=ob_some h
 cases b with
 | cl=> cases h
 | mp=> cases h
 | it=> cases h
 | mu es=>
  obtain ⟨q,h2,h⟩:=ob_some (show (ob (i64T P kt) fun _=> isI ci fun n=> hitC (ob (P.info? e) fun ie=> ob ie.zero fun z=> ob (ofV z) fun c=> some (okC ok false c)) ok (hits n es))=some v from h)
  obtain ⟨n,rfl,h'⟩:=isI_some h
  clear h
  have h:=h'
  clear h'
  have hk:P.underlying kt=some (.int .i64):=by
   obtain ⟨d,k1,k2⟩:=ob_some h2
   cases d with
   | int k=>
    obtain ⟨k3,_⟩:=ifO_some (show ifO (kEq k .i64) (some 0)=some q from k2)
    rw [←kEq_eq k3]
    exact k1
   | _=> cases k2
  cases hx with
  | m hl=>
   rename_i lc
   obtain ⟨ents,ck,g1,g2,g3,g4⟩:=hs.blk l lc _ hl h1
   have hg:(getObj lc.blk).run P w= .ok (.map ents ck) w:=by
    simp [getObj,Sem.run,g1]
   have hck:(Instr.checkKey ents.isEmpty 10000 kt vi).run P w= .ok () w:=MapKept.run_checkKey (w:=w) (k:=vi) hk (by rw [hi.val];exact rfl) ents.isEmpty 9999
   have hu2:(underlying t).run P w= .ok (.map kt e) w:=run_underlying hu w
   have hvi:=hi.val
   subst hvi
   obtain ⟨a1,a2⟩:=hits_ok n es
   rcases findNow_int n ents.toList 0 (fun e he=> let ⟨p,_,h,_⟩:=g3 e he;⟨p.1,h⟩) with ⟨f1,f2⟩ | ⟨j,vv,f1,e',he',f2,f3⟩
   ·have hfk:=MapKept.run_findKey (w:=w) hk f1
    have hno:hits n es= []:=by
     cases hh:hits n es with
     | nil=> rfl
     | cons c r=>
      obtain ⟨p,p1,p2,_⟩:=a2 c (by rw [hh];exact List.mem_cons_self ..)
      obtain ⟨e2,e3,e4⟩:=g4 p p1
      exact absurd (by rw [e4,p2]) (f2 e2 e3)
    rw [hno] at h
    obtain ⟨ie,h5,h⟩:=ob_some (show ob (P.info? e) _=some v from h)
    obtain ⟨z,h6,h⟩:=ob_some h
    obtain ⟨cz,h7,h⟩:=ob_some h
    injection h with h
    subst h
    refine ⟨if ok then .tuple #[z,.bool false] else z,?_,okC_ok (ofV_rel σ h7)⟩
    unfold Instr.lookup
    simp only [Sem.run_bind,hu2,hg,Result.andThen_ok]
    cases ok
    ·simp [hck,hfk,Result.andThen,zeroValue,typeInfo,h5,h6]
    ·simp [hck,hfk,Result.andThen,zeroValue,typeInfo,h5,h6]
   ·have hfk:=MapKept.run_findKey (w:=w) hk f1
    obtain ⟨p,p1,p2,p3⟩:=g3 e' he'
    have hpn:p.1=n:=by
     rw [f2] at p2
     injection p2 with _ p2
     exact p2.symm
    have hin:=a1 p p1 hpn
    unfold hitC at h
    split at h
    ·rename_i hh
     rw [hh] at hin
     cases hin
    ·rename_i c hh
     rw [hh] at hin
     have hin:=List.mem_singleton.1 hin
     injection h with h
     subst h
     rw [←hin]
     refine ⟨if ok then .tuple #[vv,.bool true] else vv,?_,okC_ok (by rw [←f3];exact p3)⟩
     unfold Instr.lookup
     simp only [Sem.run_bind,hu2,hg,Result.andThen_ok]
     cases ok <;> simp [hck,hfk,Result.andThen]
    ·cases h
theorem q_look {w0:Base} {H:Tr Blk} {nx:Nat} (hs:R w0 σ H nx w) {t:TypeId} {x i:Operand} {ok:Bool} {v:CV} (hev:Evs σ E ρ #[x,i]) (h:qLook P E H t x i ok=some v):∃u,(Instr.lookup t (ρ x) (ρ i) ok).run P w= .ok u w∧VR σ v u:=by
 obtain ⟨c,h1,h⟩:=ob_some h
 obtain ⟨ci,h2,h⟩:=ob_some h
 have hx:=hev x (by simp) _ h1
 have hi:=hev i (by simp) _ h2
 obtain ⟨kt,e,hu,h⟩:=mpT_some h
 cases h3:mapOf H c with
 | none=>
  rw [h3] at h
  exact q_lookU hs hu hx hi h
 | some es=>
 rw [h3] at h
 obtain ⟨r,h4,h⟩:=ob_some (show lookM P kt e es ci ok=some v from h)
 have zero:r=none→∃z u,(zeroValue e).run P w= .ok z w∧u=(if ok then .tuple #[z,.bool false] else z)∧VR σ v u:=by
  intro hr
  subst hr
  obtain ⟨ie,h5,h⟩:=ob_some (show ob (P.info? e) _=some v from h)
  obtain ⟨z,h6,h⟩:=ob_some h
  obtain ⟨cz,h7,h⟩:=ob_some h
  injection h with h
  subst h
  exact ⟨z,_,by simp [zeroValue,typeInfo,h5,h6],rfl,okC_ok (ofV_rel σ h7)⟩
 have fin:∀(es':Array MapEntry) (ents:List MapEntry),es'.toList=ents→ents.length=es.length→(∀(j:Nat) (p:CV×CV) (e:MapEntry),es[j]? =some p→ents[j]? =some e→VR σ p.1 e.key∧VR σ p.2 e.val)→
   ∃u,(do Instr.checkKey es'.isEmpty 10000 kt (ρ i);match←Instr.findKey kt (ρ i) es'.toList with | some (_,v)=> pure (if ok then .tuple #[v,.bool true] else v) | none=> (do let z←zeroValue e;pure (if ok then .tuple #[z,.bool false] else z)):Sem Value).run P w= .ok u w∧VR σ v u:=by
  intro es' ents he hl hr
  subst he
  obtain ⟨k1,r',k2,k3,k4⟩:=findC_ok hi hl (fun j p e hp he=> (hr j p e hp he).1) h4 w
  have hE:es'.isEmpty=emptyB es:=by
   rw [emptyB_eq,←Array.isEmpty_toList]
   cases he:es'.toList with
   | nil=>
    rw [he] at hl
    have:es= []:=List.eq_nil_of_length_eq_zero (by simpa using hl.symm)
    rw [this]
    rfl
   | cons a l=>
    rw [he] at hl
    cases es with
    | nil=> cases hl
    | cons=> rfl
  rw [hE,Sem.run_bind,k1]
  simp only [Result.andThen_ok]
  rw [Sem.run_bind,k2]
  simp only [Result.andThen_ok]
  cases r' with
  | none=>
   have hr0:r=none:=by
    cases r with
    | none=> rfl
    | some q=> cases k3
   obtain ⟨z,u,z1,z2,z3⟩:=zero hr0
   refine ⟨u,?_,z3⟩
   subst z2
   simp [z1]
  | some q=>
   obtain ⟨j,vv⟩:=q
   cases r with
   | none=> cases k3
   | some q'=>
    injection k3 with k3
    have k3:j=q'.1:=k3
    obtain ⟨en,h5,h6⟩:=k4 j vv rfl
    obtain ⟨p,h7,h8⟩:=ob_some (show ob (nth es q'.1) _=some v from h)
    injection h8 with h8
    subst h8
    rw [nth_eq,←k3] at h7
    have:=(hr j p en h7 h5).2
    rw [h6] at this
    exact ⟨_,rfl,okC_ok this⟩
 have hu2:(underlying t).run P w= .ok (.map kt e) w:=run_underlying hu w
 rcases mapOf_ok hs hx h3 with ⟨e1,e2⟩ | ⟨l,lc,ents,_,clock,rfl,hc,hH,e1,k1,k2,_,k3,k4⟩
 ·subst e2
  obtain ⟨u,f1,f2⟩:=fin #[] [] rfl rfl (fun j p e hp=> by simp at hp)
  refine ⟨u,?_,f2⟩
  rw [e1]
  unfold Instr.lookup
  simp only [Sem.run_bind,hu2,Result.andThen_ok,Sem.run_pure] at f1 ⊢
  exact f1
 ·obtain ⟨u,f1,f2⟩:=fin ents ents.toList rfl (by simpa using k3) (fun j p e hp he=> k4 j p e hp (by simpa using he))
  refine ⟨u,?_,f2⟩
  rw [e1]
  have hg:(getObj lc.blk).run P w= .ok (.map ents clock) w:=by
   simp [getObj,Sem.run,k1]
  unfold Instr.lookup
  simp only [Sem.run_bind,hu2,hg,Result.andThen_ok,Sem.run_pure] at f1 ⊢
  exact f1
end
end Go.Proofs.YtmgcnoigihdhpaaGreatDoor.Ci
namespace Go.Proofs.YtmgcnoigihdhpaaGreatDoor.Ci
open Go.RowKit
section
variable {P : Program} {σ : Nm} {E : Tr CV} {ρ : Operand → Value} {w : World}
theorem isNilS_eq {y:Value} (h:isNilS y=true):y= .slice none 0 0:=by
 unfold isNilS at h
 split at h
 ·rfl
 ·cases h
theorem q_len {w0:Base} {H:Tr Blk} {nx:Nat} (hs:R w0 σ H nx w) {t ty:TypeId} {ts:Array TypeId} {args:Array Value} {c v:CV} {va:Value} (ht:ts[0]? =some t) (ha:args[0]? =some va) (hv:VR σ c va) (h:lenC P H t c=some v):
  ∃u,(Builtin.len_ ts ty args).run P w= .ok u w∧VR σ v u:=by
 obtain ⟨d,hd,h⟩:=ob_some h
 have hu:P.underlying t=some d:=hd
 have ok:∀n:Nat,lenV n=some v→VR σ v (goInt n):=fun n h=> by
  injection h with h
  subst h
  exact .v _ rfl
 cases d with
 | string=>
  cases c with
  | t bs=>
   generalize va=vx at *
   cases hv with
   | t _ hb=>
    have hsz:(⟨(bs.map UInt8.ofNat).toArray⟩:ByteArray).size=bs.length:=by simp [ByteArray.size]
    refine ⟨goInt bs.length,?_,ok bs.length (by have h:lenV (len bs)=some v:=h;rw [len_eq] at h;exact h)⟩
    simp [Builtin.len_,ht,ha,run_underlying hu,strV,hsz]
  | _=> cases h
 | slice e=>
  cases c with
  | s l o n k=>
   obtain ⟨lc,hc,A,cap,hA,_⟩:=hv.sv
   exact ⟨goInt n,by simp [Builtin.len_,ht,ha,run_underlying hu,hA],ok n h⟩
  | v y=>
   obtain ⟨hn,h⟩:=ifO_some (show ifO (isNilS y) _=some v from h)
   have e1:=hv.val
   have e2:=isNilS_eq hn
   refine ⟨goInt 0,?_,ok 0 h⟩
   simp [Builtin.len_,ht,ha,run_underlying hu,e1,e2]
  | _=> cases h
 | map kt e=>
  obtain ⟨es,h1,h9⟩:=ob_some (show ob (mapOf H c) _=some v from h)
  rw [len_eq] at h9
  rcases mapOf_ok hs hv h1 with ⟨e1,e2⟩ | ⟨l,lc,ents,_,clock,rfl,hc,hH,e1,k1,k2,_,k3,k4⟩
  ·subst e2
   refine ⟨goInt 0,?_,ok 0 h9⟩
   simp [Builtin.len_,ht,ha,run_underlying hu,e1]
  ·have hg:(getObj lc.blk).run P w= .ok (.map ents clock) w:=by
    simp [getObj,Sem.run,k1]
   refine ⟨goInt es.length,?_,ok _ h9⟩
   simp [Builtin.len_,ht,ha,run_underlying hu,e1,hg,k3]
 | array n e=>
  refine ⟨goInt n,?_,ok n h⟩
  simp [Builtin.len_,ht,ha,run_underlying hu]
 | _=> cases h
theorem q_cap {t ty:TypeId} {ts:Array TypeId} {args:Array Value} {c v:CV} {va:Value} (ht:ts[0]? =some t) (ha:args[0]? =some va) (hv:VR σ c va) (h:capC P t c=some v):∃u,(Builtin.cap_ ts ty args).run P w= .ok u w∧VR σ v u:=by
 obtain ⟨e,he,h⟩:=ob_some h
 have hu:=elT_some he
 have ok:∀n:Nat,lenV n=some v→VR σ v (goInt n):=fun n h=> by
  injection h with h
  subst h
  exact .v _ rfl
 cases c with
 | s l o n k=>
  obtain ⟨lc,hc,A,cap,hA,_,_,hk,_⟩:=hv.sv
  cases k with
  | op z=> cases h
  | kn k=>
   have:=hk k rfl
   subst this
   exact ⟨goInt cap,by simp [Builtin.cap_,ht,ha,run_underlying hu,hA],ok cap h⟩
 | v y=>
  obtain ⟨hn,h⟩:=ifO_some (show ifO (isNilS y) _=some v from h)
  have e1:=hv.val
  have e2:=isNilS_eq hn
  refine ⟨goInt 0,?_,ok 0 h⟩
  simp [Builtin.cap_,ht,ha,run_underlying hu,e1,e2]
 | _=> cases h
theorem toVL_rel:∀{cs:List CV} {vs us:List Value},VRL σ cs vs→toVL cs=some us→vs=us
 | [],vs,us,h,hc=> by
  injection hc with hc
  subst hc
  exact h.nil_inv
 | c::cs,vs,us,h,hc=> by
  obtain ⟨v,vs',rfl,h1,h2⟩:=h.cons_inv
  obtain ⟨u,e1,hc⟩:=ob_some (show ob (toV c) _=some us from hc)
  obtain ⟨us',e2,hc⟩:=ob_some hc
  injection hc with hc
  subst hc
  rw [toV_rel h1 e1,toVL_rel h2 e2]
theorem q_bui {w0:Base} {H:Tr Blk} {nx:Nat} (hs:R w0 σ H nx w) {b:Builtin} {args:Array Operand} {ts:Array TypeId} {ty:TypeId} {cb:Array Bool} {v:CV} (hev:Evs σ E ρ args) (h:qBui P E H b args ts ty=some v):∃u,(builtin b ts ty cb (args.map ρ)).run P w= .ok (.value u) w∧VR σ v u:=by
 obtain ⟨vs,h1,h⟩:=ob_some h
 have hr:=evL_rel (ρ:=ρ) args.toList (fun x hx=> hev x (by simpa using hx)) h1
 have hr:VRL σ vs (args.map ρ).toList:=by simpa using hr
 have lift:∀{s:Sem Value},(∃u,s.run P w= .ok u w∧VR σ v u)→∃u,(do pure (.value (←s)):Sem Next).run P w= .ok (.value u) w∧VR σ v u:=by
  rintro s ⟨u,h1,h2⟩
  exact ⟨u,by simp [h1],h2⟩
 have one:∀{c:CV} {t:TypeId},nth vs 0=some c→nth ts.toList 0=some t→ts[0]? =some t∧∃va,(args.map ρ)[0]? =some va∧VR σ c va:=by
  intro c t hc ht
  rw [nth_eq] at hc ht
  obtain ⟨va,h1,h2⟩:=hr.get hc
  exact ⟨by simpa using ht,va,by simpa using h1,h2⟩
 cases b with
 | len=>
  obtain ⟨c,h2,h⟩:=ob_some (show ob (nth vs 0) _=some v from h)
  obtain ⟨t,h3,h⟩:=ob_some h
  obtain ⟨ht,va,ha,hv⟩:=one h2 h3
  exact lift (q_len hs ht ha hv h)
 | cap=>
  obtain ⟨c,h2,h⟩:=ob_some (show ob (nth vs 0) _=some v from h)
  obtain ⟨t,h3,h⟩:=ob_some h
  obtain ⟨ht,va,ha,hv⟩:=one h2 h3
  exact lift (q_cap ht ha hv h)
 | min=>
  obtain ⟨us,h2,h⟩:=ob_some (show ob (toVL vs) _=some v from h)
  obtain ⟨r,h3,h⟩:=ob_some h
  have:=toVL_rel hr h2
  refine lift ⟨r,?_,ofV_rel σ h⟩
  have e:args.map ρ=us.toArray:=by rw [←this]
  rw [e]
  exact semP_run _ h3 w
 | max=>
  obtain ⟨us,h2,h⟩:=ob_some (show ob (toVL vs) _=some v from h)
  obtain ⟨r,h3,h⟩:=ob_some h
  have:=toVL_rel hr h2
  refine lift ⟨r,?_,ofV_rel σ h⟩
  have e:args.map ρ=us.toArray:=by rw [←this]
  rw [e]
  exact semP_run _ h3 w
 | _=> cases h
theorem posN_ok {x:Nat}:∀{l:List Nat} {i:Nat},posN x l=some i→l[i]? =some x
 | [],_,h=> by cases h
 | y::l,i,h=> by
  have h:ifB (Nat.beq x y) (some 0) (ob (posN x l) fun i=> some (Nat.succ i))=some i:=h
  cases hb:Nat.beq x y
  ·rw [hb] at h
   obtain ⟨j,h1,h2⟩:=ob_some (show (ob (posN x l) fun i=> some (Nat.succ i))=some i from h)
   injection h2 with h2
   subst h2
   rw [List.getElem?_cons_succ]
   exact posN_ok h1
  ·rw [hb] at h
   injection (show some 0=some i from h) with h
   subst h
   rw [beq_eq' hb]
   rfl
theorem lastN_ok {x:Nat}:∀{l:List Nat},lastN l=some x→∃r,l=r ++ [x]
 | [],h=> by cases h
 | y::l,h=> by
  have h: @Option.rec Nat (fun _=> Option Nat) (some y) (fun z=> some z) (lastN l)=some x:=h
  cases hl:lastN l with
  | none=>
   rw [hl] at h
   injection (show some y=some x from h) with h
   subst h
   cases l with
   | nil=> exact ⟨[],rfl⟩
   | cons z l=>
    have hl: @Option.rec Nat (fun _=> Option Nat) (some z) (fun z=> some z) (lastN l)=none:=hl
    cases hq:lastN l with
    | none=> rw [hq] at hl;cases hl
    | some q=> rw [hq] at hl;cases hl
  | some z=>
   rw [hl] at h
   injection (show some z=some x from h) with h
   subst h
   obtain ⟨r,hr⟩:=lastN_ok hl
   exact ⟨y::r,by rw [hr];rfl⟩
theorem itAt_ok {β:Type} {w0:Base} {H:Tr Blk} {nx:Nat} (hs:R w0 σ H nx w) {c:CV} {v:Value} {f:Nat→Nat→Nat→List Nat→Nat→List (CV×CV)→List Nat→Nat→Option β} {r:β} (hv:VR σ c v) (h:itAt H c f=some r):
  ∃l lc m d since seen last es bs ck ents,c= .p l 0∧σ l=some lc∧σ m=some d∧v= .pointer (some ⟨lc.blk,0,none⟩)∧H.get l=some (.it (some m) since seen last)∧lc.off=0∧w.heap[lc.blk]? =some (.mapIter (some d.blk) since seen.toArray last)∧H.get m=some (.mp es bs ck)∧
   w.heap[d.blk]? =some (.map ents ck)∧MapKept.Stamped ents ck∧ents.toList.map (·.born)=bs∧ents.size=es.length∧(∀(j:Nat) (p:CV×CV) (e:MapEntry),es[j]? =some p→ents[j]? =some e→VR σ p.1 e.key∧VR σ p.2 e.val)∧f l m since seen last es bs ck=some r:=by
 obtain ⟨l,o,rfl,h⟩:=isP_some h
 obtain ⟨ho,h⟩:=ifO_some h
 have ho:=beq_eq' ho
 subst ho
 obtain ⟨b,h1,h⟩:=ob_some h
 cases b with
 | cl=> cases h
 | mp=> cases h
 | mu=> cases h
 | it m since seen last=>
  obtain ⟨m',h2,h⟩:=ob_some (show (ob m fun m=> ob (H.get m) fun b=> isMp b (f l m since seen last))=some r from h)
  subst h2
  obtain ⟨b,h3,h⟩:=ob_some h
  cases b with
  | cl=> cases h
  | it=> cases h
  | mu=> cases h
  | mp es bs ck=>
   obtain ⟨lc,hl,rfl⟩:=hv.pv
   obtain ⟨d,k1,k2,k3⟩:=hs.blk l lc _ hl h1
   obtain ⟨ents,g1,g2,gb,g3,g4⟩:=hs.blk m' d _ k1 h3
   exact ⟨l,lc,m',d,since,seen,last,es,bs,ck,ents,rfl,hl,k1,by rw [k2],h1,k2,k3,h3,g1,g2,gb,g3,g4,h⟩
theorem q_entry {w0:Base} {H:Tr Blk} {nx:Nat} (hs:R w0 σ H nx w) {x:Operand} {v:CV} (hev:Evs σ E ρ #[x]) (h:qEntry E H x=some v):∃u,(Instr.entry (ρ x)).run P w= .ok u w∧VR σ v u:=by
 obtain ⟨c,h1,h⟩:=ob_some h
 obtain ⟨l,lc,m,d,since,seen,last,es,bs,ck,ents,rfl,hl,hm,hv,hH,hoff,hit,hM,hg,hst,hb,hsz,hrel,h⟩:=itAt_ok hs (hev x (by simp) _ h1) h
 obtain ⟨h2,h0⟩:=ifO_some h
 clear h
 have h2:=beq_eq' h2
 subst h2
 obtain ⟨b,h3,h⟩:=ob_some h0
 obtain ⟨i,h4,h⟩:=ob_some h
 obtain ⟨p,h5,h⟩:=ob_some h
 injection h with h
 subst h
 obtain ⟨s0,rfl⟩:=lastN_ok h3
 have h4:=posN_ok h4
 rw [nth_eq] at h5
 rw [←hb,List.getElem?_map] at h4
 obtain ⟨e,h6,h7⟩:=Option.map_eq_some_iff.1 h4
 subst h7
 rw [Array.getElem?_toList] at h6
 have hit:w.heap[lc.blk]? =some (.mapIter (some d.blk) since (s0.toArray.push e.born) ck):=by
  rw [hit]
  simp
 obtain ⟨k1,k2⟩:=hrel i p e h5 h6
 refine ⟨_,?_,.of_tup (.cons k1 (.cons k2 (.nil σ)))⟩
 rw [hv]
 exact run_entry_at w lc.blk d.blk since s0.toArray ents ck e hit hg (by rw [←Array.mem_def];exact Array.mem_of_getElem? h6) hst.2.1
theorem exQ_ok {w0:Base} {H:Tr Blk} {nx:Nat} (hs:R w0 σ H nx w) {o:Oper} {v:CV} (hev:Evs σ E ρ o.op.operands) (h:exQ P E H o.type o.op=some v):∃u,(execOp ρ o).run P w= .ok (.value u) w∧VR σ v u:=by
 obtain ⟨dst,op,ty,pos,after,guard⟩:=o
 have lift:∀{s:Sem Value},(∃u,s.run P w= .ok u w∧VR σ v u)→∃u,(do pure (.value (←s)):Sem Next).run P w= .ok (.value u) w∧VR σ v u:=by
  rintro s ⟨u,h1,h2⟩
  exact ⟨u,by simp [h1],h2⟩
 cases op with
 | move x=> exact ⟨ρ x,rfl,hev x (by simp [Op.operands]) _ h⟩
 | assign x=> exact ⟨ρ x,rfl,hev x (by simp [Op.operands]) _ h⟩
 | pick c a b=> exact q_pick hev h
 | load t a=> exact lift (q_load hs hev h)
 | fieldAddr t x i=> exact lift (q_faddr hev h)
 | indexAddr t x i=> exact lift (q_iaddr hev h)
 | binOp op t x y yt=> exact lift (q_bin hev h)
 | nilCheck x=>
  obtain ⟨h1,h2⟩:=q_nil (σ:=σ) hev h
  refine ⟨ρ x,?_,h1⟩
  show (match ρ x with
  | .pointer none | .nilIface | .nilFunc=> runtimePanic .nilDeref
  | .func (.method name) first captured=>
   match (first[0]? :Option Value) with
   | some .nilIface=> runtimePanic .nilDeref
   | some (.iface t w)=> do
    if (←nilAhead ((←program).types.size + Made.depth) t w name) !=some false then
     unsupported (.noEntry "op/nilCheck.the method's receiver behind this interface value is a nil pointer, or cannot be seen to be none, and the arguments act or may panic (ledger 612)")
    pure (.value (.func (.method name) first captured))
   | _=> pure (.value (.func (.method name) first captured))
  | x=> pure (.value x):Sem Next).run P w=_
  rcases h2 with ⟨A,e⟩ | ⟨f,us,vs,e⟩ <;> rw [e] <;> rfl
 | extract x i=> exact lift (q_extract hev h)
 | build t ps=> exact lift (q_build (fun q hq=> hev q.2 (by
   simp only [Op.operands]
   simp
   exact ⟨q.1,hq⟩)) h)
 | field t x i=> exact lift (q_field hev h)
 | index t x i=> exact lift (q_index hev h)
 | slice t x lo hi mx=> exact lift (q_slice hev h)
 | unOp op t x=> exact lift (q_un hev h)
 | convert a b x=> exact lift (q_conv hev h)
 | makeFunc f fs cs=> exact ⟨_,rfl,q_func hev h⟩
 | lookup t x i ok=> exact lift (q_look hs hev h)
 | entry x=> exact lift (q_entry hs hev h)
 | call c=>
  obtain ⟨callee,args,ts⟩:=c
  cases callee with
  | builtin b=>
   have hev:Evs σ E ρ args:=fun x hx=> hev x (by simp [Op.operands,Call.operands,hx])
   obtain ⟨u,h1,h2⟩:=q_bui (cb:=args.map fun | .const _=> true | _=> false) hs hev (show qBui P E H b args ts ty=some v from h)
   exact ⟨u,h1,h2⟩
  | _=> cases h
 | _=> cases h
end
end Go.Proofs.YtmgcnoigihdhpaaGreatDoor.Ci

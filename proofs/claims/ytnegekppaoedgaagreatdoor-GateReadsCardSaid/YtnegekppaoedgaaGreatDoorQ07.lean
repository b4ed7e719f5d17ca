/-
Running code on constants: how the memory stands to the world. Over any program.
-/
import Derived.Test.YtnegekppaoedgaaGreatDoorQ06
import Derived.Laws.BitsLemmas
import Derived.Laws.Strings
set_option linter.all false
namespace Go.Proofs.YtnegekppaoedgaaGreatDoor
namespace Ci
open Go.RowKit
variable [fE]
def afq (T:TypeId) (c:Loc) (n:Nat):Kd→Prop
 | .any=> True
 | .of t=> T=t∧c.off=0
 | .whole t=> T=t∧c.off=0∧c.room=n
def fH (σ:Nm) (w:World) (c:Loc):aP→Prop
 | .cl k cs=> ∃(vals:Array Value) (T:TypeId),w.heap[c.blk]? =some (.cells vals T (0,0))∧cs.length≤c.room∧c.off + c.room=vals.size∧afq T c cs.length k∧∀(j:Nat) (x:CV),cs[j]? =some x→∃v,vals[c.off + j]? =some v∧VR σ x v∧iQ x=true
 | .mp es bs ck=> ∃(ents:Array MapEntry),w.heap[c.blk]? =some (.map ents ck)∧MapKept.Stamped ents ck∧ents.toList.map (·.born)=bs∧ents.size=es.length∧∀(j:Nat) (p:CV×CV) (e:MapEntry),es[j]? =some p→ents[j]? =some e→VR σ p.1 e.key∧VR σ p.2 e.val
 | .it none since seen last=> since=0∧seen= []∧last=0∧c.off=0∧w.heap[c.blk]? =some (.mapIter none 0 #[] 0)
 | .it (some m) since seen last=> ∃d,σ m=some d∧c.off=0∧w.heap[c.blk]? =some (.mapIter (some d.blk) since seen.toArray last)
 | .mu es=> ∃(ents:Array MapEntry) (ck:Nat),w.heap[c.blk]? =some (.map ents ck)∧MapKept.Stamped ents ck∧(∀e∈ents.toList,∃p∈es,e.key= .int .i64 p.1∧VR σ p.2 e.val)∧∀p∈es,∃e∈ents.toList,e.key= .int .i64 p.1
theorem fH.mono {σ σ':Nm} (hs:Le σ σ') {w w':World} {c:Loc} (hw:w'.heap[c.blk]? =w.heap[c.blk]?) {b:aP} (h:fH σ w c b):fH σ' w' c b:=by
 cases b with
 | cl k cs=>
  obtain ⟨vals,T,h1,h2,h3,hk,h4⟩:=h
  exact ⟨vals,T,by rw [hw];exact h1,h2,h3,hk,fun j x hx=> let ⟨v,a1,a2,a3⟩:=h4 j x hx;⟨v,a1,a2.mono hs,a3⟩⟩
 | it m since seen last=>
  cases m with
  | none=>
   obtain ⟨h1,h2,h3,h4,h5⟩:=h
   exact ⟨h1,h2,h3,h4,by rw [hw];exact h5⟩
  | some m=>
   obtain ⟨d,h1,h2,h3⟩:=h
   exact ⟨d,hs _ _ h1,h2,by rw [hw];exact h3⟩
 | mu es=>
  obtain ⟨ents,ck,h1,h2,h3,h4⟩:=h
  exact ⟨ents,ck,by rw [hw];exact h1,h2,fun e he=> let ⟨p,a1,a2,a3⟩:=h3 e he;⟨p,a1,a2,a3.mono hs⟩,h4⟩
 | mp es bs ck=>
  obtain ⟨ents,h1,h2,hb,h3,h4⟩:=h
  exact ⟨ents,by rw [hw];exact h1,h2,hb,h3,fun j p e hp he=> ⟨(h4 j p e hp he).1.mono hs,(h4 j p e hp he).2.mono hs⟩⟩
structure Base where
 w:World
 F:Nat→Prop
 lt:∀b,F b→b < w.heap.size
 un:fE.P w
 fb:∀b,b < fE.base→F b
def Base.of (w:World) (h:OkW w):Base:=⟨w,fun b=> b < w.heap.size,fun _ h=> h,h.1,fun _ hb=> Nat.lt_of_lt_of_le hb h.2⟩
structure dO (w0:Base) (w:World):Prop where
 os:w.os=w0.w.os
 tape:w.tape=w0.w.tape
 output:w.output=w0.w.output
 size:w0.w.heap.size≤w.heap.size
 block:∀b,w0.F b→w.heap[b]? =w0.w.heap[b]?
theorem dO.to {w w':World} {hu:OkW w} (h:dO (Base.of w hu) w'):Below w.heap.size w w':=⟨h.os,h.tape,h.output,h.size,h.block⟩
theorem dO.okW {w0:Base} {w:World} (h:dO w0 w):OkW w:=by
 refine ⟨fE.st w0.w w w0.un fun b hb=> h.block b (w0.fb b hb),?_⟩
 rcases Nat.eq_zero_or_pos (fE.base:Nat) with e | e
 ·rw [e];exact Nat.zero_le _
 ·have:=w0.lt _ (w0.fb ((fE.base:Nat) - 1) (by omega))
  have:=h.size
  omega
theorem dO.refl (w:World) (hu:OkW w):dO (Base.of w hu) w:=⟨rfl,rfl,rfl,Nat.le_refl _,fun _ _=> rfl⟩
theorem dO.keep {w0:Base} {w w':World} (h:dO w0 w) (hb:Below w.heap.size w w'):dO w0 w':=⟨hb.os.trans h.os,hb.tape.trans h.tape,hb.output.trans h.output,Nat.le_trans h.size hb.size,fun k hk=> (hb.block k (Nat.lt_of_lt_of_le (w0.lt k hk) h.size)).trans (h.block k hk)⟩
structure R (w0:Base) (σ:Nm) (H:Tr aP) (nx:Nat) (w:World):Prop where
 below:dO w0 w
 blk:∀l c b,σ l=some c→H.get l=some b→fH σ w c b
 lo:∀l c,σ l=some c→¬w0.F c.blk∧c.blk < w.heap.size
 sep:∀l l' c c' b b',σ l=some c→σ l'=some c'→H.get l=some b→H.get l'=some b'→c.blk=c'.blk→l=l'
 fresh:∀l c,σ l=some c→l < nx
theorem R.start (w:World) (hu:OkW w):R (Base.of w hu) (fun _=> none) .e 0 w:=⟨.refl _ hu,fun l c b h=> (by cases h),fun l c h=> (by cases h),fun l l' c c' b b' h=> (by cases h),fun l c h=> (by cases h)⟩
theorem R.heap {w0:Base} {w:World} {σ:Nm} {H H':Tr aP} {nx nx':Nat} (h:R w0 σ H nx w) (hn:nx≤nx') (hH:∀l c,σ l=some c→H'.get l=H.get l∨H'.get l=none):R w0 σ H' nx' w:=by
 have up:∀l c b,σ l=some c→H'.get l=some b→H.get l=some b:=fun l c b hl hb=> by
  rcases hH l c hl with e | e
  ·rw [←e];exact hb
  ·rw [e] at hb;cases hb
 exact ⟨h.below,fun l c b hl hb=> h.blk l c b hl (up l c b hl hb),h.lo,fun l l' c c' b b' hl hl' hb hb' e=> h.sep l l' c c' b b' hl hl' (up l c b hl hb) (up l' c' b' hl' hb') e,fun l c hl=> Nat.lt_of_lt_of_le (h.fresh l c hl) hn⟩
theorem R.weak {w0:Base} {w:World} {σ:Nm} {H H':Tr aP} {nx nx':Nat} (h:R w0 σ H nx w) (hn:nx≤nx') (hH:∀l b',H'.get l=some b'→∃b,H.get l=some b∧∀c,fH σ w c b→fH σ w c b'):R w0 σ H' nx' w:=
 ⟨h.below,fun l c b' hl hb=> let ⟨b,h1,h2⟩:=hH l b' hb;h2 c (h.blk l c b hl h1),h.lo,fun l l' c c' b b' hl hl' hb hb' e=> let ⟨_,h1,_⟩:=hH l b hb;let ⟨_,h2,_⟩:=hH l' b' hb';h.sep l l' c c' _ _ hl hl' h1 h2 e,fun l c hl=> Nat.lt_of_lt_of_le (h.fresh l c hl) hn⟩
theorem R.drew {w0:Base} {w:World} {σ:Nm} {H:Tr aP} {nx:Nat} (h:R w0 σ H nx w):R w0 σ H nx w.drew:=
 ⟨⟨h.below.os,h.below.tape,h.below.output,h.below.size,h.below.block⟩,fun l c b hl hb=> (h.blk l c b hl hb).mono (.refl σ) rfl,h.lo,h.sep,h.fresh⟩
theorem R.keep {w0:Base} {w w':World} {σ:Nm} {H:Tr aP} {nx:Nat} (h:R w0 σ H nx w) (hb:Below w.heap.size w w'):R w0 σ H nx w':=
 ⟨h.below.keep hb,fun l c b hl hb2=> (h.blk l c b hl hb2).mono (.refl σ) (hb.block _ (h.lo l c hl).2),fun l c hl=> ⟨(h.lo l c hl).1,Nat.lt_of_lt_of_le (h.lo l c hl).2 hb.size⟩,h.sep,h.fresh⟩
theorem R.upd {w0:Base} {w w':World} {σ:Nm} {H:Tr aP} {nx l:Nat} {c:Loc} {b b':aP} (h:R w0 σ H nx w) (hl:σ l=some c) (hH:H.get l=some b) (ho:w'.os=w.os) (ht:w'.tape=w.tape) (hp:w'.output=w.output) (hsz:w'.heap.size=w.heap.size)
  (hw:∀k,k≠c.blk→w'.heap[k]? =w.heap[k]?) (hb:fH σ w' c b'):R w0 σ (H.put l b') nx w':=by
 have hlo:=h.lo l c hl
 refine ⟨⟨by rw [ho];exact h.below.os,by rw [ht];exact h.below.tape,by rw [hp];exact h.below.output,by rw [hsz];exact h.below.size,fun k hk=> by rw [hw k (fun e=> hlo.1 (e ▸ hk))];exact h.below.block k hk⟩,fun l' c' b2 hl' hb2=> ?_,fun l' c' hl'=> by rw [hsz];exact h.lo l' c' hl',fun l1 l2 c1 c2 b1 b2 h1 h2 g1 g2 e=> ?_,h.fresh⟩
 ·rw [get_put] at hb2
  by_cases he:l'=l
  ·subst he
   rw [if_pos rfl] at hb2
   injection hb2 with hb2
   subst hb2
   rw [hl] at hl'
   injection hl' with hl'
   subst hl'
   exact hb
  ·rw [if_neg he] at hb2
   exact (h.blk l' c' b2 hl' hb2).mono (.refl σ) (hw _ fun e=> he (h.sep l' l c' c b2 b hl' hl hb2 hH e))
 ·have up:∀l1 b1,(H.put l b').get l1=some b1→∃b2,H.get l1=some b2:=by
   intro l1 b1 g
   rw [get_put] at g
   by_cases he:l1=l
   ·subst he;exact ⟨b,hH⟩
   ·rw [if_neg he] at g;exact ⟨b1,g⟩
  obtain ⟨_,g1⟩:=up l1 b1 g1
  obtain ⟨_,g2⟩:=up l2 b2 g2
  exact h.sep l1 l2 c1 c2 _ _ h1 h2 g1 g2 e
def um (σ:Nm) (l:Nat) (c:Loc):Nm:=fun j=> if j=l then some c else σ j
theorem jS (σ:Nm) (l:Nat) (c:Loc):um σ l c l=some c:=if_pos rfl
theorem lu (σ:Nm) {l j:Nat} (c:Loc) (h:j≠l):um σ l c j=σ j:=if_neg h
theorem jg {σ:Nm} {l:Nat} (c:Loc) (h:σ l=none):Le σ (um σ l c):=fun j x hj=> by
 rw [lu σ c fun e=> by rw [e,h] at hj;cases hj]
 exact hj
theorem R.name {w0:Base} {w w':World} {σ:Nm} {H H':Tr aP} {nx nx' l:Nat} {c:Loc} {b:aP} (h:R w0 σ H nx w) (hl:σ l=none) (hlt:l < nx') (hn:nx≤nx') (hH:H'.get l=some b) (hH':∀j,j≠l→H'.get j=H.get j)
  (ho:w'.os=w.os) (ht:w'.tape=w.tape) (hp:w'.output=w.output) (hsz:w.heap.size≤w'.heap.size) (hlo:¬w0.F c.blk∧c.blk < w'.heap.size)
  (hw:∀k,k < w.heap.size→k≠c.blk→w'.heap[k]? =w.heap[k]?) (hfree:∀l' c' b',σ l'=some c'→H.get l'=some b'→c'.blk≠c.blk) (hb:fH (um σ l c) w' c b):R w0 (um σ l c) H' nx' w':=by
 have hle:Le σ (um σ l c):=jg c hl
 have old:∀l' c',um σ l c l'=some c'→(l'=l∧c'=c)∨(l'≠l∧σ l'=some c'):=by
  intro l' c' h'
  by_cases he:l'=l
  ·subst he
   rw [jS] at h'
   injection h' with h'
   exact Or.inl ⟨rfl,h'.symm⟩
  ·rw [lu σ c he] at h'
   exact Or.inr ⟨he,h'⟩
 refine ⟨⟨by rw [ho];exact h.below.os,by rw [ht];exact h.below.tape,by rw [hp];exact h.below.output,Nat.le_trans h.below.size hsz,fun k hk=> by rw [hw k (Nat.lt_of_lt_of_le (w0.lt k hk) h.below.size) (fun e=> hlo.1 (e ▸ hk))];exact h.below.block k hk⟩,fun l' c' b2 hl' hb2=> ?_,fun l' c' hl'=> ?_,fun l1 l2 c1 c2 b1 b2 h1 h2 g1 g2 e=> ?_,fun l' c' hl'=> ?_⟩
 ·rcases old l' c' hl' with ⟨rfl,rfl⟩ | ⟨hne,hl'⟩
  ·rw [hH] at hb2
   injection hb2 with hb2
   subst hb2
   exact hb
  ·rw [hH' l' hne] at hb2
   exact (h.blk l' c' b2 hl' hb2).mono hle (hw _ (h.lo l' c' hl').2 (hfree l' c' b2 hl' hb2))
 ·rcases old l' c' hl' with ⟨rfl,rfl⟩ | ⟨hne,hl'⟩
  ·exact hlo
  ·exact ⟨(h.lo l' c' hl').1,Nat.lt_of_lt_of_le (h.lo l' c' hl').2 hsz⟩
 ·rcases old l1 c1 h1 with ⟨e1,e1'⟩ | ⟨hne1,k1⟩ <;> rcases old l2 c2 h2 with ⟨e2,e2'⟩ | ⟨hne2,k2⟩
  ·rw [e1,e2]
  ·rw [hH' l2 hne2] at g2
   exact absurd (by rw [←e,e1']) (hfree l2 c2 b2 k2 g2)
  ·rw [hH' l1 hne1] at g1
   exact absurd (by rw [e,e2']) (hfree l1 c1 b1 k1 g1)
  ·rw [hH' l1 hne1] at g1
   rw [hH' l2 hne2] at g2
   exact h.sep l1 l2 c1 c2 b1 b2 k1 k2 g1 g2 e
 ·rcases old l' c' hl' with ⟨rfl,rfl⟩ | ⟨_,hl'⟩
  ·exact hlt
  ·exact Nat.lt_of_lt_of_le (h.fresh l' c' hl') hn
theorem R.new {w0:Base} {w:World} {σ:Nm} {H H':Tr aP} {nx nx' l:Nat} {room:Nat} {b:aP} (h:R w0 σ H nx w) (hl:σ l=none) (hlt:l < nx') (hn:nx≤nx') (hH:H'.get l=some b) (hH':∀j,j≠l→H'.get j=H.get j) (o:Obj)
  (hb:fH (um σ l ⟨w.heap.size,0,room⟩) (w.alloc o) ⟨w.heap.size,0,room⟩ b):R w0 (um σ l ⟨w.heap.size,0,room⟩) H' nx' (w.alloc o):=by
 refine h.name hl hlt hn hH hH' rfl rfl rfl (by simp) ⟨fun hF=> Nat.lt_irrefl _ (Nat.lt_of_lt_of_le (w0.lt _ hF) h.below.size),by simp⟩ (fun k hk _=> ?_) (fun l' c' b' hl' _ e=> ?_) hb
 ·have:(w.alloc o).heap=w.heap.push o:=rfl
  rw [this,Array.getElem?_push_lt hk,Array.getElem?_eq_getElem hk]
 ·have:=(h.lo l' c' hl').2
  have e:c'.blk=w.heap.size:=e
  omega
theorem R.cells {w0:Base} {w:World} {σ:Nm} {H:Tr aP} {nx l o:Nat} {c:Loc} {cs:List CV} (h:R w0 σ H nx w) (hl:σ l=some c) (hH:ql H l o=some cs):∃(all:List CV) (vals:Array Value) (T:TypeId) (vs:List Value),(∃k,H.get l=some (.cl k all))∧cs=all.drop o∧w.heap[c.blk]? =some (.cells vals T (0,0))∧all.length≤c.room∧c.off + c.room=vals.size∧
  fU σ cs vs∧(∀x∈cs,iQ x=true)∧∀(j:Nat) (v:Value),vs[j]? =some v→w.cell? ⟨c.blk,c.off + (o + j),none⟩=some v:=by
 unfold ql cellsOf at hH
 obtain ⟨all,h0,h2⟩:=aj hH
 obtain ⟨b,h1,h3⟩:=aj h0
 injection h2 with h2
 cases b with
 | mp es=> cases h3
 | it=> cases h3
 | mu=> cases h3
 | cl kd xs=>
  injection h3 with h3
  subst h3
  rw [lM] at h2
  subst h2
  obtain ⟨vals,T,a1,a2,a3,_,a4⟩:=h.blk l c _ hl h1
  have hcell:∀j,w.cell? ⟨c.blk,j,none⟩=vals[j]? :=fun j=> cell_of_row _ _ _ vals T (0,0) a1
  refine ⟨xs,vals,T,(List.range (xs.drop o).length).map (fun j=> vals.getD (c.off + (o + j)) undef),⟨kd,h1⟩,rfl,a1,a2,a3,⟨by simp,fun j x v hx hv=> ?_⟩,fun u hu=> ?_,fun j v hv=> ?_⟩
  ·rw [List.getElem?_drop] at hx
   obtain ⟨u,b1,b2,b3⟩:=a4 _ x hx
   rw [List.getElem?_map] at hv
   cases hr:(List.range (xs.drop o).length)[j]? with
   | none=> rw [hr] at hv;cases hv
   | some q=>
    rw [hr] at hv
    injection hv with hv
    have hq:q=j:=by
     have:=List.getElem?_eq_some_iff.1 hr
     obtain ⟨q1,q2⟩:=this
     simp at q2
     exact q2.symm
    subst hq
    have hv:vals.getD (c.off + (o + q)) undef=v:=hv
    rw [Array.getD_eq_getD_getElem?,b1] at hv
    subst hv
    exact b2
  ·obtain ⟨j,hj,rfl⟩:=List.getElem_of_mem hu
   have hlt:o + j < xs.length:=by simp at hj;omega
   obtain ⟨u,b1,b2,b3⟩:=a4 _ _ (List.getElem?_eq_getElem hlt)
   rw [List.getElem_drop]
   exact b3
  ·rw [List.getElem?_map] at hv
   cases hr:(List.range (xs.drop o).length)[j]? with
   | none=> rw [hr] at hv;cases hv
   | some q=>
    rw [hr] at hv
    injection hv with hv
    obtain ⟨q1,q2⟩:=List.getElem?_eq_some_iff.1 hr
    have hq:q=j:=by simp at q2;exact q2.symm
    subst hq
    have hlt:o + q < xs.length:=by simp at q1;omega
    obtain ⟨u,b1,b2,b3⟩:=a4 _ _ (List.getElem?_eq_getElem hlt)
    have hv:vals.getD (c.off + (o + q)) undef=v:=hv
    rw [Array.getD_eq_getD_getElem?,b1] at hv
    subst hv
    rw [hcell]
    exact b1
theorem fU.ones {σ:Nm} {cs:List CV} {vs:List Value} (h:fU σ cs vs) (h1:∀c∈cs,iQ c=true):∀u∈vs,u.oneCell'=true:=fun u hu=> by
 obtain ⟨j,hj,rfl⟩:=List.getElem_of_mem hu
 have hlt:j < cs.length:=by rw [←h.1];exact hj
 exact (h.2 j cs[j] _ (List.getElem?_eq_getElem hlt) (List.getElem?_eq_getElem hj)).one (h1 _ (List.getElem_mem hlt))
end Ci
namespace Ci
open Go.RowKit
variable [fE]
section
variable {P : Program} {o : Oper} {a : Act} {w w' : World} {K : Act → World → Prop} {Q : Exit → Act → World → Prop}
theorem iU {x:Value} (h:(execOp a.eval o).run P w= .ok (.value x) w') (hk:K (a.put o.dst x) w'):o.wp P a w K Q:=by
 unfold Oper.wp
 rw [h]
 exact hk
theorem Sv (h:(execOp a.eval o).run P w= .ok .skip w') (hk:K (a.put o.dst undef) w'):o.wp P a w K Q:=by
 unfold Oper.wp
 rw [h]
 exact hk
end
theorem afr {P:Program} {t:TypeId} {d:TypeDesc} (h:und P t=some d) (w:World):(underlying t).run P w= .ok d w:=run_underlying h w
theorem iO {P:Program} {t:TypeId} {z:Nat} (h:GV P t=some z) (w:World):(sizeOf t).run P w= .ok z w:=by
 obtain ⟨i,hi,h⟩:=aj h
 injection h with h
 simp [sizeOf,typeInfo,hi,h]
theorem Jc {P:Program} {t:TypeId} {d:TypeDesc} (h:und P t=some d) (w:World):(isAgg t).run P w= .ok (afc d) w:=by
 unfold isAgg
 rw [Sem.run_bind,afr h w]
 cases d <;> rfl
theorem VX {P:Program} {σ:Nm} {t:TypeId} {cs:List CV} {vs:Array Value} {off:Nat} {v:CV} (hr:fU σ cs vs.toList) (h1:∀c∈cs,iQ c=true) (h:ld P t (cs.drop off)=some v) (w:World):∃x,(part t vs off).run P w= .ok x w∧VR σ v x:=by
 unfold ld at h
 obtain ⟨d,hd,h⟩:=aj h
 have ha:=Jc hd w
 cases hg:afc d with
 | true=>
  rw [hg] at h ha
  obtain ⟨z,hz,h⟩:=aj (show ob (GV P t) _=some v from h)
  obtain ⟨hle,h⟩:=aC h
  injection h with h
  subst h
  rw [kF]
  have hle:=aN hle
  rw [len_eq] at hle
  refine ⟨.agg (vs.extract off (off + z)),by simp [part,ha,iO hz w],?_⟩
  have:=(hr.drop off).take z
  have e:(vs.extract off (off + z))=((vs.toList.drop off).take z).toArray:=by
   apply Array.ext'
   simp
  rw [e]
  exact .KN this fun c hc=> h1 c (List.mem_of_mem_drop (List.mem_of_mem_take hc))
 | false=>
  rw [hg] at h ha
  have h:nth (cs.drop off) 0=some v:=h
  rw [iE,List.getElem?_drop] at h
  obtain ⟨x,hx,hv⟩:=hr.get h
  refine ⟨x,?_,hv⟩
  have:vs[off]? =some x:=by simpa using hx
  simp [part,ha,this]
theorem KO {P:Program} {σ:Nm} {t:TypeId} {cs:List CV} {vs:List Value} {b q:Nat} {v:CV} {w:World} (hr:fU σ cs vs) (h1:∀c∈cs,iQ c=true) (hc:∀(j:Nat) (u:Value),vs[j]? =some u→w.cell? ⟨b,q + j,none⟩=some u) (h:ld P t cs=some v):
  ∃x,(Instr.loadAt t (.pointer (some ⟨b,q,none⟩))).run P w= .ok x w∧VR σ v x∧(iQ v=true→x.oneCell'=true):=by
 unfold ld at h
 obtain ⟨d,hd,h⟩:=aj h
 have ha:=Jc hd w
 cases hg:afc d with
 | true=>
  rw [hg] at h ha
  obtain ⟨z,hz,h⟩:=aj (show ob (GV P t) _=some v from h)
  obtain ⟨hle,h⟩:=aC h
  injection h with h
  subst h
  rw [kF]
  have hle:=aN hle
  rw [len_eq] at hle
  have hl:(vs.take z).length=z:=by simp [hr.1];omega
  have hload:(loadCells ⟨b,q,none⟩ z).run P w= .ok (vs.take z).toArray w:=by
   have:=run_loadCells_list (P:=P) (w:=w) (a:=⟨b,q,none⟩) (vs.take z) fun j u hu=> by
    rw [add_eq]
    rw [List.getElem?_take] at hu
    split at hu
    ·exact hc j u hu
    ·cases hu
   rw [hl] at this
   exact this
  exact ⟨.agg (vs.take z).toArray,by simp [Instr.loadAt,Instr.sureAddr,loadVar,ha,iO hz w,hload],.KN (hr.take z) fun c hc=> h1 c (List.mem_of_mem_take hc),fun h=> by cases h⟩
 | false=>
  rw [hg] at h ha
  have h:nth cs 0=some v:=h
  rw [iE] at h
  obtain ⟨x,hx,hv⟩:=hr.get h
  have:=hc 0 x hx
  rw [Nat.add_zero] at this
  exact ⟨x,by simp [Instr.loadAt,Instr.sureAddr,loadVar,ha,this],hv,hv.one⟩
section
variable {P : Program} {σ : Nm} {E : Tr CV} {ρ : Operand → Value} {w : World}
def yg (σ:Nm) (E:Tr CV) (ρ:Operand→Value) (xs:Array Operand):Prop:=∀x∈xs,∀c,ev E x=some c→VR σ c (ρ x)
theorem tu:∀(xs:List Operand) {cs:List CV},(∀x∈xs,∀c,ev E x=some c→VR σ c (ρ x))→Y5 E xs=some cs→fU σ cs (xs.map ρ)
 | [],cs,_,h=> by
  injection h with h
  subst h
  exact .nil σ
 | x::xs,cs,hev,h=> by
  obtain ⟨c,h1,h⟩:=aj (show ob (ev E x) _=some cs from h)
  obtain ⟨cs',h2,h⟩:=aj h
  injection h with h
  subst h
  exact .cons (hev x (by simp) c h1) (tu xs (fun y hy=> hev y (by simp [hy])) h2)
theorem VY:∀(xs:List (Nat×Operand)) {cs:List (Nat×CV)},(∀q∈xs,∀c,ev E q.2=some c→VR σ c (ρ q.2))→evP E xs=some cs→
  cs.map (·.1)=xs.map (·.1)∧fU σ (cs.map (·.2)) (xs.map fun q=> ρ q.2)∧∀q∈cs,∀l,q.2≠ .bH l∨True
 | [],cs,_,h=> by
  injection h with h
  subst h
  exact ⟨rfl,.nil σ,fun q hq=> by simp at hq⟩
 | q::xs,cs,hev,h=> by
  obtain ⟨c,h1,h⟩:=aj (show ob (ev E q.2) _=some cs from h)
  obtain ⟨cs',h2,h⟩:=aj h
  injection h with h
  subst h
  obtain ⟨k1,k2,k3⟩:=VY xs (fun y hy=> hev y (by simp [hy])) h2
  exact ⟨by simp [k1],.cons (hev q (by simp) c h1) k2,fun _ _ _=> Or.inr trivial⟩
theorem vw {t:TypeId} {n:Nat} (h:isStr P t=some n):P.underlying t=some .string:=by
 obtain ⟨d,hd,h⟩:=aj h
 cases d <;> first | exact hd | cases h
theorem jA {t e:TypeId} (h:X7 P t=some e):P.underlying t=some (.slice e):=by
 obtain ⟨d,hd,h⟩:=aj h
 cases d with
 | slice x=>
  injection h with h
  subst h
  exact hd
 | _=> cases h
theorem Dx {β:Type} {t:TypeId} {f:Nat→TypeId→Option β} {r:β} (h:arT P t f=some r):∃n e,P.underlying t=some (.array n e)∧f n e=some r:=by
 obtain ⟨d,hd,h⟩:=aj h
 cases d with
 | array n e=> exact ⟨n,e,hd,h⟩
 | _=> cases h
theorem P5 {β:Type} {t:TypeId} {f:Array Field→Option β} {r:β} (h:stT P t f=some r):∃fs,P.underlying t=some (.struct fs)∧f fs=some r:=by
 obtain ⟨d,hd,h⟩:=aj h
 cases d with
 | struct fs=> exact ⟨fs,hd,h⟩
 | _=> cases h
theorem wV {β:Type} {t:TypeId} {f:TypeId→TypeId→Option β} {r:β} (h:mpT P t f=some r):∃k e,P.underlying t=some (.map k e)∧f k e=some r:=by
 obtain ⟨d,hd,h⟩:=aj h
 cases d with
 | map k e=> exact ⟨k,e,hd,h⟩
 | _=> cases h
theorem VR.pv {l o:Nat} {v:Value} (h:VR σ (.p l o) v):∃c,σ l=some c∧v= .pointer (some ⟨c.blk,c.off + o,none⟩):=by
 cases h with
 | p _ h=> exact ⟨_,h,rfl⟩
theorem VR.sv {l o n:Nat} {k:Cp} {v:Value} (h:VR σ (.s l o n k) v):∃c,σ l=some c∧∃A cap,v= .slice (some A) n cap∧n≤cap∧(A=⟨c.blk,c.off + o,none⟩∨(n=0∧cap=0))∧(∀m,k= .kn m→cap=m)∧∀z q,k= .op z q→(o + cap * z≤c.room∨cap=0)∧cap≤maxLen∧q≤cap:=by
 cases h with
 | sk _ _ m h hn=> exact ⟨_,h,_,_,rfl,hn,Or.inl rfl,fun k e=> (by injection e),fun z q e=> (by cases e)⟩
 | so _ _ z q m h hn hq hk hm=> exact ⟨_,h,_,_,rfl,hn,Or.inl rfl,fun k e=> (by cases e),fun z q e=> (by injection e with e e';subst e e';exact ⟨Or.inl hk,hm,hq⟩)⟩
 | s0 _ _ _ h hk hz=> exact ⟨_,h,_,_,rfl,Nat.le_refl _,Or.inr ⟨rfl,rfl⟩,fun m e=> (hk m e).symm,fun z q e=> ⟨Or.inr rfl,Nat.zero_le _,Nat.le_of_eq (hz z q e)⟩⟩
theorem akm {c x y:Operand} {v:CV} (hev:yg σ E ρ #[c,x,y]) (h:ah9 E c x y=some v):∃u,(do pure (.value (if←asBool (ρ c) then ρ x else ρ y)):Sem Next).run P w= .ok (.value u) w∧VR σ v u:=by
 obtain ⟨b,h1,h⟩:=aj h
 obtain ⟨t,rfl,h⟩:=rJ h
 have hb:=(hev c (by simp) _ h1).val
 cases t with
 | true=> exact ⟨ρ x,by simp [hb,asBool],hev x (by simp) _ h⟩
 | false=> exact ⟨ρ y,by simp [hb,asBool],hev y (by simp) _ h⟩
theorem akn {w0:Base} {H:Tr aP} {nx:Nat} (hs:R w0 σ H nx w) {t:TypeId} {x:Operand} {v:CV} (hev:yg σ E ρ #[x]) (h:aia P E H t x=some v):∃u,(Instr.loadAt t (ρ x)).run P w= .ok u w∧VR σ v u:=by
 obtain ⟨c,h1,h⟩:=aj h
 cases c with
 | u k=>
  obtain ⟨b,h2,h3⟩:=aj (show ob (wL k) (fun b=> ld P t [.v (.bool b)])=some v from h)
  obtain ⟨e,hk⟩:=(hev x (by simp) _ h1).uv
  obtain ⟨bl,q,e1,e2⟩:=fE.p k b hk h2
  rw [e,e1]
  obtain ⟨u,h4,h5,_⟩:=KO (P:=P) (σ:=σ) (w:=w) (b:=bl) (q:=q) (cs:= [.v (.bool b)]) (vs:= [.bool b]) (.cons (.v _ rfl) (.nil σ)) (fun c hc=> by rw [List.mem_singleton.1 hc];rfl) (fun j u hu=> by
   match j,hu with
   | 0,hu=>
    injection hu with hu
    subst hu
    exact e2 w hs.below.okW.1) h3
  exact ⟨u,h4,h5⟩
 | p l o=>
  obtain ⟨cs,h2,h⟩:=aj (show ob (ql H l o) (fun cs=> ld P t cs)=some v from h)
  obtain ⟨c,hc,e⟩:=(hev x (by simp) _ h1).pv
  obtain ⟨all,vals,T,vs,_,_,_,_,_,hr,hone,hcell⟩:=hs.cells hc h2
  rw [e]
  obtain ⟨u,h3,h4,_⟩:=KO (P:=P) hr hone (fun j u hu=> by rw [Nat.add_assoc];exact hcell j u hu) h
  exact ⟨u,h3,h4⟩
 | _=> cases h
theorem afs {t:TypeId} {x:Operand} {i:Nat} {v:CV} (hev:yg σ E ρ #[x]) (h:abD P E t x i=some v):∃u,(Instr.fieldAt t (ρ x) i).run P w= .ok u w∧VR σ v u:=by
 obtain ⟨c,h1,h⟩:=aj h
 obtain ⟨l,o,rfl,h⟩:=rG h
 obtain ⟨c,hc,e⟩:=(hev x (by simp) _ h1).pv
 obtain ⟨fs,hu,h⟩:=P5 h
 obtain ⟨f,hf,h⟩:=aj h
 obtain ⟨z,hz,h⟩:=aj h
 obtain ⟨h2,h⟩:=aC h
 injection h with h
 subst h
 have h2:=aN h2
 have hz0:z≠0:=by omega
 refine ⟨.pointer (some ⟨c.blk,c.off + (o + f.offset),none⟩),?_,.p _ hc⟩
 rw [e]
 simp [Instr.fieldAt,run_underlying hu,hf,Instr.sureAddr,fieldPlace,iO hz w,hz0,add_eq,Nat.add_assoc]
theorem aft {t:TypeId} {x i:Operand} {v:CV} (hev:yg σ E ρ #[x,i]) (h:abE P E t x i=some v):∃u,(Instr.indexAt t (ρ x) (ρ i)).run P w= .ok u w∧VR σ v u:=by
 obtain ⟨c,h1,h⟩:=aj h
 obtain ⟨ci,h2,h⟩:=aj h
 obtain ⟨k,j,rfl,h⟩:=mX h
 have hi:=(hev i (by simp) _ h2).val
 have hx:=hev x (by simp) _ h1
 cases c with
 | s l o n kp=>
  obtain ⟨e,he,h⟩:=aj h
  obtain ⟨z,hz,h⟩:=aj h
  obtain ⟨hj,h⟩:=aC h
  injection h with h
  subst h
  have hj:=aN hj
  obtain ⟨c,hc,A,cap,hA,_,hA2,_⟩:=hx.sv
  have hA2:A=⟨c.blk,c.off + o,none⟩:=hA2.elim id fun h=> by omega
  subst hA2
  have hu:=jA he
  refine ⟨.pointer (some ⟨c.blk,c.off + (o + j * z),none⟩),?_,.p _ hc⟩
  rw [hA,hi]
  have h3:(0:Int)≤Int.ofNat j∧Int.ofNat j < n:=⟨Int.natCast_nonneg j,by show (j:Int) < n;omega⟩
  simp only [Instr.indexAt,asIntOf,Sem.run_bind,Sem.run_pure,Result.andThen_ok,run_underlying hu,if_pos h3,iO hz w]
  simp [add_eq,Nat.add_assoc]
 | p l o=>
  obtain ⟨n,e,hu,h⟩:=Dx h
  obtain ⟨z,hz,h⟩:=aj h
  obtain ⟨hj,h⟩:=aC h
  injection h with h
  subst h
  have hj:=aN hj
  obtain ⟨c,hc,hA⟩:=hx.pv
  refine ⟨.pointer (some ⟨c.blk,c.off + (o + j * z),none⟩),?_,.p _ hc⟩
  rw [hA,hi]
  have h3:(0:Int)≤Int.ofNat j∧Int.ofNat j < n:=⟨Int.natCast_nonneg j,by show (j:Int) < n;omega⟩
  simp only [Instr.indexAt,asIntOf,Sem.run_bind,Sem.run_pure,Result.andThen_ok,run_underlying hu,Instr.sureAddr,if_pos h3,iO hz w]
  simp [add_eq,Nat.add_assoc]
 | u q=>
  obtain ⟨e,he,h⟩:=aj h
  obtain ⟨z,hz,h⟩:=aj h
  obtain ⟨hz1,h⟩:=aC h
  obtain ⟨k2,h4,h5⟩:=aj h
  injection h5 with h5
  subst h5
  have hz1:=ay hz1
  subst hz1
  obtain ⟨e1,hq⟩:=hx.uv
  obtain ⟨hk,b,o,n,c,a1,a2,a3⟩:=fE.a q j k2 hq h4
  have hu:=jA he
  refine ⟨_,?_,.u k2 hk⟩
  rw [e1,hi,a1,a3]
  have h3:(0:Int)≤Int.ofNat j∧Int.ofNat j < n:=⟨Int.natCast_nonneg j,by show (j:Int) < n;omega⟩
  simp only [Instr.indexAt,asIntOf,Sem.run_bind,Sem.run_pure,Result.andThen_ok,run_underlying hu,if_pos h3,iO hz w]
  simp [add_eq]
 | _=> cases h
end
end Ci
namespace Ci
open Go.RowKit
variable [fE]
theorem abY {β:Type} (n:Int) (f:Int→β):now n f=f n:=by
 cases n with
 | ofNat m=> cases m <;> rfl
 | negSucc m=> cases m <;> rfl
theorem aqW (k:IntKind) (n:Int):I k n=some (.v (.int k n)):=abY n _
theorem afu (b:Bool):B b=some (.v (.bool b)):=by cases b <;> rfl
theorem mZ {a b:IntKind} (h:KC a b=true):a=b:=by
 cases a <;> cases b <;> first | rfl | (exact absurd h (by decide))
theorem rM (a b:Int):ieq a b=decide (a=b):=by
 cases a <;> cases b <;> simp only [ieq]
 ·rename_i m n
  cases h:Nat.beq m n with
  | true=> rw [ay h];exact (decide_eq_true rfl).symm
  | false=> exact (decide_eq_false fun e=> Nat.ne_of_beq_eq_false h (Int.ofNat.inj e)).symm
 ·exact (decide_eq_false (by intro h;cases h)).symm
 ·exact (decide_eq_false (by intro h;cases h)).symm
 ·rename_i m n
  cases h:Nat.beq m n with
  | true=> rw [ay h];exact (decide_eq_true rfl).symm
  | false=> exact (decide_eq_false fun e=> Nat.ne_of_beq_eq_false h (Int.negSucc.inj e)).symm
theorem AQ (a b:Nat):Nat.ble a b=decide (a≤b):=by
 cases h:Nat.ble a b with
 | true=> exact (decide_eq_true (aN h)).symm
 | false=> exact (decide_eq_false fun e=> by rw [Nat.ble_eq_true_of_le e] at h;cases h).symm
theorem KP (a b:Int):X6 a b=decide (a < b):=by
 cases a with
 | ofNat m=>
  cases b with
  | ofNat n=>
   show Nat.ble (m + 1) n=_
   rw [AQ]
   exact decide_eq_decide.2 (by show m + 1≤n↔(m:Int) < n;omega)
  | negSucc n=> exact (decide_eq_false (by show ¬(m:Int) < Int.negSucc n;omega)).symm
 | negSucc m=>
  cases b with
  | ofNat n=> exact (decide_eq_true (by show Int.negSucc m < (n:Int);omega)).symm
  | negSucc n=>
   show Nat.ble (n + 1) m=_
   rw [AQ]
   exact decide_eq_decide.2 (by omega)
theorem abZ (k:IntKind) (n:Int):VJ k n=k.wrap n:=by
 cases k with
 | i64=>
  show ah4 n=_
  have h:∀m:Int,-4611686018427387905≤m→m≤4611686018427387904→IntKind.i64.wrap m=m:=by
   intro m h1 h2
   rw [IntKind.wrap_i64]
   omega
  cases n with
  | ofNat m=>
   show (bif Nat.ble m 4611686018427387904 then Int.ofNat m else IntKind.i64.wrap (Int.ofNat m))=_
   cases hb:Nat.ble m 4611686018427387904 with
   | false=> exact cond_false _ _
   | true=>
    have:=aN hb
    have e:=h (Int.ofNat m) (by show (-4611686018427387905:Int)≤(m:Int);omega) (by show (m:Int)≤4611686018427387904;omega)
    rw [e]
    exact cond_true _ _
  | negSucc m=>
   show (bif Nat.ble m 4611686018427387904 then Int.negSucc m else IntKind.i64.wrap (Int.negSucc m))=_
   cases hb:Nat.ble m 4611686018427387904 with
   | false=> exact cond_false _ _
   | true=>
    have:=aN hb
    have e:=h (Int.negSucc m) (by omega) (by omega)
    rw [e]
    exact cond_true _ _
 | _=> rfl
theorem KR:∀{m n:List Nat},yR m n=true→m=n
 | [],[],_=> rfl
 | [],_::_,h=> by cases h
 | _::_,[],h=> by cases h
 | a::l,b::r,h=> by
  simp only [yR] at h
  cases hb:Nat.beq a b with
  | false=> rw [hb] at h;cases h
  | true=>
   rw [hb] at h
   rw [ay hb,KR h]
theorem yS:∀(m:List Nat),yR m m=true
 | []=> rfl
 | a::l=> by simp only [yR,Nat.beq_refl,cond_true,yS l]
theorem ofNat_inj {a b:Nat} (ha:a < 256) (hb:b < 256) (h:UInt8.ofNat a=UInt8.ofNat b):a=b:=by
 have:=congrArg UInt8.toNat h
 simpa [Nat.mod_eq_of_lt ha,Nat.mod_eq_of_lt hb] using this
theorem map_inj:∀{m n:List Nat},(∀b∈m,b < 256)→(∀b∈n,b < 256)→m.map UInt8.ofNat=n.map UInt8.ofNat→m=n
 | [],[],_,_,_=> rfl
 | [],_::_,_,_,h=> by cases h
 | _::_,[],_,_,h=> by cases h
 | a::l,b::r,hm,hn,h=> by
  injection h with h1 h2
  rw [ofNat_inj (hm a (by simp)) (hn b (by simp)) h1,map_inj (fun x hx=> hm x (by simp [hx])) (fun x hx=> hn x (by simp [hx])) h2]
theorem ab1 {m n:List Nat} (hm:∀b∈m,b < 256) (hn:∀b∈n,b < 256):(m.map UInt8.ofNat==n.map UInt8.ofNat)=yR m n:=by
 cases h:yR m n with
 | true=> rw [KR h];exact beq_self_eq_true _
 | false=>
  cases h2:(m.map UInt8.ofNat==n.map UInt8.ofNat) with
  | false=> rfl
  | true=>
   have:=map_inj hm hn (eq_of_beq h2)
   subst this
   rw [yS] at h
   cases h
theorem VZ:∀{m n:List Nat},(∀b∈m,b < 256)→(∀b∈n,b < 256)→Op.bytesLess (m.map UInt8.ofNat) (n.map UInt8.ofNat)=Tf m n
 | [],[],_,_=> rfl
 | [],_::_,_,_=> rfl
 | _::_,[],_,_=> rfl
 | a::l,b::r,hm,hn=> by
  have ih:=VZ (m:=l) (n:=r) (fun x hx=> hm x (by simp [hx])) (fun x hx=> hn x (by simp [hx]))
  have ha:=hm a (by simp)
  have hb:=hn b (by simp)
  simp only [List.map_cons,Op.bytesLess,Tf,ih]
  have e1:(UInt8.ofNat a==UInt8.ofNat b)=Nat.beq a b:=by
   cases h:Nat.beq a b with
   | true=> rw [ay h];exact beq_self_eq_true _
   | false=>
    have hne:=Nat.ne_of_beq_eq_false h
    exact beq_eq_false_iff_ne.2 fun e=> hne (ofNat_inj ha hb e)
  have e2:(decide (UInt8.ofNat a < UInt8.ofNat b))=Nat.ble (Nat.succ a) b:=by
   rw [AQ]
   refine decide_eq_decide.2 ?_
   rw [UInt8.lt_iff_toNat_lt]
   simp [Nat.mod_eq_of_lt ha,Nat.mod_eq_of_lt hb]
   omega
  rw [e1,e2]
  cases h:Nat.beq a b with
  | true=>
   have:Nat.ble (Nat.succ a) b=false:=by
    rw [AQ]
    have:=ay h
    exact decide_eq_false (by omega)
   rw [this]
   simp
  | false=> simp
section
variable {P : Program} {σ : Nm} {E : Tr CV} {ρ : Operand → Value} {w : World}
theorem iy (op:BinOp) (t:TypeId) (x y:Operand) {a b:Value} (h1:a≠ .nilIface) (h2:∀c,a≠ .agg c):(eqGuard op t x y a b).run P w= .ok () w:=by
 cases op <;> first
  | rfl
  | (cases a <;> first
    | rfl
    | exact absurd rfl h1
    | exact absurd rfl (h2 _))
theorem afv {op:BinOp} {t:TypeId} {x y:Operand} {k:IntKind} {m n:Int} {other:Option CV} {v:CV} (h:Ti op k m n other=some v):
  (∃u,(do eqGuard op t x y (.int k m) (.int k n);binOp op t (.int k m) (.int k n)).run P w= .ok u w∧VR σ v u)∨other=some v:=by
 have hg:=iy (P:=P) (w:=w) op t x y (a:= .int k m) (b:= .int k n) (by intro h;cases h) (by intro c h;cases h)
 cases op <;> first
  | exact Or.inr h
  | skip
 all_goals
  left
  first
   | (rw [Ti,aqW] at h
      injection h with h
      subst h
      rw [abZ]
      refine ⟨_,?_,.v _ rfl⟩
      rw [Sem.run_bind,hg]
      simp [binOp,Op.intArith]
      try rfl)
   | (rw [Ti,afu] at h
      injection h with h
      subst h
      refine ⟨_,?_,.v _ rfl⟩
      rw [Sem.run_bind,hg]
      simp only [rM,KP,Result.andThen_ok]
      simp [binOp,Op.intCmp]
      done)
   | (rw [Ti,afu] at h
      injection h with h
      subst h
      refine ⟨_,?_,.v _ rfl⟩
      rw [Sem.run_bind,hg]
      simp only [rM,KP,Result.andThen_ok]
      simp [binOp,Op.intCmp]
      first
       | rfl
       | (rw [←decide_not];exact decide_eq_decide.2 (by omega)))
theorem afw {op:BinOp} {t:TypeId} {x y:Operand} {m n:List Nat} {v:CV} (hm:∀b∈m,b < 256) (hn:∀b∈n,b < 256) (h:ajV op m n=some v):
  ∃u,(do eqGuard op t x y (oW m) (oW n);binOp op t (oW m) (oW n)).run P w= .ok u w∧VR σ v u:=by
 have hg:=iy (P:=P) (w:=w) op t x y (a:=oW m) (b:=oW n) (by intro h;cases h) (by intro c h;cases h)
 have e1:∀l:List Nat,(⟨(l.map UInt8.ofNat).toArray⟩:ByteArray).toList=l.map UInt8.ofNat:=fun l=> ByteArray.toList_mk _
 cases op <;> first
  | (exfalso;cases h;done)
  | skip
 all_goals first
  | (rw [ajV,afu] at h
     injection h with h
     subst h
     refine ⟨_,?_,.v _ rfl⟩
     rw [Sem.run_bind,hg]
     simp only [binOp,oW,Op.stringOp,e1,ab1 hm hn,VZ hm hn,Result.andThen_ok,Sem.run_pure]
     try rfl)
  | skip
 obtain ⟨hle,h⟩:=aC (show fP _ _=some v from h)
 injection h with h
 subst h
 have hle:=aN hle
 rw [len_eq,len_eq] at hle
 have hle:m.length + n.length≤1000000000:=hle
 refine ⟨oW (m ++ n),?_,?_⟩
 ·rw [Sem.run_bind,hg]
  have e2:∀l:List Nat,(⟨(l.map UInt8.ofNat).toArray⟩:ByteArray).size=l.length:=fun l=> by simp [ByteArray.size]
  have hs:¬((((⟨(m.map UInt8.ofNat).toArray⟩:ByteArray).size + (⟨(n.map UInt8.ofNat).toArray⟩:ByteArray).size:Nat):Int) > IntKind.i64.max):=by
   rw [e2,e2]
   have:IntKind.i64.max=9223372036854775807:=by decide
   omega
  simp only [binOp,oW,Op.stringOp,Result.andThen_ok,if_neg hs,Sem.run_pure]
  congr 2
  apply ByteArray.ext
  simp
 ·rw [kU]
  refine .t _ fun b hb=> ?_
  rcases List.mem_append.1 hb with hb | hb
  ·exact hm b hb
  ·exact hn b hb
theorem P6 {op:BinOp} {t:TypeId} {x y:Operand} {a b:CV} {va vb:Value} {v:CV} (ha:VR σ a va) (hb:VR σ b vb) (h:sZ P op t x y a b=some v):
  ∃u,(do eqGuard op t x y va vb;binOp op t va vb).run P w= .ok u w∧VR σ v u:=by
 obtain ⟨ua,h1,h⟩:=aj h
 obtain ⟨ub,h2,h⟩:=aj h
 obtain ⟨r,h3,h4⟩:=aj h
 have:=toV_rel ha h1
 subst this
 have:=toV_rel hb h2
 subst this
 exact ⟨r,oZ _ h3 w,lX σ h4⟩
def aqX:Value→Bool
 | .pointer _=> true
 | .slice _ _ _=> true
 | .map _=> true
 | .func _ _ _=> true
 | _=> false
theorem afx {op:BinOp} {t:TypeId} {x y:Operand} {a b:CV} {va vb:Value} {v:CV} (ha:VR σ a va) (hb:VR σ b vb) (h:ant P op t a b=some v):
  ∃u,(do eqGuard op t x y va vb;binOp op t va vb).run P w= .ok u w∧VR σ v u:=by
 obtain ⟨y',rfl,h4⟩:=rH h
 clear h
 obtain ⟨d,hu,h5⟩:=aj h4
 clear h4
 obtain ⟨hf,h⟩:=aC h5
 clear h5
 have:=hb.val
 subst this
 have key:(eqGuard op t x y va vb).run P w= .ok () w∧(Op.equal t va vb).run P w= .ok false w∧aqX va=true:=by
  unfold VK at hf
  split at hf
  ·split at hf
   ·rename_i e
    obtain ⟨c,hc,e⟩:=ha.pv
    subst e
    exact ⟨iy op t x y (by intro h;cases h) (by intro c h;cases h),by rw [Op.equal,Op.maxDepth,show (10000:Nat)=9999 + 1 from rfl,Op.equalIn,Sem.run_bind,run_underlying hu];rfl,rfl⟩
   ·cases hf
  ·split at hf
   ·obtain ⟨c,hc,A,cap,e,_⟩:=ha.sv
    subst e
    exact ⟨iy op t x y (by intro h;cases h) (by intro c h;cases h),by rw [Op.equal,Op.maxDepth,show (10000:Nat)=9999 + 1 from rfl,Op.equalIn,Sem.run_bind,run_underlying hu];rfl,rfl⟩
   ·cases hf
  ·split at hf
   ·cases ha with
    | m hc=> exact ⟨iy op t x y (by intro h;cases h) (by intro c h;cases h),by rw [Op.equal,Op.maxDepth,show (10000:Nat)=9999 + 1 from rfl,Op.equalIn,Sem.run_bind,run_underlying hu];rfl,rfl⟩
   ·cases hf
  ·split at hf
   ·obtain ⟨us,vs,e,_⟩:=ha.fnL
    subst e
    exact ⟨iy op t x y (by intro h;cases h) (by intro c h;cases h),by rw [Op.equal,Op.maxDepth,show (10000:Nat)=9999 + 1 from rfl,Op.equalIn,Sem.run_bind,run_underlying hu];rfl,rfl⟩
   ·cases hf
  ·cases hf
 obtain ⟨k1,k2,k3⟩:=key
 cases op with
 | eql=>
  injection h with h
  subst h
  refine ⟨.bool false,?_,.v _ rfl⟩
  rw [Sem.run_bind,k1]
  simp only [Result.andThen_ok]
  have:binOp .eql t va vb=(do pure (.bool (←Op.equal t va vb))):=by
   cases va <;> first
    | rfl
    | cases k3
  rw [this,Sem.run_bind,k2]
  rfl
 | neq=>
  injection h with h
  subst h
  refine ⟨.bool true,?_,.v _ rfl⟩
  rw [Sem.run_bind,k1]
  simp only [Result.andThen_ok]
  have:binOp .neq t va vb=(do pure (.bool (!(←Op.equal t va vb)))):=by
   cases va <;> first
    | rfl
    | cases k3
  rw [this,Sem.run_bind,k2]
  rfl
 | _=> cases h
theorem KT {op:BinOp} {t:TypeId} {x y:Operand} {a b:Int} {r:Value} (h:opI op a b=some r):
  (do eqGuard op t x y (.int .i64 a) (.int .i64 b);binOp op t (.int .i64 a) (.int .i64 b)).run P w= .ok r w:=by
 have hg:=iy (P:=P) (w:=w) op t x y (a:= .int .i64 a) (b:= .int .i64 b) (by intro h;cases h) (by intro c h;cases h)
 rw [Sem.run_bind,hg]
 cases op <;> first
  | (cases h;done)
  | skip
 all_goals first
  | (injection h with h
     subst h
     rfl)
  | (simp only [opI] at h
     split at h
     ·cases h
     ·rename_i hb
      injection h with h
      subst h
      simp [binOp,Op.intDiv,hb])
theorem afy {r:Option UA} {v:CV} (h:ajW r=some v):∃q,r=some q∧∀σ:Nm,anQ fE.live q=true→VR σ v (akk fE.val q):=by
 cases r with
 | none=> cases h
 | some q=>
  cases q with
  | b b=> exact ⟨_,rfl,fun σ _=> by rw [←Option.some.inj h];exact .v _ rfl⟩
  | n n=> exact ⟨_,rfl,fun σ _=> by rw [←Option.some.inj h];exact .v _ rfl⟩
  | u i=> exact ⟨_,rfl,fun σ hl=> by rw [←Option.some.inj h];exact .u i hl⟩
theorem P7 {op:BinOp} {i:Nat} {left:Bool} {z:Value} {v:CV} (hi:fE.live i=true) (h:PK op i left z=some v):∃(m n:Int) (r:Value),fE.val i= .int .i64 m∧z= .int .i64 n∧opI op (bif left then m else n) (bif left then n else m)=some r∧∀σ:Nm,VR σ v r:=by
 cases z with
 | int k n=>
  obtain ⟨hk,h⟩:=aC (show fP (KC k .i64) (ajW (abv i op left n))=some v from h)
  have:=mZ hk
  subst this
  obtain ⟨q,hq,hv⟩:=afy h
  obtain ⟨hl,m,h1,h2⟩:=fE.c i op left n q hi hq
  exact ⟨m,n,_,h1,rfl,h2,fun σ=> hv σ hl⟩
 | _=> cases h
theorem ako {op:BinOp} {t:TypeId} {x y:Operand} {a b:CV} {va vb:Value} {v:CV} (ha:VR σ a va) (hb:VR σ b vb) (h:bop P op t x y a b=some v):
  ∃u,(do eqGuard op t x y va vb;binOp op t va vb).run P w= .ok u w∧VR σ v u:=by
 cases a with
 | v m=>
  have e1:=ha.val
  subst e1
  cases b with
  | v n=>
   have e2:=hb.val
   subst e2
   have other:sZ P op t x y (.v va) (.v vb)=some v→∃u,(do eqGuard op t x y va vb;binOp op t va vb).run P w= .ok u w∧VR σ v u:=P6 ha hb
   cases va with
   | int k m'=>
    cases vb with
    | int k' n'=>
     have h:bG (KC k k') (Ti op k m' n' (sZ P op t x y (.v (.int k m')) (.v (.int k' n')))) (sZ P op t x y (.v (.int k m')) (.v (.int k' n')))=some v:=h
     cases hk:KC k k' with
     | false=> rw [hk] at h;exact other h
     | true=>
      rw [hk] at h
      have:=mZ hk
      subst this
      rcases afv (P:=P) (σ:=σ) (w:=w) (t:=t) (x:=x) (y:=y) (show Ti op k m' n' _=some v from h) with h | h
      ·exact h
      ·exact other h
    | _=> exact other h
   | _=> exact other h
  | u j=>
   obtain ⟨e,hj⟩:=hb.uv
   obtain ⟨m,n,r,h1,rfl,h3,h4⟩:=P7 hj (show PK op j false va=some v from h)
   rw [e,h1]
   exact ⟨_,KT h3,h4 σ⟩
  | _=> cases h
 | u i=>
  obtain ⟨e,hi⟩:=ha.uv
  cases b with
  | v n=>
   have e2:=hb.val
   subst e2
   obtain ⟨m,n,r,h1,rfl,h3,h4⟩:=P7 hi (show PK op i true vb=some v from h)
   rw [e,h1]
   exact ⟨_,KT h3,h4 σ⟩
  | u j=>
   obtain ⟨e2,hj⟩:=hb.uv
   obtain ⟨q,h1,h2⟩:=aj (show ob (abw op i j) (fun b=> some (.v (.bool b)))=some v from h)
   have h2:=Option.some.inj h2
   subst h2
   rcases fE.u op i j q hi hj h1 with ⟨m,n,k1,k2,k3⟩ | ⟨s,k1,k2,k3⟩
   ·rw [e,e2,k1,k2]
    exact ⟨_,KT k3,.v _ rfl⟩
   ·rw [e,e2,k1,k2]
    refine ⟨_,?_,.v _ rfl⟩
    rw [Sem.run_bind,iy (P:=P) (w:=w) op t x y (a:= .string s) (b:= .string s) (by intro h;cases h) (by intro c h;cases h)]
    rcases k3 with ⟨rfl,rfl⟩ | ⟨rfl,rfl⟩ <;> simp [binOp,Op.stringOp]
  | _=> cases h
 | t m=>
  cases b with
  | t n=>
   cases ha with
   | t _ hm=>
    cases hb with
    | t _ hn=> exact afw hm hn h
  | _=> cases h
 | agg=> exact P6 ha hb h
 | bH=> cases h
 | _=> exact afx ha hb h
theorem anR {op:BinOp} {t:TypeId} {x y:Operand} {v:CV} (hev:yg σ E ρ #[x,y]) (h:anA P E op t x y=some v):∃u,(do eqGuard op t x y (ρ x) (ρ y);binOp op t (ρ x) (ρ y)).run P w= .ok u w∧VR σ v u:=by
 obtain ⟨a,h1,h⟩:=aj h
 obtain ⟨b,h2,h⟩:=aj h
 exact ako (hev x (by simp) _ h1) (hev y (by simp) _ h2) h
end
end Ci
namespace Ci
open Go.RowKit
variable [fE]
section
variable {P : Program} {σ : Nm} {E : Tr CV} {ρ : Operand → Value} {w : World}
theorem mG {t:TypeId} {z:List CV} (h:zK P t=some z) (σ:Nm) (w:World):∃zv,(zeroValue t).run P w= .ok zv w∧fU σ z zv.cells.toList∧∀c∈z,iQ c=true:=by
 obtain ⟨i,hi,h⟩:=aj h
 obtain ⟨zv,hz,h⟩:=aj h
 obtain ⟨c,hc,h⟩:=aj h
 injection h with h
 subst h
 obtain ⟨k1,k2⟩:=(lX σ hc).cells (akl hc)
 exact ⟨zv,by simp [zeroValue,typeInfo,hi,hz],k1,k2⟩
theorem tH {place:Nat→Option (Nat×Nat)}:∀(l:List (Nat×CV)) (pl:List (Nat×Value)) (cs r:List CV) (vs:Array Value),l.map (·.1)=pl.map (·.1)→fU σ (l.map (·.2)) (pl.map (·.2))→fU σ cs vs.toList→(∀c∈cs,iQ c=true)→
  PL place l cs=some r→∃us,Instr.fill place vs pl=some us∧fU σ r us.toList∧∀c∈r,iQ c=true
 | [],pl,cs,r,vs,hi,hv,hr,h1,h=> by
  have:pl= []:=by cases pl with
   | nil=> rfl
   | cons=> cases hi
  subst this
  injection h with h
  subst h
  exact ⟨vs,rfl,hr,h1⟩
 | q::l,[],cs,r,vs,hi,hv,hr,h1,h=> by cases hi
 | q::l,p::pl,cs,r,vs,hi,hv,hr,h1,h=> by
  simp only [List.map_cons,List.cons.injEq] at hi hv
  obtain ⟨hi1,hi2⟩:=hi
  obtain ⟨v,vs',e,hv1,hv2⟩:=hv.cons_inv
  injection e with e1 e2
  subst e1 e2
  obtain ⟨⟨off,z⟩,hp,h⟩:=aj (show ob (place q.1) _=some r from h)
  obtain ⟨hb,h⟩:=aC h
  obtain ⟨hb1,hb⟩:=and_true hb
  obtain ⟨hb2,hb3⟩:=and_true hb
  have hb2:=ay hb2
  have hb3:=aN hb3
  rw [len_eq] at hb2 hb3
  obtain ⟨hc,hc1⟩:=hv1.cells hb1
  have hl:=hc.1
  have hl2:=hr.1
  have hb2:(cells q.2).length=z:=hb2
  have hb3:off + z≤cs.length:=hb3
  have hsz:p.2.cells.size=z:=by rw [←hb2,←hl];simp
  rw [show p=(p.1,p.2) from rfl,yK place vs p.1 p.2 _ (by rw [←hi1];exact hp) hsz (by rw [←hl2] at hb3;simpa using hb3)]
  have h:PL place l (wrt (cells q.2) off cs)=some r:=h
  rw [KL _ _ _ (by omega)] at h
  refine tH l pl _ r _ hi2 hv2 (by simpa using hr.over hc off) (fun c hc'=> ?_) h
  unfold over at hc'
  rcases List.mem_append.1 hc' with hc' | hc'
  ·rcases List.mem_append.1 hc' with hc' | hc'
   ·exact h1 c (List.mem_of_mem_take hc')
   ·exact hc1 c hc'
  ·exact h1 c (List.mem_of_mem_drop hc')
theorem zN:∀(l:List Field) {pl:List (Nat×Nat)},KD P l=some pl→∀w,(l.mapM fun f=> do pure (f.offset,←sizeOf f.type):Sem (List (Nat×Nat))).run P w= .ok pl w
 | [],pl,h,w=> by
  injection h with h
  subst h
  rfl
 | f::l,pl,h,w=> by
  obtain ⟨z,hz,h⟩:=aj (show ob (GV P f.type) _=some pl from h)
  obtain ⟨pl',h2,h⟩:=aj h
  injection h with h
  subst h
  have:=zN l h2 w
  simp only [List.mapM_cons,Sem.run_bind,iO hz w,Result.andThen_ok,Sem.run_pure,this]
theorem P8 {ps:Array (Nat×Operand)} {l:List (Nat×CV)} (hev:∀q∈ps,∀c,ev E q.2=some c→VR σ c (ρ q.2)) (h:evP E ps.toList=some l):
  l.map (·.1)=(ps.map fun q=> (q.1,ρ q.2)).toList.map (·.1)∧fU σ (l.map (·.2)) ((ps.map fun q=> (q.1,ρ q.2)).toList.map (·.2)):=by
 obtain ⟨k1,k2,_⟩:=VY (ρ:=ρ) ps.toList (fun q hq=> hev q (by simpa using hq)) h
 refine ⟨by rw [k1];simp [Function.comp_def],?_⟩
 have:(ps.map fun q=> (q.1,ρ q.2)).toList.map (·.2)=ps.toList.map fun q=> ρ q.2:=by simp [Function.comp_def]
 rw [this]
 exact k2
theorem afz {t:TypeId} {ps:Array (Nat×Operand)} {v:CV} (hev:∀q∈ps,∀c,ev E q.2=some c→VR σ c (ρ q.2)) (h:abG P E t ps=some v):∃u,(Instr.build t (ps.map fun q=> (q.1,ρ q.2))).run P w= .ok u w∧VR σ v u:=by
 obtain ⟨d,hd,h⟩:=aj h
 obtain ⟨z,hz,h⟩:=aj h
 obtain ⟨l,hl,h⟩:=aj h
 obtain ⟨cs,hc,h⟩:=aj h
 injection h with h
 subst h
 obtain ⟨zv,z1,z2,z3⟩:=mG hz σ w
 obtain ⟨k1,k2⟩:=P8 hev hl
 have hu:P.underlying t=some d:=hd
 cases d with
 | struct fs=>
  obtain ⟨pl,hp,hc⟩:=aj (show ob (KD P fs.toList) _=some cs from hc)
  have e:nth pl=fun i=> (pl.toArray)[i]? :=by
   funext i
   rw [iE]
   simp
  rw [e] at hc
  obtain ⟨us,h1,h2,h3⟩:=tH l _ z cs zv.cells k1 k2 z2 z3 hc
  refine ⟨.agg us,?_,by have:=VR.KN h2 h3;simpa using this⟩
  have hm:=zN (P:=P) fs.toList hp w
  have hm:(fs.mapM fun f=> do pure (f.offset,←sizeOf f.type):Sem (Array (Nat×Nat))).run P w= .ok pl.toArray w:=by
   rw [Array.mapM_eq_mapM_toList]
   simp only [Sem.run_map,hm]
   rfl
  simp only [Instr.build,Sem.run_bind,z1,Result.andThen_ok,run_underlying hu,hm,h1,Sem.run_pure]
 | array n e=>
  obtain ⟨sz,hs,hc⟩:=aj (show ob (GV P e) _=some cs from hc)
  obtain ⟨us,h1,h2,h3⟩:=tH l _ z cs zv.cells k1 k2 z2 z3 hc
  refine ⟨.agg us,?_,by have:=VR.KN h2 h3;simpa using this⟩
  have h1:Instr.fill (fun i=> some (i * sz,sz)) zv.cells (ps.map fun q=> (q.1,ρ q.2)).toList=some us:=h1
  simp only [Instr.build,Sem.run_bind,z1,Result.andThen_ok,run_underlying hu,iO hs w,h1,Sem.run_pure]
 | _=> cases hc
theorem anS {x:Operand} {v:CV} (hev:yg σ E ρ #[x]) (h:anB E x=some v):VR σ v (ρ x)∧((∃A,ρ x= .pointer (some A))∨∃f us vs,ρ x= .func (.func f) us vs):=by
 obtain ⟨c,h1,h⟩:=aj h
 have hx:=hev x (by simp) _ h1
 cases c with
 | p l o=>
  injection h with h
  subst h
  obtain ⟨c,_,e⟩:=hx.pv
  exact ⟨hx,Or.inl ⟨_,e⟩⟩
 | fn f a b=>
  injection h with h
  subst h
  obtain ⟨us,vs,e,_⟩:=hx.fnL
  exact ⟨hx,Or.inr ⟨_,_,_,e⟩⟩
 | _=> cases h
theorem X9 {x:Operand} {i:Nat} {v:CV} (hev:yg σ E ρ #[x]) (h:PN E x i=some v):∃u,(Instr.extract (ρ x) i).run P w= .ok u w∧VR σ v u:=by
 obtain ⟨c,h1,h⟩:=aj h
 have hx:=hev x (by simp) _ h1
 cases c with
 | bH cs=>
  obtain ⟨vs,e,hr⟩:=hx.abX
  have h:nth cs i=some v:=h
  rw [iE] at h
  obtain ⟨u,hu,hv⟩:=hr.get h
  have hu:vs[i]? =some u:=by simpa using hu
  exact ⟨u,by simp [Instr.extract,e,hu],hv⟩
 | _=> cases h
theorem afA {t:TypeId} {x:Operand} {i:Nat} {v:CV} (hev:yg σ E ρ #[x]) (h:abH P E t x i=some v):∃u,(Instr.field t (ρ x) i).run P w= .ok u w∧VR σ v u:=by
 obtain ⟨c,h1,h⟩:=aj h
 have hx:=hev x (by simp) _ h1
 cases c with
 | agg cs=>
  obtain ⟨vs,e,hr,hone⟩:=hx.Dw
  obtain ⟨fs,hu,h⟩:=P5 (show stT P t _=some v from h)
  obtain ⟨f,hf,h⟩:=aj h
  rw [lM] at h
  obtain ⟨u,h2,h3⟩:=VX hr hone h w
  exact ⟨u,by simp [Instr.field,run_underlying hu,hf,asAgg,e,h2],h3⟩
 | _=> cases h
theorem afB {t:TypeId} {x i:Operand} {v:CV} (hev:yg σ E ρ #[x,i]) (h:abI P E t x i=some v):∃u,(Instr.index t (ρ x) (ρ i)).run P w= .ok u w∧VR σ v u:=by
 obtain ⟨c,h1,h⟩:=aj h
 obtain ⟨ci,h2,h⟩:=aj h
 obtain ⟨k,j,rfl,h⟩:=mX h
 have hi:=(hev i (by simp) _ h2).val
 have hx:=hev x (by simp) _ h1
 cases c with
 | t bs=>
  obtain ⟨n0,h3,h⟩:=aj (show ob (isStr P t) _=some v from h)
  obtain ⟨b,h4,h⟩:=aj h
  injection h with h
  subst h
  rw [iE] at h4
  have hu:=vw h3
  generalize ρ x=vx at hx ⊢
  cases hx with
  | t _ hb=>
   have hlt:j < bs.length:=(List.getElem?_eq_some_iff.1 h4).1
   have hlt':j < (⟨(bs.map UInt8.ofNat).toArray⟩:ByteArray).size:=by simpa [ByteArray.size] using hlt
   have hg:(⟨(bs.map UInt8.ofNat).toArray⟩:ByteArray)[j]? =some (UInt8.ofNat b):=by
    show decidableGetElem? _ _=_
    unfold decidableGetElem?
    rw [dif_pos hlt']
    have:(⟨(bs.map UInt8.ofNat).toArray⟩:ByteArray)[j]=(bs.map UInt8.ofNat)[j]'(by simpa using hlt):=rfl
    rw [this,List.getElem_map]
    congr 2
    exact (List.getElem?_eq_some_iff.1 h4).2
   refine ⟨.int .u8 (Int.ofNat b),?_,.v _ rfl⟩
   have h0:(0:Int)≤Int.ofNat j:=Int.natCast_nonneg j
   have hbl:b < 256:=hb b (List.mem_of_getElem? h4)
   simp only [Instr.index,hi,asIntOf,Sem.run_bind,Sem.run_pure,Result.andThen_ok,run_underlying hu,oW,if_pos h0]
   have:(Int.ofNat j).toNat=j:=rfl
   rw [this,hg]
   simp [Nat.mod_eq_of_lt hbl]
 | agg cs=>
  obtain ⟨vs,e,hr,hone⟩:=hx.Dw
  obtain ⟨n,el,hu,h⟩:=Dx (show arT P t _=some v from h)
  obtain ⟨z,hz,h⟩:=aj h
  obtain ⟨hj,h⟩:=aC h
  have hj:=aN hj
  rw [lM] at h
  obtain ⟨u,h2,h3⟩:=VX hr hone h w
  have h0:(0:Int)≤Int.ofNat j∧Int.ofNat j < n:=⟨Int.natCast_nonneg j,by show (j:Int) < n;omega⟩
  refine ⟨u,?_,h3⟩
  have h2:(part el vs ((Int.ofNat j).toNat * z)).run P w= .ok u w:=h2
  simp only [Instr.index,hi,asIntOf,Sem.run_bind,Sem.run_pure,Result.andThen_ok,run_underlying hu,e,if_pos h0,iO hz w,h2]
 | _=> cases h
theorem ab2 {c:CV} {va:Value} {f:Value→Sem Value} {v:CV} (ha:VR σ c va) (h:pr1 P c f=some v):∃u,(f va).run P w= .ok u w∧VR σ v u:=by
 obtain ⟨ua,h1,h⟩:=aj h
 obtain ⟨r,h3,h4⟩:=aj h
 have:=toV_rel ha h1
 subst this
 exact ⟨r,oZ _ h3 w,lX σ h4⟩
theorem aqY {op:UnOp} {x:Operand} {v:CV} (hev:yg σ E ρ #[x]) (h:qUn P E op x=some v):∃u,(Op.unary op (ρ x)).run P w= .ok u w∧VR σ v u:=by
 obtain ⟨c,h1,h⟩:=aj h
 have hx:=hev x (by simp) _ h1
 cases op with
 | not=>
  obtain ⟨b,rfl,h5⟩:=rJ (show isBool c _=some v from h)
  rw [afu] at h5
  injection h5 with h5
  subst h5
  have:=hx.val
  exact ⟨.bool (!b),by rw [this];rfl,.v _ rfl⟩
 | _=> exact ab2 hx h
theorem akp {s d:TypeId} {x:Operand} {v:CV} (hev:yg σ E ρ #[x]) (h:aib P E s d x=some v):∃u,(convert s d (ρ x)).run P w= .ok u w∧VR σ v u:=by
 obtain ⟨c,h1,h⟩:=aj h
 exact ab2 (hev x (by simp) _ h1) h
theorem akq {f:Go.Fn} {fs cs:Array Operand} {v:CV} (hev:yg σ E ρ (fs ++ cs)) (h:aic E f fs cs=some v):VR σ v (.func f (fs.map ρ) (cs.map ρ)):=by
 cases f with
 | func f=>
  obtain ⟨a,h1,h⟩:=aj (show ob (Y5 E fs.toList) _=some v from h)
  obtain ⟨b,h2,h⟩:=aj h
  injection h with h
  subst h
  have r1:=tu (ρ:=ρ) fs.toList (fun x hx=> hev x (by simp at hx ⊢;exact Or.inl hx)) h1
  have r2:=tu (ρ:=ρ) cs.toList (fun x hx=> hev x (by simp at hx ⊢;exact Or.inr hx)) h2
  refine .fn f a b _ _ (by have:=r1.1;simpa using this) (by have:=r2.1;simpa using this) (fun j c u hc hu=> r1.2 j c u hc ?_) (fun j c u hc hu=> r2.2 j c u hc ?_)
  ·rw [←Array.toList_map]
   simpa using hu
  ·rw [←Array.toList_map]
   simpa using hu
 | _=> cases h
end
end Ci
namespace Ci
open Go.RowKit
variable [fE]
section
variable {P : Program} {σ : Nm} {E : Tr CV} {ρ : Operand → Value} {w : World}
def V3 (ρ:Operand→Value) (d:Nat) (x:Option Operand) (n:Nat):Prop:=match x with
 | none=> n=d
 | some y=> ∃k,ρ y= .int k (Int.ofNat n)
theorem oL {d:Nat} {x:Option Operand} {n:Nat} (hev:∀y∈x,∀c,ev E y=some c→VR σ c (ρ y)) (h:bnd E d x=some n):V3 ρ d x n:=by
 cases x with
 | none=>
  injection h with h
  exact h.symm
 | some y=>
  obtain ⟨c,h1,h⟩:=aj (show ob (ev E y) _=some n from h)
  obtain ⟨k,m,rfl,h⟩:=mX h
  injection h with h
  subst h
  exact ⟨k,(hev y rfl _ h1).val⟩
theorem jh {x:Value} {k:IntKind} {n y:Nat} {c:BoundsCode} (hx:x= .int k (Int.ofNat n)) (h:n≤y):(Instr.sliceBound x y c).run P w= .ok n w:=by
 subst hx
 have h0:(0:Int)≤Int.ofNat n∧Int.ofNat n≤(y:Int):=⟨Int.natCast_nonneg n,by show (n:Int)≤y;omega⟩
 simp only [Instr.sliceBound,asIntOf,Sem.run_bind,Sem.run_pure,Result.andThen_ok,if_pos h0]
 rfl
theorem kV {sl:Bool} {d cap:Nat} {lo hi mx:Option Operand} {a b m:Nat} (hlo:V3 ρ 0 lo a) (hhi:V3 ρ d hi b) (hmx:V3 ρ cap mx m) (hh:mx≠none→hi≠none) (h1:a≤b) (h2:b≤m) (h3:m≤cap):
  (Instr.sliceBounds sl d cap (lo.map ρ) (hi.map ρ) (mx.map ρ)).run P w= .ok (a,b,m) w:=by
 cases mx with
 | none=>
  have hmx:m=cap:=hmx
  subst hmx
  cases hi with
  | none=>
   have hhi:b=d:=hhi
   subst hhi
   cases lo with
   | none=>
    have hlo:a=0:=hlo
    subst hlo
    rfl
   | some y=>
    obtain ⟨k,hy⟩:=hlo
    simp [Instr.sliceBounds,jh hy h1]
  | some z=>
   obtain ⟨k',hz⟩:=hhi
   cases lo with
   | none=>
    have hlo:a=0:=hlo
    subst hlo
    simp [Instr.sliceBounds,jh hz h2]
   | some y=>
    obtain ⟨k,hy⟩:=hlo
    simp [Instr.sliceBounds,jh hz h2,jh hy h1]
 | some q=>
  obtain ⟨k2,hq⟩:=hmx
  cases hi with
  | none=> exact absurd rfl (hh (by simp))
  | some z=>
   obtain ⟨k',hz⟩:=hhi
   cases lo with
   | none=>
    have hlo:a=0:=hlo
    subst hlo
    simp [Instr.sliceBounds,jh hq h3,jh hz h2]
   | some y=>
    obtain ⟨k,hy⟩:=hlo
    simp [Instr.sliceBounds,jh hq h3,jh hz h2,jh hy h1]
theorem ab3 {l o z a b m:Nat} {c:Loc} (hc:σ l=some c) (h1:a≤b) (h2:b≤m):VR σ (mkS l o z a b m) (.slice (some (if m=a then ⟨c.blk,c.off + o,none⟩ else (⟨c.blk,c.off + o,none⟩:Addr).add (a * z))) (b - a) (m - a)):=by
 unfold mkS
 cases hb:Nat.beq a m with
 | true=>
  rw [if_pos (ay hb).symm]
  exact .sk _ _ _ hc (by show b - a≤m - a;omega)
 | false=>
  rw [if_neg (fun e=> Nat.ne_of_beq_eq_false hb e.symm),add_eq]
  have:=VR.sk (σ:=σ) (l:=l) (c:=c) (o + a * z) (b - a) (m - a) hc (by omega)
  rw [←Nat.add_assoc] at this
  exact this
theorem afC {hi mx:Option Operand} (h:anC hi mx=true):mx≠none→hi≠none:=by
 cases mx with
 | none=> exact fun h=> absurd rfl h
 | some m=>
  cases hi with
  | none=> cases h
  | some x=> exact fun _ h=> by cases h
theorem tJ {t e:TypeId} {z n cap a b m:Nat} {A:Option Addr} {lo hi mx:Option Value} (hu:P.underlying t=some (.slice e)) (hz:GV P e=some z) (hb:(Instr.sliceBounds true n cap lo hi mx).run P w= .ok (a,b,m) w):
  (Instr.sliceAt t (.slice A n cap) lo hi mx).run P w= .ok (.slice (if m=a then A else A.map (·.add (a * z))) (b - a) (m - a)) w:=by
 simp only [Instr.sliceAt,Instr.slice,Sem.run_bind,Result.andThen_ok,run_underlying hu,hb,iO hz w,Sem.run_pure]
theorem afD {t:TypeId} {x:Operand} {lo hi mx:Option Operand} {v:CV} (hev:yg σ E ρ (#[x] ++ lo.toArray ++ hi.toArray ++ mx.toArray)) (h:abJ P E t x lo hi mx=some v):
  ∃u,(Instr.sliceAt t (ρ x) (lo.map ρ) (hi.map ρ) (mx.map ρ)).run P w= .ok u w∧VR σ v u:=by
 have hlo:∀y∈lo,∀c,ev E y=some c→VR σ c (ρ y):=fun y hy=> hev y (by simp [Option.mem_def.1 hy])
 have hhi:∀y∈hi,∀c,ev E y=some c→VR σ c (ρ y):=fun y hy=> hev y (by simp [Option.mem_def.1 hy])
 have hmx:∀y∈mx,∀c,ev E y=some c→VR σ c (ρ y):=fun y hy=> hev y (by simp [Option.mem_def.1 hy])
 obtain ⟨c,h1,h⟩:=aj h
 have hx:=hev x (by simp) _ h1
 obtain ⟨hm3,h⟩:=aC h
 have hm3:=afC hm3
 cases c with
 | t bs=>
  obtain ⟨hn,h⟩:=jK (show oC mx _=some v from h)
  subst hn
  obtain ⟨n0,h3,h⟩:=aj h
  obtain ⟨a,ha,h⟩:=aj h
  obtain ⟨b,hb,h⟩:=aj h
  have ha:=oL hlo ha
  have hb:=oL hhi hb
  obtain ⟨hab,h⟩:=aC h
  obtain ⟨k1,k2⟩:=and_true hab
  have k1:=aN k1
  have k2:=aN k2
  injection h with h
  subst h
  rw [kF,lM]
  rw [len_eq] at hb k2
  have hu:=vw h3
  generalize ρ x=vx at hx ⊢
  cases hx with
  | t _ hb8=>
   have hsz:(⟨(bs.map UInt8.ofNat).toArray⟩:ByteArray).size=bs.length:=by simp [ByteArray.size]
   have hbd:=kV (P:=P) (w:=w) (sl:=false) (d:=bs.length) (cap:=bs.length) (lo:=lo) (hi:=hi) (mx:=none) (a:=a) (b:=b) (m:=bs.length) ha hb rfl (fun h=> absurd rfl h) k1 k2 (Nat.le_refl _)
   refine ⟨oW ((bs.drop a).take (b - a)),?_,.t _ fun q hq=> hb8 q (List.mem_of_mem_drop (List.mem_of_mem_take hq))⟩
   have e:(⟨(bs.map UInt8.ofNat).toArray⟩:ByteArray).extract a b=⟨(((bs.drop a).take (b - a)).map UInt8.ofNat).toArray⟩:=by
    apply ByteArray.ext
    simp [ByteArray.data_extract,List.map_take,List.map_drop]
   have hbd:(Instr.sliceBounds false bs.length bs.length (lo.map ρ) (hi.map ρ) none).run P w= .ok (a,b,bs.length) w:=hbd
   simp only [Instr.sliceAt,Instr.slice,Sem.run_bind,Result.andThen_ok,run_underlying hu,oW,hsz,hbd,Option.map_none,Option.isSome_none,Bool.false_eq_true,if_false,Sem.run_pure,e]
 | v y=>
  have hy:=hx.val
  obtain ⟨hn,h⟩:=aC (show fP (kT y) _=some v from h)
  have hy2:y= .slice none 0 0:=by
   unfold kT at hn
   split at hn
   ·rfl
   ·cases hn
  obtain ⟨e,he,h⟩:=aj h
  obtain ⟨z,hz,h⟩:=aj h
  obtain ⟨a,ha,h⟩:=aj h
  obtain ⟨b,hb,h⟩:=aj h
  obtain ⟨m,hm,h⟩:=aj h
  have ha:=oL hlo ha
  have hb:=oL hhi hb
  have hm:=oL hmx hm
  obtain ⟨hs,h⟩:=aC h
  injection h with h
  subst h
  have hs:a + (b + m)=0:=ay hs
  have e1:a=0:=by omega
  have e2:b=0:=by omega
  have e3:m=0:=by omega
  subst e1 e2 e3
  have hbd:=kV (P:=P) (w:=w) (sl:=true) (d:=0) (cap:=0) (lo:=lo) (hi:=hi) (mx:=mx) (a:=0) (b:=0) (m:=0) ha hb hm hm3 (Nat.le_refl _) (Nat.le_refl _) (Nat.le_refl _)
  rw [hy,hy2]
  exact ⟨_,tJ (jA he) hz hbd,.v _ rfl⟩
 | s l o n k=>
  obtain ⟨e,he,h⟩:=aj (show ob (X7 P t) _=some v from h)
  obtain ⟨z,hz,h⟩:=aj h
  obtain ⟨a,ha,h⟩:=aj h
  obtain ⟨b,hb,h⟩:=aj h
  have ha:=oL hlo ha
  have hb:=oL hhi hb
  obtain ⟨c,hc,A,cap,hA,hn,hA2,hkn,hop⟩:=hx.sv
  have hu:=jA he
  rw [hA]
  have mk:∀{m:Nat},a≤b→b≤m→m≤cap→VR σ (mkS l o z a b m) (.slice (if m=a then some A else (some A).map (·.add (a * z))) (b - a) (m - a)):=by
   intro m h1 h2 h3
   rcases hA2 with rfl | ⟨rfl,rfl⟩
   ·have:=ab3 (z:=z) (o:=o) hc h1 h2
    split at this <;> split <;> first | exact this | contradiction
   ·have e1:m=0:=by omega
    have e2:b=0:=by omega
    have e3:a=0:=by omega
    subst e1 e2 e3
    exact .s0 _ _ _ hc (fun n e=> by injection e with e;exact e.symm) fun _ _ e=> by cases e
  cases mx with
  | some y=>
   obtain ⟨m,hm,h⟩:=aj (show ob (bnd E n (some y)) _=some v from h)
   have hm:=oL hmx hm
   obtain ⟨hs,h⟩:=aC h
   obtain ⟨k1,hs⟩:=and_true hs
   obtain ⟨k2,k3⟩:=and_true hs
   have k1:=aN k1
   have k2:=aN k2
   have k3:=aN k3
   injection h with h
   subst h
   have hbd:=kV (P:=P) (w:=w) (sl:=true) (d:=n) (cap:=cap) (lo:=lo) (hi:=hi) (mx:=some y) (a:=a) (b:=b) (m:=m) ha hb hm hm3 k1 k2 (by omega)
   exact ⟨_,tJ hu hz hbd,mk k1 k2 (by omega)⟩
  | none=>
   cases k with
   | kn k=>
    obtain ⟨hs,h⟩:=aC (show fP (Bool.and (Nat.ble a b) (Nat.ble b k)) _=some v from h)
    obtain ⟨k1,k2⟩:=and_true hs
    have k1:=aN k1
    have k2:=aN k2
    injection h with h
    subst h
    have:=hkn k rfl
    subst this
    have hbd:=kV (P:=P) (w:=w) (sl:=true) (d:=n) (cap:=cap) (lo:=lo) (hi:=hi) (mx:=none) (a:=a) (b:=b) (m:=cap) ha hb rfl (fun h=> absurd rfl h) k1 k2 (Nat.le_refl _)
    exact ⟨_,tJ hu hz hbd,mk k1 k2 (Nat.le_refl _)⟩
   | op z' q=>
    obtain ⟨hs,h⟩:=aC (show fP (Bool.and (Nat.beq z z') (Bool.and (Nat.ble a b) (Bool.or (Nat.ble b n) (Nat.ble b q)))) _=some v from h)
    obtain ⟨k0,hs⟩:=and_true hs
    obtain ⟨k1,k2⟩:=and_true hs
    have k0:=ay k0
    have k1:=aN k1
    injection h with h
    subst h
    subst k0
    obtain ⟨hr,hmx,hqc⟩:=hop z q rfl
    have k2:b≤cap:=by
     have k2:(Nat.ble b n || Nat.ble b q)=true:=k2
     rw [Bool.or_eq_true] at k2
     rcases k2 with k2 | k2
     ·have:=aN k2;omega
     ·have:=aN k2;omega
    have hbd:=kV (P:=P) (w:=w) (sl:=true) (d:=n) (cap:=cap) (lo:=lo) (hi:=hi) (mx:=none) (a:=a) (b:=b) (m:=cap) ha hb rfl (fun h=> absurd rfl h) k1 (by omega) (Nat.le_refl _)
    refine ⟨_,tJ hu hz hbd,?_⟩
    by_cases hca:cap=a
    ·have e2:b=a:=by omega
     subst hca e2
     rw [if_pos rfl,Nat.sub_self,show Nat.sub b b=0 from Nat.sub_self b]
     refine VR.s0 _ (.op z (q - b)) _ hc (fun n e=> by cases e) fun z' q' e=> ?_
     injection e with _ e
     omega
    ·rw [if_neg hca]
     have hA3:A=⟨c.blk,c.off + o,none⟩:=hA2.elim id fun h=> by omega
     have hr:o + cap * z≤c.room:=hr.elim id fun h=> by omega
     subst hA3
     have hmul:(cap - a) * z + a * z=cap * z:=by rw [←Nat.add_mul];congr 1;omega
     have:=VR.so (σ:=σ) (l:=l) (c:=c) (o + a * z) (b - a) z (q - a) (cap - a) hc (by omega) (by omega) (by omega) (by omega)
     rw [←Nat.add_assoc] at this
     show VR σ _ (.slice (some ((⟨c.blk,c.off + o,none⟩:Addr).add (a * z))) _ _)
     rw [add_eq]
     exact this
 | p l o=>
  obtain ⟨hn,h⟩:=jK (show oC mx _=some v from h)
  subst hn
  obtain ⟨k,e,hu,h⟩:=Dx h
  obtain ⟨z,hz,h⟩:=aj h
  obtain ⟨a,ha,h⟩:=aj h
  obtain ⟨b,hb,h⟩:=aj h
  have ha:=oL hlo ha
  have hb:=oL hhi hb
  obtain ⟨hab,h⟩:=aC h
  obtain ⟨k1,k2⟩:=and_true hab
  have k1:=aN k1
  have k2:=aN k2
  injection h with h
  subst h
  obtain ⟨c,hc,hA⟩:=hx.pv
  have hbd:=kV (P:=P) (w:=w) (sl:=false) (d:=k) (cap:=k) (lo:=lo) (hi:=hi) (mx:=none) (a:=a) (b:=b) (m:=k) ha hb rfl (fun h=> absurd rfl h) k1 k2 (Nat.le_refl _)
  have hbd:(Instr.sliceBounds false k k (lo.map ρ) (hi.map ρ) none).run P w= .ok (a,b,k) w:=hbd
  refine ⟨_,?_,ab3 (z:=z) hc k1 k2⟩
  rw [hA]
  simp only [Instr.sliceAt,Instr.sureAddr,Sem.run_bind,Sem.run_pure,Result.andThen_ok,run_underlying hu,Option.map_none,hbd,iO hz w]
 | _=> cases h
theorem Jd {α β:Type} (f:α→Sem β):∀(s:Sem α),qj P (s >>=f)=(qj P s).bind fun a=> qj P (f a):=by
 intro s
 induction s with
 | pure a=> rfl
 | program k ih=> exact ih P
 | mark m k ih=> exact ih
 | _=> rfl
theorem ab4 (t:TypeId):qj P (underlying t)=P.underlying t:=by
 show qj P (match P.underlying t with | some d=> pure d | none=> stuck "no such type")=_
 cases P.underlying t <;> rfl
theorem wW (kind:TypeDesc) (k:Value):∀(l1 l2:List MapEntry) (i:Nat) (r:Option (Nat×Value)),l1.map (·.key)=l2.map (·.key)→Instr.findNow kind k l1 i=some r→
  ∃r',Instr.findNow kind k l2 i=some r'∧r'.map (·.1)=r.map (·.1)∧∀j v,r'=some (j,v)→i≤j∧∃e,l2[j - i]? =some e∧e.val=v
 | [],l2,i,r,hk,h=> by
  have:l2= []:=by cases l2 with
   | nil=> rfl
   | cons=> cases hk
  subst this
  injection h with h
  subst h
  exact ⟨none,rfl,rfl,fun j v h=> by cases h⟩
 | e::l1,[],i,r,hk,h=> by cases hk
 | e::l1,e2::l2,i,r,hk,h=> by
  simp only [List.map_cons,List.cons.injEq] at hk
  obtain ⟨k1,k2⟩:=hk
  simp only [Instr.findNow,←k1] at h ⊢
  cases hs:Instr.sameNow kind k e.key with
  | none=> rw [hs] at h;cases h
  | some b=>
   rw [hs] at h
   cases b with
   | true=>
    injection h with h
    subst h
    exact ⟨_,rfl,rfl,fun j v h=> by
     injection h with h
     injection h with h3 h4
     subst h3 h4
     exact ⟨Nat.le_refl _,e2,by simp,rfl⟩⟩
   | false=>
    obtain ⟨r',h1,h2,h3⟩:=wW kind k l1 l2 (i + 1) r k2 h
    refine ⟨r',h1,h2,fun j v hj=> ?_⟩
    obtain ⟨h4,e',h5,h6⟩:=h3 j v hj
    refine ⟨by omega,e',?_,h6⟩
    rw [show j - i=(j - (i + 1)) + 1 by omega,List.getElem?_cons_succ]
    exact h5
theorem wX (kind:TypeDesc) (k:Value):∀(l1 l2:List MapEntry) (i:Nat),l1.map (·.key)=l2.map (·.key)→Instr.findNow kind k l1 i=none→Instr.findNow kind k l2 i=none
 | [],l2,i,hk,h=> by cases h
 | e::l1,[],i,hk,h=> by cases hk
 | e::l1,e2::l2,i,hk,h=> by
  simp only [List.map_cons,List.cons.injEq] at hk
  obtain ⟨k1,k2⟩:=hk
  simp only [Instr.findNow,←k1] at h ⊢
  cases hs:Instr.sameNow kind k e.key with
  | none=> rfl
  | some b=>
   rw [hs] at h
   cases b with
   | true=> cases h
   | false=> exact wX kind k l1 l2 (i + 1) k2 h
theorem wY (kt:TypeId) (k:Value) (w:World):∀(l1 l2:List MapEntry) (i:Nat) (r:Option (Nat×Value)),l1.map (·.key)=l2.map (·.key)→qj P (Instr.findAsking kt k l1 i)=some r→
  ∃r',(Instr.findAsking kt k l2 i).run P w= .ok r' w∧r'.map (·.1)=r.map (·.1)∧∀j v,r'=some (j,v)→i≤j∧∃e,l2[j - i]? =some e∧e.val=v
 | [],l2,i,r,hk,h=> by
  have:l2= []:=by cases l2 with
   | nil=> rfl
   | cons=> cases hk
  subst this
  injection h with h
  subst h
  exact ⟨none,rfl,rfl,fun j v h=> by cases h⟩
 | e::l1,[],i,r,hk,h=> by cases hk
 | e::l1,e2::l2,i,r,hk,h=> by
  simp only [List.map_cons,List.cons.injEq] at hk
  obtain ⟨k1,k2⟩:=hk
  simp only [Instr.findAsking] at h ⊢
  rw [Jd] at h
  cases hb:qj P (Op.equal kt k e.key) with
  | none=> rw [hb] at h;cases h
  | some b=>
   rw [hb] at h
   have hrun:=oZ _ hb w
   rw [Sem.run_bind,←k1,hrun]
   cases b with
   | true=>
    injection h with h
    subst h
    exact ⟨_,rfl,rfl,fun j v h=> by
     injection h with h
     injection h with h3 h4
     subst h3 h4
     exact ⟨Nat.le_refl _,e2,by simp,rfl⟩⟩
   | false=>
    obtain ⟨r',h1,h2,h3⟩:=wY kt k w l1 l2 (i + 1) r k2 h
    refine ⟨r',h1,h2,fun j v hj=> ?_⟩
    obtain ⟨h4,e',h5,h6⟩:=h3 j v hj
    refine ⟨by omega,e',?_,h6⟩
    rw [show j - i=(j - (i + 1)) + 1 by omega,List.getElem?_cons_succ]
    exact h5
theorem KU {kt:TypeId} {k:Value} {l1 l2:List MapEntry} {r:Option (Nat×Value)} (hk:l1.map (·.key)=l2.map (·.key)) (h:qj P (Instr.findKey kt k l1)=some r) (w:World):
  ∃r',(Instr.findKey kt k l2).run P w= .ok r' w∧r'.map (·.1)=r.map (·.1)∧∀j v,r'=some (j,v)→∃e,l2[j]? =some e∧e.val=v:=by
 unfold Instr.findKey at h ⊢
 rw [Jd,ab4] at h
 cases hu:P.underlying kt with
 | none=> rw [hu] at h;cases h
 | some d=>
  rw [hu] at h
  have h:qj P (match Instr.findNow d k l1 0 with | some r=> pure r | none=> Instr.findAsking kt k l1)=some r:=h
  rw [Sem.run_bind,run_underlying hu]
  show ∃r',(match Instr.findNow d k l2 0 with | some r=> pure r | none=> Instr.findAsking kt k l2:Sem _).run P w= .ok r' w∧_
  cases hn:Instr.findNow d k l1 0 with
  | some q=>
   rw [hn] at h
   injection h with h
   subst h
   obtain ⟨r',h1,h2,h3⟩:=wW d k l1 l2 0 q hk hn
   rw [h1]
   exact ⟨r',rfl,h2,fun j v hj=> (h3 j v hj).2⟩
  | none=>
   rw [hn] at h
   rw [wX d k l1 l2 0 hk hn]
   obtain ⟨r',h1,h2,h3⟩:=wY kt k w l1 l2 0 r hk h
   exact ⟨r',h1,h2,fun j v hj=> (h3 j v hj).2⟩
theorem Je:∀(es:List (CV×CV)) (ks ents:List MapEntry),ents.length=es.length→(∀(j:Nat) (p:CV×CV) (e:MapEntry),es[j]? =some p→ents[j]? =some e→VR σ p.1 e.key)→ah6 es=some ks→ks.map (·.key)=ents.map (·.key)
 | [],ks,ents,hl,_,h=> by
  injection h with h
  subst h
  have:ents= []:=List.eq_nil_of_length_eq_zero hl
  subst this
  rfl
 | q::es,ks,ents,hl,hr,h=> by
  obtain ⟨v,h1,h⟩:=aj (show ob (toV q.1) _=some ks from h)
  obtain ⟨ks',h2,h⟩:=aj h
  injection h with h
  subst h
  cases ents with
  | nil=> cases hl
  | cons e ents=>
   rw [List.map_cons,List.map_cons,Je es ks' ents (by simpa using hl) (fun j p e hp he=> hr (j + 1) p e (by simpa using hp) (by simpa using he)) h2]
   have:=toV_rel (hr 0 q e rfl rfl) h1
   rw [this]
   rfl
theorem Jf {t:TypeId} (h:Tj P t=true):∃k,P.underlying t=some (.int k):=by
 unfold Tj und at h
 cases hu:P.underlying t with
 | none=> rw [hu] at h;cases h
 | some d=>
  rw [hu] at h
  cases d with
  | int k=> exact ⟨k,rfl⟩
  | _=> cases h
theorem wZ {t:TypeId} {k:IntKind} (hu:P.underlying t=some (.int k)) (e:Bool) (n:Nat) (v:Value) (w:World):(Instr.checkKey e (n + 1) t v).run P w= .ok () w:=by
 unfold Instr.checkKey
 rw [Sem.run_bind,run_underlying hu]
 rfl
theorem ab5 {t:TypeId} {k:IntKind} (hu:P.underlying t=some (.int k)) (cs:Array Value) (o:Nat) (ho:o < cs.size) (w:World):(part t cs o).run P w= .ok cs[o] w:=by
 simp [part,isAgg,Sem.run_bind,run_underlying hu,Array.getElem?_eq_getElem ho]
theorem Dy {cs:Array Value} (e:Bool) (m:Nat) (w:World):∀(fs:List Field),abC P cs.size fs=true→(forIn fs PUnit.unit fun f (_:PUnit)=> (do
   if f.name≠ "_" then Instr.checkKey e (m + 1) f.type (←part f.type cs f.offset)
   pure (ForInStep.yield PUnit.unit):Sem (ForInStep PUnit))).run P w= .ok PUnit.unit w
 | [],_=> rfl
 | f::fs,h=> by
  have h:bG (Tj P f.type) (bG (Nat.ble (Nat.succ f.offset) cs.size) (abC P cs.size fs) false) false=true:=h
  cases h1:Tj P f.type with
  | false=> rw [h1] at h;cases h
  | true=>
   rw [h1] at h
   cases h2:Nat.ble (Nat.succ f.offset) cs.size with
   | false=> rw [h2] at h;cases h
   | true=>
    rw [h2] at h
    have h3:f.offset < cs.size:=aN h2
    obtain ⟨k,hu⟩:=Jf h1
    rw [List.forIn_cons]
    by_cases hn:f.name≠ "_"
    ·simp only [hn,if_true,Sem.run_bind,ab5 hu cs _ h3,wZ hu,Result.andThen_ok,Sem.run_pure,ne_eq,not_false_eq_true]
     exact Dy e m w fs h
    ·simp only [hn,if_false,Sem.run_bind,Result.andThen_ok,Sem.run_pure]
     exact Dy e m w fs h
theorem ab6 {kt:TypeId} {e:Bool} {k:CV} {kv:Value} (hk:VR σ k kv) (h:afd P kt k=true):∃d,P.underlying kt=some d∧∀w,(Instr.checkKey e 10000 kt kv).run P w= .ok () w:=by
 cases k with
 | u i=>
  obtain ⟨q,hu⟩:=Jf (show Tj P kt=true from h)
  exact ⟨_,hu,fun w=> wZ hu e 9999 kv w⟩
 | agg cs=>
  unfold afd und at h
  cases hu:P.underlying kt with
  | none=> rw [hu] at h;cases h
  | some d=>
   rw [hu] at h
   cases d with
   | struct fs=>
    obtain ⟨vs,rfl,hl,_⟩:=hk.Dw
    refine ⟨_,rfl,fun w=> ?_⟩
    have hf:abC P vs.size fs.toList=true:=by
     have:abC P (len cs) fs.toList=true:=h
     rw [len_eq] at this
     have e1:=hl.1
     simp at e1
     rw [e1]
     exact this
    unfold Instr.checkKey
    rw [Sem.run_bind,run_underlying hu]
    simp only [Result.andThen_ok]
    rw [←Array.forIn_toList,Sem.run_bind,Dy (P:=P) e 9998 w fs.toList hf]
    rfl
   | _=> cases h
 | _=> cases h
theorem Dz {kt:TypeId} {eB:Bool} {k:CV} {kv:Value} {es:List (CV×CV)} {r:Option (Nat×Value)} {ents:List MapEntry} (hk:VR σ k kv) (hl:ents.length=es.length) (hr:∀(j:Nat) (p:CV×CV) (e:MapEntry),es[j]? =some p→ents[j]? =some e→VR σ p.1 e.key)
  (h:Dl P kt eB k es=some r) (w:World):(Instr.checkKey eB 10000 kt kv).run P w= .ok () w∧∃r',(Instr.findKey kt kv ents).run P w= .ok r' w∧r'.map (·.1)=r.map (·.1)∧∀j v,r'=some (j,v)→∃e,ents[j]? =some e∧e.val=v:=by
 cases h1:toV k with
 | none=>
  unfold Dl at h
  rw [h1] at h
  obtain ⟨h2,h3⟩:=aC (show fP (Bool.and (kD es) (afd P kt k)) (some none)=some r from h)
  obtain ⟨h4,h5⟩:=and_true h2
  injection h3 with h3
  subst h3
  have he:es= []:=by
   cases es with
   | nil=> rfl
   | cons=> cases h4
  subst he
  have hn:ents= []:=List.eq_nil_of_length_eq_zero hl
  subst hn
  obtain ⟨d,hu,hc⟩:=ab6 (e:=eB) hk h5
  refine ⟨hc w,none,?_,rfl,fun j v h=> by cases h⟩
  unfold Instr.findKey
  rw [Sem.run_bind,run_underlying hu]
  rfl
 | some u=>
 unfold Dl at h
 rw [h1] at h
 obtain ⟨x,h2,h⟩:=aj (show ob (qj P (Instr.checkKey eB 10000 kt u)) _=some r from h)
 obtain ⟨ks,h3,h4⟩:=aj h
 have:=toV_rel hk h1
 subst this
 exact ⟨oZ _ h2 w,KU (Je es ks ents hl hr h3) h4 w⟩
theorem Jg {α:Type} (l:List α):kD l=l.isEmpty:=by cases l <;> rfl
theorem DC {w0:Base} {H:Tr aP} {nx:Nat} (hs:R w0 σ H nx w) {c:CV} {v:Value} {es:List (CV×CV)} (hv:VR σ c v) (h:mapOf H c=some es):
  (v= .map none∧es= [])∨∃l lc ents bs clock,c= .m l∧σ l=some lc∧H.get l=some (.mp es bs clock)∧v= .map (some lc.blk)∧w.heap[lc.blk]? =some (.map ents clock)∧MapKept.Stamped ents clock∧ents.toList.map (·.born)=bs∧ents.size=es.length∧∀(j:Nat) (p:CV×CV) (e:MapEntry),es[j]? =some p→ents[j]? =some e→VR σ p.1 e.key∧VR σ p.2 e.val:=by
 cases c with
 | v y=>
  obtain ⟨hn,h5⟩:=aC (show fP (Dj y) _=some es from h)
  injection h5 with h5
  left
  have:=hv.val
  rw [this]
  refine ⟨?_,h5.symm⟩
  unfold Dj at hn
  split at hn
  ·rfl
  ·cases hn
 | m l=>
  right
  obtain ⟨b,h1,h2⟩:=aj (show ob (H.get l) _=some es from h)
  cases b with
  | cl=> cases h2
  | it=> cases h2
  | mu=> cases h2
  | mp xs bs ck=>
   injection h2 with h2
   subst h2
   cases hv with
   | m hc=>
    obtain ⟨ents,k1,k2,kb,k3,k4⟩:=hs.blk l _ _ hc h1
    exact ⟨l,_,ents,bs,ck,rfl,hc,h1,rfl,k1,k2,kb,k3,k4⟩
 | _=> cases h
theorem KW {ok b:Bool} {c:CV} {v:Value} (h:VR σ c v):VR σ (okC ok b c) (if ok then .tuple #[v,.bool b] else v):=by
 cases ok with
 | false=> exact h
 | true=> exact VR.mY (.cons h (.cons (.v (.bool b) rfl) (.nil σ)))
theorem xg {β:Type} {x:CV} {f:Int→Option β} {r:β} (h:isI x f=some r):∃n,x= .v (.int .i64 n)∧f n=some r:=by
 obtain ⟨y,rfl,h⟩:=rH h
 cases y with
 | int k n=>
  obtain ⟨h1,h2⟩:=aC (show fP (KC k .i64) (f n)=some r from h)
  rw [mZ h1]
  exact ⟨n,rfl,h2⟩
 | _=> cases h
theorem rO (n:Int):∀(l:List MapEntry) (i:Nat),(∀e∈l,∃m,e.key= .int .i64 m)→
  ((Instr.findNow (.int .i64) (.int .i64 n) l i=some none∧∀e∈l,e.key≠ .int .i64 n)∨∃j v,Instr.findNow (.int .i64) (.int .i64 n) l i=some (some (j,v))∧∃e∈l,e.key= .int .i64 n∧e.val=v)
 | [],i,_=> Or.inl ⟨rfl,fun e he=> by cases he⟩
 | e::l,i,h=> by
  obtain ⟨m,hm⟩:=h e (List.mem_cons_self ..)
  by_cases hmn:m=n
  ·subst hmn
   right
   refine ⟨i,e.val,?_,e,List.mem_cons_self ..,hm,rfl⟩
   simp [Instr.findNow,hm,Instr.sameNow]
  ·have hs:Instr.findNow (.int .i64) (.int .i64 n) (e::l) i=Instr.findNow (.int .i64) (.int .i64 n) l (i + 1):=by
    have hne:(n==m)=false:=by simpa using fun e:n=m=> hmn e.symm
    simp [Instr.findNow,hm,Instr.sameNow,hne]
   rw [hs]
   rcases rO n l (i + 1) (fun e' he'=> h e' (List.mem_cons_of_mem _ he')) with ⟨h1,h2⟩ | ⟨j,v,h1,e',he',h2⟩
   ·refine Or.inl ⟨h1,fun e' he'=> ?_⟩
    rcases List.mem_cons.1 he' with rfl | he'
    ·rw [hm]
     intro e2
     injection e2 with _ e2
     exact hmn e2
    ·exact h2 e' he'
   ·exact Or.inr ⟨j,v,h1,e',List.mem_cons_of_mem _ he',h2⟩
theorem AU (n:Int):∀(es:List (Int×CV)),(∀p∈es,p.1=n→p.2∈hits n es)∧(∀c∈hits n es,∃p∈es,p.1=n∧p.2=c)
 | []=> And.intro (fun p hp=> by cases hp) (fun c (hc:c∈([]:List CV))=> by cases hc)
 | q::es=> by
  obtain ⟨h1,h2⟩:=AU n es
  have e:hits n (q::es)=bG (ieq n q.1) (q.2::hits n es) (hits n es):=rfl
  rw [e,rM]
  by_cases hq:n=q.1
  ·rw [decide_eq_true hq]
   refine ⟨fun p hp hn=> ?_,fun c hc=> ?_⟩
   ·rcases List.mem_cons.1 hp with rfl | hp
    ·exact List.mem_cons_self ..
    ·exact List.mem_cons_of_mem _ (h1 p hp hn)
   ·rcases List.mem_cons.1 hc with rfl | hc
    ·exact ⟨q,List.mem_cons_self ..,hq.symm,rfl⟩
    ·obtain ⟨p,a,b⟩:=h2 c hc
     exact ⟨p,List.mem_cons_of_mem _ a,b⟩
  ·rw [decide_eq_false hq]
   refine ⟨fun p hp hn=> ?_,fun c hc=> ?_⟩
   ·rcases List.mem_cons.1 hp with rfl | hp
    ·exact absurd hn.symm hq
    ·exact h1 p hp hn
   ·obtain ⟨p,a,b⟩:=h2 c hc
    exact ⟨p,List.mem_cons_of_mem _ a,b⟩
theorem afE {w0:Base} {H:Tr aP} {nx:Nat} (hs:R w0 σ H nx w) {t kt e:TypeId} {c ci:CV} {vx vi:Value} {ok:Bool} {v:CV} (hu:P.underlying t=some (.map kt e)) (hx:VR σ c vx) (hi:VR σ ci vi) (h:ah8 P H kt e c ci ok=some v):∃u,(Instr.lookup t vx vi ok).run P w= .ok u w∧VR σ v u:=by
 obtain ⟨l,rfl,h⟩:=wS h
 obtain ⟨b,h1,h⟩:=aj h
 cases b with
 | cl=> cases h
 | mp=> cases h
 | it=> cases h
 | mu es=>
  obtain ⟨q,h2,h⟩:=aj (show (ob (aff P kt) fun _=> isI ci fun n=> aj3 (ob (P.info? e) fun ie=> ob ie.zero fun z=> ob (Y4 z) fun c=> some (okC ok false c)) ok (hits n es))=some v from h)
  obtain ⟨n,rfl,h'⟩:=xg h
  clear h
  have h:=h'
  clear h'
  have hk:P.underlying kt=some (.int .i64):=by
   obtain ⟨d,k1,k2⟩:=aj h2
   cases d with
   | int k=>
    obtain ⟨k3,_⟩:=aC (show fP (KC k .i64) (some 0)=some q from k2)
    rw [←mZ k3]
    exact k1
   | _=> cases k2
  cases hx with
  | m hl=>
   rename_i lc
   obtain ⟨ents,ck,g1,g2,g3,g4⟩:=hs.blk l lc _ hl h1
   have hg:(getObj lc.blk).run P w= .ok (.map ents ck) w:=by
    simp [getObj,Sem.run,g1]
   have hck:(Instr.checkKey ents.isEmpty 10000 kt vi).run P w= .ok () w:=MapKept.run_checkKey (w:=w) (k:=vi) hk (by rw [hi.val];exact rfl) ents.isEmpty 9999
   have hu2:(underlying t).run P w= .ok (.map kt e) w:=run_underlying hu w
   have hvi:=hi.val
   subst hvi
   obtain ⟨a1,a2⟩:=AU n es
   rcases rO n ents.toList 0 (fun e he=> let ⟨p,_,h,_⟩:=g3 e he;⟨p.1,h⟩) with ⟨f1,f2⟩ | ⟨j,vv,f1,e',he',f2,f3⟩
   ·have hfk:=MapKept.run_findKey (w:=w) hk f1
    have hno:hits n es= []:=by
     cases hh:hits n es with
     | nil=> rfl
     | cons c r=>
      obtain ⟨p,p1,p2,_⟩:=a2 c (by rw [hh];exact List.mem_cons_self ..)
      obtain ⟨e2,e3,e4⟩:=g4 p p1
      exact absurd (by rw [e4,p2]) (f2 e2 e3)
    rw [hno] at h
    obtain ⟨ie,h5,h⟩:=aj (show ob (P.info? e) _=some v from h)
    obtain ⟨z,h6,h⟩:=aj h
    obtain ⟨cz,h7,h⟩:=aj h
    injection h with h
    subst h
    refine ⟨if ok then .tuple #[z,.bool false] else z,?_,KW (lX σ h7)⟩
    unfold Instr.lookup
    simp only [Sem.run_bind,hu2,hg,Result.andThen_ok,hck,hfk]
    cases ok
    ·simp [hck,hfk,Result.andThen,zeroValue,typeInfo,h5,h6]
    ·simp [hck,hfk,Result.andThen,zeroValue,typeInfo,h5,h6]
   ·have hfk:=MapKept.run_findKey (w:=w) hk f1
    obtain ⟨p,p1,p2,p3⟩:=g3 e' he'
    have hpn:p.1=n:=by
     rw [f2] at p2
     injection p2 with _ p2
     exact p2.symm
    have hin:=a1 p p1 hpn
    unfold aj3 at h
    split at h
    ·rename_i hh
     rw [hh] at hin
     cases hin
    ·rename_i c hh
     rw [hh] at hin
     have hin:=List.mem_singleton.1 hin
     injection h with h
     subst h
     rw [←hin]
     refine ⟨if ok then .tuple #[vv,.bool true] else vv,?_,KW (by rw [←f3];exact p3)⟩
     unfold Instr.lookup
     simp only [Sem.run_bind,hu2,hg,Result.andThen_ok,hck,hfk]
     cases ok <;> simp [hck,hfk,Result.andThen]
    ·cases h
theorem aks {w0:Base} {H:Tr aP} {nx:Nat} (hs:R w0 σ H nx w) {t:TypeId} {x i:Operand} {ok:Bool} {v:CV} (hev:yg σ E ρ #[x,i]) (h:aie P E H t x i ok=some v):∃u,(Instr.lookup t (ρ x) (ρ i) ok).run P w= .ok u w∧VR σ v u:=by
 obtain ⟨c,h1,h⟩:=aj h
 obtain ⟨ci,h2,h⟩:=aj h
 have hx:=hev x (by simp) _ h1
 have hi:=hev i (by simp) _ h2
 obtain ⟨kt,e,hu,h⟩:=wV h
 cases h3:mapOf H c with
 | none=>
  rw [h3] at h
  exact afE hs hu hx hi h
 | some es=>
 rw [h3] at h
 obtain ⟨r,h4,h⟩:=aj (show og P kt e es ci ok=some v from h)
 have zero:r=none→∃z u,(zeroValue e).run P w= .ok z w∧u=(if ok then .tuple #[z,.bool false] else z)∧VR σ v u:=by
  intro hr
  subst hr
  obtain ⟨ie,h5,h⟩:=aj (show ob (P.info? e) _=some v from h)
  obtain ⟨z,h6,h⟩:=aj h
  obtain ⟨cz,h7,h⟩:=aj h
  injection h with h
  subst h
  exact ⟨z,_,by simp [zeroValue,typeInfo,h5,h6],rfl,KW (lX σ h7)⟩
 have fin:∀(es':Array MapEntry) (ents:List MapEntry),es'.toList=ents→ents.length=es.length→(∀(j:Nat) (p:CV×CV) (e:MapEntry),es[j]? =some p→ents[j]? =some e→VR σ p.1 e.key∧VR σ p.2 e.val)→
   ∃u,(do Instr.checkKey es'.isEmpty 10000 kt (ρ i);match←Instr.findKey kt (ρ i) es'.toList with | some (_,v)=> pure (if ok then .tuple #[v,.bool true] else v) | none=> (do let z←zeroValue e;pure (if ok then .tuple #[z,.bool false] else z)):Sem Value).run P w= .ok u w∧VR σ v u:=by
  intro es' ents he hl hr
  subst he
  obtain ⟨k1,r',k2,k3,k4⟩:=Dz hi hl (fun j p e hp he=> (hr j p e hp he).1) h4 w
  have hE:es'.isEmpty=kD es:=by
   rw [Jg,←Array.isEmpty_toList]
   cases he:es'.toList with
   | nil=>
    rw [he] at hl
    have:es= []:=List.eq_nil_of_length_eq_zero (by simpa using hl.symm)
    rw [this]
    rfl
   | cons a l=>
    rw [he] at hl
    cases es with
    | nil=> cases hl
    | cons=> rfl
  rw [hE,Sem.run_bind,k1]
  simp only [Result.andThen_ok]
  rw [Sem.run_bind,k2]
  simp only [Result.andThen_ok]
  cases r' with
  | none=>
   have hr0:r=none:=by
    cases r with
    | none=> rfl
    | some q=> cases k3
   obtain ⟨z,u,z1,z2,z3⟩:=zero hr0
   refine ⟨u,?_,z3⟩
   subst z2
   simp [z1]
  | some q=>
   obtain ⟨j,vv⟩:=q
   cases r with
   | none=> cases k3
   | some q'=>
    injection k3 with k3
    have k3:j=q'.1:=k3
    obtain ⟨en,h5,h6⟩:=k4 j vv rfl
    obtain ⟨p,h7,h8⟩:=aj (show ob (nth es q'.1) _=some v from h)
    injection h8 with h8
    subst h8
    rw [iE,←k3] at h7
    have:=(hr j p en h7 h5).2
    rw [h6] at this
    exact ⟨_,rfl,KW this⟩
 have hu2:(underlying t).run P w= .ok (.map kt e) w:=run_underlying hu w
 rcases DC hs hx h3 with ⟨e1,e2⟩ | ⟨l,lc,ents,_,clock,rfl,hc,hH,e1,k1,k2,_,k3,k4⟩
 ·subst e2
  obtain ⟨u,f1,f2⟩:=fin #[] [] rfl rfl (fun j p e hp=> by simp at hp)
  refine ⟨u,?_,f2⟩
  rw [e1]
  unfold Instr.lookup
  simp only [Sem.run_bind,hu2,Result.andThen_ok,Sem.run_pure] at f1 ⊢
  exact f1
 ·obtain ⟨u,f1,f2⟩:=fin ents ents.toList rfl (by simpa using k3) (fun j p e hp he=> k4 j p e hp (by simpa using he))
  refine ⟨u,?_,f2⟩
  rw [e1]
  have hg:(getObj lc.blk).run P w= .ok (.map ents clock) w:=by
   simp [getObj,Sem.run,k1]
  unfold Instr.lookup
  simp only [Sem.run_bind,hu2,hg,Result.andThen_ok,Sem.run_pure] at f1 ⊢
  exact f1
end
end Ci
end Go.Proofs.YtnegekppaoedgaaGreatDoor

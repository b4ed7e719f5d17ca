/-
Running code on constants: regions that draw their order, code, functions. Over any program.
-/
import Derived.Test.YtnegekppaoedgaaGreatDoorQ09
import Derived.Deep.LoopGhost
import Derived.Shelf.Strings.OnBuilder
import Derived.Shelf.Strconv.Itoa3
set_option linter.all false
noncomputable section
namespace Go.Proofs.YtnegekppaoedgaaGreatDoor
namespace Ci
open Go.RowKit
variable [fE]
section
variable {P : Program} {G : Base → Prop} {C : Callee} {ops : Array Oper} {b : Tr Nat} {E0 : Tr CV} {base nt : Nat} {w0 : Base} {σ0 : Nm} {Yd : dY} {Q : Exit → Act → World → Prop}
abbrev Bits (m:Nat):Nat→Prop:=fun j=> m.testBit j=true
theorem Qq (m i:Nat):(fun j=> Bits m j∨j=i)=Bits (Nat.lor m (Nat.pow 2 i)):=by
 funext j
 exact propext afR.symm
theorem advance (hpl:Pl ops b nt) {X:Nat→Prop} {σ:Nm} {a:Act} {w:World}:∀(sc:List Sp) (m:Nat) (st:dY),PS ops.toList b sc m=true→Dp P C ops.toList base sc st=some Yd→Inv P ops b E0 base w0 nt σ0 st (Bits m) X σ a w→
  ∃sc' m' st',PS ops.toList b sc' m'=true∧Dp P C ops.toList base sc' st'=some Yd∧Inv P ops b E0 base w0 nt σ0 st' (Bits m') X σ a w∧(sc'= []∨∃i rs tl,sc'= .e i rs::tl)
 | [],m,st,h1,h2,h3=> ⟨[],m,st,h1,h2,h3,Or.inl rfl⟩
 | .e i rs::tl,m,st,h1,h2,h3=> ⟨_,m,st,h1,h2,h3,Or.inr ⟨i,rs,tl,rfl⟩⟩
 | .q i::sc,m,st,h1,h2,h3=> by
  have h1:bG (qOk ops.toList b i m false) (PS ops.toList b sc (Nat.lor m (Nat.pow 2 i))) false=true:=h1
  cases hq:qOk ops.toList b i m false
  ·rw [hq] at h1;cases h1
  ·rw [hq] at h1
   obtain ⟨o,k1,k2,k3,k4⟩:=Tz hq
   rw [Array.getElem?_toList] at k1
   obtain ⟨st1,g1,g2⟩:=aj (show ob (spQ P C ops.toList base i st) (Dp P C ops.toList base sc)=some Yd from h2)
   obtain ⟨o',g3,g4⟩:=aj (show ob (nth ops.toList i) (fun o=> Hq P C ops.toList o (Nat.add base i) st)=some st1 from g1)
   rw [iE,Array.getElem?_toList,k1] at g3
   injection g3 with g3
   subst g3
   have:=h3.plan (C:=C) hpl k1 (fun e=> by have:=k2.2 e;cases this) (by show ¬m.testBit i=true;rw [k3];simp) k4 g4
   rw [Qq] at this
   exact advance hpl sc _ st1 h1 g2 this
abbrev Lst (listed:Array Bool):Nat→Prop:=fun j=> listed.getD j false=true
theorem afV {listed:Array Bool} {i:Nat} (hi:i < listed.size):(fun j=> Lst listed j∨j=i)=Lst (listed.setIfInBounds i true):=by
 funext j
 apply propext
 show (listed.getD j false=true∨j=i)↔(listed.setIfInBounds i true).getD j false=true
 by_cases hj:j=i
 ·subst hj
  simp [hi]
 ·rw [getD_set_ne false (Ne.symm hj)]
  simp [hj]
def unl (listed:Array Bool):Nat:=listed.toList.countP fun x=> !x
theorem afX {listed:Array Bool} {i:Nat} (hi:listed[i]? =some false):unl (listed.setIfInBounds i true) + 1=unl listed:=by
 have hlt:i < listed.size:=(Array.getElem?_eq_some_iff.1 hi).1
 have he:listed.toList[i]'(by simpa using hlt)=false:=by
  have:=(Array.getElem?_eq_some_iff.1 hi).2
  simpa using this
 have hs:∀(l:List Bool) (i:Nat) (h:i < l.length),l[i]=false→(l.set i true).countP (fun x=> !x) + 1=l.countP fun x=> !x:=by
  intro l
  induction l with
  | nil=> intro i h;simp at h
  | cons x l ih=>
   intro i h he
   cases i with
   | zero=>
    simp at he
    subst he
    simp
   | succ i=>
    have:=ih i (by simpa using h) (by simpa using he)
    simp only [List.set_cons_succ,List.countP_cons]
    omega
 unfold unl
 rw [Array.toList_setIfInBounds]
 exact hs listed.toList i (by simpa using hlt) he
theorem acn {listed:Array Bool} (h:unl listed=0):∀i,i < listed.size→Lst listed i:=by
 intro i hi
 unfold unl at h
 rw [List.countP_eq_zero] at h
 have:=h listed[i] (by simp)
 show listed.getD i false=true
 rw [Array.getD_eq_getD_getElem?,Array.getElem?_eq_getElem hi]
 simpa using this
theorem Ye (hpl:Pl ops b nt) {listed:Array Bool} (hsz:listed.size=ops.size) (h:Region.ready .any ops listed= []):∀i,i < ops.size→Lst listed i:=by
 intro i
 induction i using Nat.strongRecOn with
 | ind i ih=>
  intro hi
  cases hc:listed.getD i false
  ·exfalso
   have hx:listed.getD i true=false:=by
    rw [Array.getD_eq_getD_getElem?,Array.getElem?_eq_getElem (by omega)] at hc ⊢
    exact hc
   have:i∈Region.ready .any ops listed:=mem_ready.2 ⟨hx,ops[i],Array.getElem?_eq_getElem hi,fun e he hb=> by
    have hlt:=hpl.back i ops[i] (Array.getElem?_eq_getElem hi) e he hb
    exact ih e.on hlt (by omega)⟩
   rw [h] at this
   cases this
  ·exact hc
theorem finish {X:Nat→Prop} (hX:∀i,i < ops.size→X i) (hpl:Pl ops b nt) {σ:Nm} {a:Act} {w:World} {sc:List Sp} {m:Nat} {st:dY} (h1:PS ops.toList b sc m=true) (h2:Dp P C ops.toList base sc st=some Yd) (h3:Inv P ops b E0 base w0 nt σ0 st (Bits m) X σ a w):Goes w0 nt σ0 base Yd a w:=by
 obtain ⟨sc',m',st',k1,k2,k3,k4⟩:=advance hpl sc m st h1 h2 h3
 rcases k4 with rfl | ⟨i,rs,tl,rfl⟩
 ·injection (show some st'=some Yd from k2) with k2
  subst k2
  have:=k3.room
  exact ⟨σ,k3.le,k3.low,by omega,k3.r,fun t c hc=> k3.env t c hc fun j o hj _=> hX j (Array.getElem?_eq_some_iff.1 hj).1,k3.size,k3.defers⟩
 ·have k1:bG (Bool.and (qOk ops.toList b i m' true) (Bool.and (qo b i ops.toList 0 m') (kE (kL (b.get i)) ops.toList 0 m' (wO rs)))) (PS ops.toList b tl (Nat.lor m' (Nat.pow 2 i))) false=true:=k1
  cases hq:Bool.and (qOk ops.toList b i m' true) (Bool.and (qo b i ops.toList 0 m') (kE (kL (b.get i)) ops.toList 0 m' (wO rs)))
  ·rw [hq] at k1;cases k1
  ·obtain ⟨q1,_⟩:=and_true hq
   obtain ⟨o,g1,_,g3,_⟩:=Tz q1
   rw [Array.getElem?_toList] at g1
   have:=k3.sub i (hX i (Array.getElem?_eq_some_iff.1 g1).1)
   have this:m'.testBit i=true:=this
   rw [g3] at this
   cases this
theorem TD (hC:jq P G C) (hG:G w0) (hpl:Pl ops b nt) (hQ:∀a' w',Goes w0 nt σ0 base Yd a' w'→Q .normal a' w'):∀(n:Nat) (listed:Array Bool) (sc:List Sp) (m:Nat) (st:dY) (σ:Nm) (a:Act) (w:World),listed.size=ops.size→unl listed≤n→
  PS ops.toList b sc m=true→Dp P C ops.toList base sc st=some Yd→Inv P ops b E0 base w0 nt σ0 st (Bits m) (Lst listed) σ a w→wpAny P .any ops Q n listed a w
 | 0,listed,sc,m,st,σ,a,w,hsz,hn,h1,h2,h3=> by
  have hall:∀i,i < ops.size→Lst listed i:=fun i hi=> acn (by omega) i (by omega)
  refine ⟨?_,hQ a w (finish hall hpl h1 h2 h3)⟩
  cases hr:Region.ready .any ops listed with
  | nil=> rfl
  | cons i l=>
   have hi:i∈Region.ready .any ops listed:=by rw [hr];exact List.mem_cons_self ..
   obtain ⟨k1,o,k2,_⟩:=mem_ready.1 hi
   have hlt:=(Array.getElem?_eq_some_iff.1 k2).1
   have:listed.getD i false=true:=hall i hlt
   rw [Array.getD_eq_getD_getElem?,Array.getElem?_eq_getElem (by omega)] at this k1
   simp at this k1
   rw [k1] at this
   cases this
 | n + 1,listed,sc,m,st,σ,a,w,hsz,hn,h1,h2,h3=> by
  refine ⟨fun hr=> hQ a w (finish (Ye hpl hsz hr) hpl h1 h2 h3),fun i hi=> ?_⟩
  obtain ⟨k1,o,k2,k3⟩:=mem_ready.1 hi
  have hlt:=(Array.getElem?_eq_some_iff.1 k2).1
  have hli:listed[i]? =some false:=by
   rw [Array.getD_eq_getD_getElem?,Array.getElem?_eq_getElem (by omega)] at k1
   rw [Array.getElem?_eq_getElem (by omega)]
   simpa using k1
  have hX:¬Lst listed i:=by
   show ¬listed.getD i false=true
   rw [Array.getD_eq_getD_getElem?,hli]
   simp
  obtain ⟨sc',m',st',g1,g2,g3,g4⟩:=advance hpl sc m st h1 h2 h3
  have hb:∀j,(kL (b.get i)).testBit j=true→Lst listed j:=hpl.bef.closed (X:=Lst listed) g3.cX (i:=i) (o:=o) (by simpa using k2) k3
  unfold wpOp
  simp only [k2]
  have go:∀{R1 R2 R3:Prop} {t:Bool},(if t then R1 else R2)→(if t then R1∨R3 else R2):=by
   intro R1 R2 R3 t h
   cases t
   ·exact h
   ·exact Or.inl h
  apply go
  have hsz':(listed.setIfInBounds i true).size=ops.size:=by simpa using hsz
  have hun:unl (listed.setIfInBounds i true)≤n:=by
   have:=afX hli
   omega
  have hset:=afV (listed:=listed) (i:=i) (by omega)
  by_cases hD:m'.testBit i=true
  ·refine g3.come hpl k2 hD hX hb fun σ' a' w' hI=> ?_
   rw [hset] at hI
   exact TD hC hG hpl hQ n _ sc' m' st' σ' a' w' hsz' hun g1 g2 hI
  ·rcases g4 with rfl | ⟨i',rs,tl,rfl⟩
   ·have g1:Nat.beq m' (Nat.pred (Nat.pow 2 (len ops.toList)))=true:=g1
    have:=ay g1
    rw [this,afS,len_eq] at hD
    simp at hD
    omega
   ·have g1:bG (Bool.and (qOk ops.toList b i' m' true) (Bool.and (qo b i' ops.toList 0 m') (kE (kL (b.get i')) ops.toList 0 m' (wO rs)))) (PS ops.toList b tl (Nat.lor m' (Nat.pow 2 i'))) false=true:=g1
    cases hq:Bool.and (qOk ops.toList b i' m' true) (Bool.and (qo b i' ops.toList 0 m') (kE (kL (b.get i')) ops.toList 0 m' (wO rs)))
    ·rw [hq] at g1;cases g1
    rw [hq] at g1
    obtain ⟨q1,q2⟩:=and_true hq
    obtain ⟨q2,q3⟩:=and_true q2
    obtain ⟨o',r1,r2,r3,r4⟩:=Tz q1
    rw [Array.getElem?_toList] at r1
    have hie:i=i':=by
     have:=DN ops.toList 0 m' q2 i (by simpa using hlt)
     rw [Nat.zero_add] at this
     rcases this with e | e | e
     ·exact absurd e hD
     ·exact e
     ·have:=g3.sub _ (hb _ e)
      have this:m'.testBit i'=true:=this
      rw [r3] at this
      cases this
    subst hie
    rw [k2] at r1
    injection r1 with r1
    subst r1
    obtain ⟨st1,s1,s2⟩:=aj (show ob (spQ P C ops.toList base i st') (fun st=> fP (again P ops.toList base st rs) (Dp P C ops.toList base tl st))=some Yd from g2)
    obtain ⟨s3,s4⟩:=aC s2
    obtain ⟨o',s5,s6⟩:=aj (show ob (nth ops.toList i) (fun o=> Hq P C ops.toList o (Nat.add base i) st')=some st1 from s1)
    rw [iE,Array.getElem?_toList,k2] at s5
    injection s5 with s5
    subst s5
    refine g3.effect hC hG hpl k2 (r2.1 rfl) hD hb s6 s3 (fun j o' hj hdj hxj hin=> ?_) fun σ' a' w' hI=> ?_
    ·have hkj:cls o'.op≠2:=fun e=> hxj (g3.eff j o' hj hdj e)
     have:=DR ops.toList 0 m' (wO rs) q3 j o' (by simpa using hj) (by rw [Nat.zero_add];exact hdj) hkj hin
     rw [Nat.zero_add] at this
     rcases this with e | e
     ·exact absurd (hb j e) hxj
     ·exact Qo e
    ·rw [hset,Qq] at hI
     exact TD hC hG hpl hQ n _ tl _ st1 σ' a' w' hsz' hun g1 s4 hI
theorem afY (hm:P.follows .mixedOrders=true) (hC:jq P G C) (hG:G w0) (hdst:∀o∈ops,∀t,o.dst=some t→t < nt) {st:dY} {σ:Nm} {a:Act} {w:World} (hok:Ok w0 nt st σ a w) (h:aki P C ops st=some Yd) {id:Nat}
  (hQ:∀a' w',Goes w0 nt σ st.nx Yd a' w'→Q .normal a' w'):(Code.region id ops true).wp P Q a w:=by
 obtain ⟨sc,h1,h2⟩:=aj h
 obtain ⟨D,h3,h4⟩:=aj (show ob (Dn ops.toList 0 .e) _=some sc from h1)
 obtain ⟨h5,h6⟩:=aC h4
 injection h6 with h6
 obtain ⟨h7,h8⟩:=and_true h5
 obtain ⟨h8,h9⟩:=and_true h8
 rw [h6] at h9
 obtain ⟨_,hD⟩:=Lm _ _ _ _ h3
 have hpl:Pl ops (Hr ops.toList 0 .e) nt:=by
  refine ⟨fun i j o o' d hi hj hd hd'=> ?_,fun i o hi t ht j o' hj hd=> ?_,fun i o hi e he hb=> ?_,akz _,fun i o hi t ht=> hdst o (Array.mem_of_getElem? hi) t ht⟩
  ·have e1:=hD i o d (by simpa using hi) hd
   have e2:=hD j o' d (by simpa using hj) hd'
   rw [e1] at e2
   injection e2 with e2
   omega
  ·have e1:=hD j o' t (by simpa using hj) hd
   have:=DL ops.toList 0 h8 i o (by simpa using hi)
   rw [Nat.zero_add] at this e1
   exact Jh this t ht j e1
  ·have:=Ji ops.toList 0 h7 i o (by simpa using hi) e he hb
   omega
 refine wp_region_any hm ?_
 have hun:unl (Array.replicate ops.size false)≤ops.size:=by
  unfold unl
  have:=List.countP_le_length (p:=fun x=> !x) (l:=(Array.replicate ops.size false).toList)
  simpa using this
 have hX:Lst (Array.replicate ops.size false)=fun _=> False:=by
  funext j
  apply propext
  show (Array.replicate ops.size false).getD j false=true↔False
  rw [Array.getD_eq_getD_getElem?]
  by_cases hj:j < ops.size
  ·simp [hj]
  ·simp [hj]
 have hB:Bits 0=fun _=> False:=by
  funext j
  apply propext
  show (0:Nat).testBit j=true↔False
  rw [rP]
  simp
 have hr:R w0 σ st.h (Nat.add st.nx (len ops.toList)) w:=hok.r.heap (Nat.le_add_right _ _) fun l c _=> Or.inl rfl
 refine TD (E0:=st.env) (base:=st.nx) (σ0:=σ) (Yd:=Yd) hC hG hpl hQ ops.size _ sc 0 ⟨st.env,st.h,Nat.add st.nx (len ops.toList)⟩ σ a w.drew (by simp) hun h9 h2 ?_
 rw [hX,hB]
 refine ⟨hr.drew,.refl σ,fun _ _=> rfl,?_,hok.size,hok.defers,fun t c hc _=> hok.env t c hc,fun t c hc _=> hok.env t c hc,fun _ _=> rfl,fun _ e=> e,fun _ _ _ e _=> e,fun _ e=> e.elim,fun _ e=> e.elim,fun i o hi _ _=> ?_,fun _ _ _ e=> e.elim⟩
 ·show st.nx + ops.size≤st.nx + len ops.toList
  rw [len_eq]
  simp
 ·cases hs:σ (st.nx + i) with
  | none=> rfl
  | some c=> exact absurd (hok.r.fresh _ c hs) (by omega)
end
end Ci
namespace Ci
open Go.RowKit
variable [fE]
theorem DU:∀{a b:List (CV×CV)},Ja a b=true→a=b
 | [],[],_=> rfl
 | x::l,y::r,h=> by
  obtain ⟨h1,h2⟩:=and_true (show (same x.1 y.1 && (same x.2 y.2 && Ja l r))=true from h)
  obtain ⟨h2,h3⟩:=and_true h2
  rw [DU h3,Prod.ext (same_eq h1) (same_eq h2)]
 | [],_::_,h=> by cases h
 | _::_,[],h=> by cases h
theorem rQ:∀{a b:List Nat},zM a b=true→a=b
 | [],[],_=> rfl
 | x::l,y::r,h=> by
  obtain ⟨h1,h2⟩:=and_true (show (Nat.beq x y && zM l r)=true from h)
  rw [rQ h2,ay h1]
 | [],_::_,h=> by cases h
 | _::_,[],h=> by cases h
theorem tV {α:Type} (f:α→α→Option α):∀(t u:Tr α) (k:Nat),(Dq f t u).get k=ob (t.get k) fun a=> ob (u.get k) (f a)
 | .e,u,k=> rfl
 | .n v l r,.e,k=> by
  show (Tr.e:Tr α).get k=ob ((Tr.n v l r).get k) fun a=> ob ((Tr.e:Tr α).get k) (f a)
  rw [Jb]
  cases (Tr.n v l r).get k <;> rfl
 | .n v l r,.n w l' r',k=> by
  show (Tr.n (ob v fun a=> ob w (f a)) (Dq f l l') (Dq f r r')).get k=_
  rw [wU,wU,wU]
  split
  ·rfl
  ·split
   ·exact tV f l l' _
   ·exact tV f r r' _
theorem toMu_ok:∀{es:List (CV×CV)} {l:List (Int×CV)},toMu es=some l→l.length=es.length∧∀(j:Nat) (p:Int×CV),l[j]? =some p→∃q,es[j]? =some q∧q.1= .v (.int .i64 p.1)∧q.2=p.2
 | [],l,h=> by
  injection (show some []=some l from h) with h
  subst h
  exact ⟨rfl,fun j p h=> by simp at h⟩
 | q::es,l,h=> by
  obtain ⟨n,h1,h2⟩:=xg (show isI q.1 (fun n=> ob (toMu es) fun r=> some ((n,q.2)::r))=some l from h)
  obtain ⟨r,h3,h4⟩:=aj h2
  injection h4 with h4
  subst h4
  obtain ⟨k1,k2⟩:=toMu_ok h3
  refine ⟨by simp [k1],fun j p hp=> ?_⟩
  cases j with
  | zero=>
   injection hp with hp
   subst hp
   exact ⟨q,rfl,h1,rfl⟩
  | succ j=> exact k2 j p hp
theorem Wi {b:aP} {l:List (Int×CV)} (h:akj b=some l) {σ:Nm} {w:World} {c:Loc} (hb:fH σ w c b):fH σ w c (.mu l):=by
 cases b with
 | cl=> cases h
 | it=> cases h
 | mu es=>
  injection (show some es=some l from h) with h
  subst h
  exact hb
 | mp es bs ck=>
  obtain ⟨k1,k2⟩:=toMu_ok (show toMu es=some l from h)
  obtain ⟨ents,h1,h2,_,h3,h4⟩:=hb
  refine ⟨ents,ck,h1,h2,fun e he=> ?_,fun p hp=> ?_⟩
  ·obtain ⟨j,hj⟩:=List.mem_iff_getElem?.1 he
   have hlt:=(List.getElem?_eq_some_iff.1 hj).1
   have hj2:j < l.length:=by rw [k1,←h3];simpa using hlt
   obtain ⟨q,q1,q2,q3⟩:=k2 j l[j] (List.getElem?_eq_getElem hj2)
   obtain ⟨r1,r2⟩:=h4 j q e q1 (by simpa using hj)
   rw [q2] at r1
   rw [q3] at r2
   exact ⟨l[j],List.getElem_mem hj2,r1.val,r2⟩
  ·obtain ⟨j,hj⟩:=List.mem_iff_getElem?.1 hp
   obtain ⟨q,q1,q2,q3⟩:=k2 j p hj
   have hlt:j < ents.size:=by rw [h3];exact (List.getElem?_eq_some_iff.1 q1).1
   obtain ⟨r1,_⟩:=h4 j q ents[j] q1 (Array.getElem?_eq_getElem hlt)
   rw [q2] at r1
   exact ⟨ents[j],by simp,r1.val⟩
theorem Qr {n:Int} {c:CV}:∀{l:List (Int×CV)},PV n c l=true→(n,c)∈l
 | [],h=> by cases h
 | q::r,h=> by
  have h:((ieq n q.1 && same c q.2) || PV n c r)=true:=h
  rw [Bool.or_eq_true] at h
  rcases h with h | h
  ·obtain ⟨h1,h2⟩:=and_true h
   rw [rM] at h1
   rw [of_decide_eq_true h1,same_eq h2]
   exact List.mem_cons_self ..
  ·exact List.mem_cons_of_mem _ (Qr h)
theorem DV:∀{l r:List (Int×CV)},PW l r=true→∀p∈l,p∈r
 | [],_,_,p,hp=> by cases hp
 | q::l,r,h,p,hp=> by
  obtain ⟨h1,h2⟩:=and_true (show (PV q.1 q.2 r && PW l r)=true from h)
  rcases List.mem_cons.1 hp with rfl | hp
  ·exact Qr h1
  ·exact DV h2 p hp
theorem Jk {a b b':aP} (h:Tn a b=some b') {σ:Nm} {w:World} {c:Loc}:(fH σ w c a→fH σ w c b')∧(fH σ w c b→fH σ w c b'):=by
 obtain ⟨l,h1,h⟩:=aj h
 obtain ⟨r,h2,h⟩:=aj h
 obtain ⟨h3,h4⟩:=aC h
 obtain ⟨h5,h6⟩:=and_true h3
 injection h4 with h4
 subst h4
 refine ⟨Wi h1,fun hb=> ?_⟩
 obtain ⟨ents,ck,k1,k2,k3,k4⟩:=Wi h2 hb
 exact ⟨ents,ck,k1,k2,fun e he=> let ⟨p,a1,a2⟩:=k3 e he;⟨p,DV h6 p a1,a2⟩,fun p hp=> k4 p (DV h5 p hp)⟩
theorem Qs {a b b':aP} (h:PX a b=some b') {σ:Nm} {w:World} {c:Loc}:(fH σ w c a→fH σ w c b')∧(fH σ w c b→fH σ w c b'):=by
 unfold PX at h
 split at h
 ·obtain ⟨h1,h2⟩:=aC h
  obtain ⟨h3,h4⟩:=and_true h1
  injection h2 with h2
  rw [←h2,yV h3,o7 h4]
  exact ⟨id,id⟩
 ·rename_i es bs ck es' bs' ck'
  cases hq:(Ja es es' && (zM bs bs' && Nat.beq ck ck'))
  ·rw [hq] at h
   exact Jk h
  ·rw [hq] at h
   obtain ⟨h1,h2⟩:=and_true hq
   obtain ⟨h2,h3⟩:=and_true h2
   injection (show some (aP.mp es bs ck)=some b' from h) with h
   rw [←h,DU h1,rQ h2,ay h3]
   exact ⟨id,id⟩
 ·exact Jk h
structure Wk (s s':dY):Prop where
 nx:s.nx≤s'.nx
 env:∀t c,s'.env.get t=some c→s.env.get t=some c
 h:∀l b',s'.h.get l=some b'→∃b,s.h.get l=some b∧∀(σ:Nm) (w:World) (c:Loc),fH σ w c b→fH σ w c b'
theorem Wk.refl (s:dY):Wk s s:=⟨Nat.le_refl _,fun _ _ h=> h,fun l b h=> ⟨b,h,fun _ _ _ h=> h⟩⟩
theorem Wk.trans {a b c:dY} (h:Wk a b) (k:Wk b c):Wk a c:=⟨Nat.le_trans h.nx k.nx,fun t x e=> h.env t x (k.env t x e),fun l b' e=> let ⟨b1,e1,f1⟩:=k.h l b' e;let ⟨b2,e2,f2⟩:=h.h l b1 e1;⟨b2,e2,fun σ w c hb=> f1 σ w c (f2 σ w c hb)⟩⟩
theorem Wk.ok {s s':dY} (h:Wk s s') {w0:Base} {w:World} {nt:Nat} {σ:Nm} {a:Act} (hok:Ok w0 nt s σ a w):Ok w0 nt s' σ a w:=
 ⟨hok.r.weak h.nx fun l b' hb=> let ⟨b,e,f⟩:=h.h l b' hb;⟨b,e,fun c=> f σ w c⟩,fun t c hc=> hok.env t c (h.env t c hc),hok.size,hok.defers⟩
theorem Wk.goes {s s':dY} (h:Wk s s') {w0:Base} {w:World} {nt nx:Nat} {σ:Nm} {a:Act} (hg:Goes w0 nt σ nx s a w):Goes w0 nt σ nx s' a w:=
 let ⟨σ',h1,h2,h3,h4⟩:=hg;⟨σ',h1,h2,Nat.le_trans h3 h.nx,h.ok h4⟩
theorem Qu (a b:dY):Wk a (wQ a b)∧Wk b (wQ a b):=by
 have hnx:a.nx≤(wQ a b).nx∧b.nx≤(wQ a b).nx:=by
  show a.nx≤bG (Nat.ble a.nx b.nx) b.nx a.nx∧b.nx≤bG (Nat.ble a.nx b.nx) b.nx a.nx
  cases hb:Nat.ble a.nx b.nx
  ·have:¬a.nx≤b.nx:=fun h=> by
    rw [Nat.ble_eq_true_of_le h] at hb
    cases hb
   exact ⟨Nat.le_refl _,by show b.nx≤a.nx;omega⟩
  ·exact ⟨aN hb,Nat.le_refl _⟩
 have he:∀t c,(wQ a b).env.get t=some c→a.env.get t=some c∧b.env.get t=some c:=fun t c h=> by
  have h:(Dq ain a.env b.env).get t=some c:=h
  rw [tV] at h
  obtain ⟨x,h1,h⟩:=aj h
  obtain ⟨y,h2,h⟩:=aj h
  obtain ⟨h3,h4⟩:=aC (show fP (same x y) (some x)=some c from h)
  injection h4 with h4
  subst h4
  exact ⟨h1,by rw [h2,same_eq h3]⟩
 have hh:∀l b',(wQ a b).h.get l=some b'→∃x y,a.h.get l=some x∧b.h.get l=some y∧PX x y=some b':=fun l b' h=> by
  have h:(Dq PX a.h b.h).get l=some b':=h
  rw [tV] at h
  obtain ⟨x,h1,h⟩:=aj h
  obtain ⟨y,h2,h⟩:=aj h
  exact ⟨x,y,h1,h2,h⟩
 exact ⟨⟨hnx.1,fun t c h=> (he t c h).1,fun l b' h=> let ⟨x,y,h1,_,h3⟩:=hh l b' h;⟨x,h1,fun σ w c=> (Qs h3).1⟩⟩,
  ⟨hnx.2,fun t c h=> (he t c h).2,fun l b' h=> let ⟨x,y,_,h2,h3⟩:=hh l b' h;⟨y,h2,fun σ w c=> (Qs h3).2⟩⟩⟩
theorem Yf {a b:Ec} (h:KI a b=true):a=b:=by
 cases a <;> cases b <;> first | rfl | (rw [ay h];done) | cases h
theorem aco {a b:Run} {e:Ec} {s:dY} (h:VU a b= .at_ e s):∃s1 s2,a= .at_ e s1∧b= .at_ e s2∧Wk s1 s∧Wk s2 s:=by
 cases a with
 | no=> cases h
 | at_ e1 s1=>
  cases b with
  | no=> cases h
  | at_ e2 s2=>
   have h:bG (KI e1 e2) (.at_ e1 (wQ s1 s2)) .no=Run.at_ e s:=h
   cases hb:KI e1 e2
   ·rw [hb] at h;cases h
   ·rw [hb] at h
    injection (show Run.at_ e1 (wQ s1 s2)= .at_ e s from h) with h1 h2
    subst h1 h2
    rw [Yf hb]
    exact ⟨s1,s2,rfl,rfl,(Qu s1 s2).1,(Qu s1 s2).2⟩
theorem DW {f:CV×CV×Nat→Run}:∀{l:List (CV×CV×Nat)} {e:Ec} {s:dY},qw f l= .at_ e s→∀p∈l,∃s',f p= .at_ e s'∧Wk s' s
 | [],_,_,h,_,_=> by cases h
 | q::r,e,s,h,p,hp=> by
  have h:bG (kD r) (f q) (VU (f q) (qw f r))= .at_ e s:=h
  cases r with
  | nil=>
   have h:f q= .at_ e s:=h
   rw [List.mem_singleton.1 hp]
   exact ⟨s,h,.refl s⟩
  | cons q' r=>
   obtain ⟨s1,s2,h1,h2,h3,h4⟩:=aco (show VU (f q) (qw f (q'::r))= .at_ e s from h)
   rcases List.mem_cons.1 hp with rfl | hp
   ·exact ⟨s1,h1,h3⟩
   ·obtain ⟨s',k1,k2⟩:=DW h2 p hp
    exact ⟨s',k1,k2.trans h4⟩
theorem DX {l:List Oper} {it x y:Tmp} (h:wR l=some (it,x,y)):∃t1 p1 a1 t2 p2 a2,l= [⟨some x,.next (.tmp it) false,t1,p1,a1,none⟩,⟨some y,.extract (.tmp x) 0,t2,p2,a2,none⟩]:=by
 unfold wR at h
 split at h
 ·rename_i a it' t1 p1 a1 b a' t2 p2 a2
  cases hb:Nat.beq a a'
  ·rw [hb] at h;cases h
  ·rw [hb] at h
   injection (show some (it',a,b)=some (it,x,y) from h) with h
   injection h with h1 h
   injection h with h2 h3
   subst h1 h2 h3
   rw [←ay hb]
   exact ⟨t1,p1,a1,t2,p2,a2,rfl⟩
 ·cases h
theorem Yg {c:Code} {q:Tmp×Tmp×Tmp×Code} (h:KJ c=some q):∃id ops,c= .seq (.region id ops false) q.2.2.2∧wR ops.toList=some (q.1,q.2.1,q.2.2.1):=by
 unfold KJ at h
 split at h
 ·rename_i id ops rest
  obtain ⟨p,h1,h2⟩:=aj h
  injection h2 with h2
  subst h2
  exact ⟨id,ops,rfl,h1⟩
 ·cases h
section
variable {P : Program} {w0 : Base} {nt : Nat}
def Qv:Ec→Exit
 | .normal=> .normal
 | .exit i=> .exit i
 | .ret=> .ret
def Snd (P:Program) (w0:Base) (nt:Nat) (c:Code) (f:dY→Run):Prop:=∀(st st':dY) (e:Ec) (σ:Nm) (a:Act) (w:World) (Q:Exit→Act→World→Prop),Ok w0 nt st σ a w→f st= .at_ e st'→(∀a' w',Goes w0 nt σ st.nx st' a' w'→Q (Qv e) a' w')→c.wp P Q a w
theorem Qw {r:Run} {f:dY→Run} {e:Ec} {st:dY} (h:lW r f= .at_ e st):(∃st1,r= .at_ .normal st1∧f st1= .at_ e st)∨(e≠ .normal∧r= .at_ e st):=by
 cases r with
 | no=> cases h
 | at_ e1 st1=>
  cases e1 with
  | normal=> exact Or.inl ⟨st1,rfl,h⟩
  | exit i=>
   injection (show Run.at_ (.exit i) st1= .at_ e st from h) with h1 h2
   subst h1 h2
   exact Or.inr ⟨by simp,rfl⟩
  | ret=>
   injection (show Run.at_ .ret st1= .at_ e st from h) with h1 h2
   subst h1 h2
   exact Or.inr ⟨by simp,rfl⟩
theorem DY {c:Code} {f:dY→Run} (hf:Snd P w0 nt c f) {F:dY→Run} {k:Nat} {st1 st':dY} {e:Ec} {σ1:Nm} {a:Act} {w:World} {I:Nat→Act→World→Prop} {Q:Exit→Act→World→Prop} (hok:Ok w0 nt st1 σ1 a w) (h:lW (f st1) F= .at_ e st')
  (hI:∀a' w' st2 σ2,Le σ1 σ2→(∀j,j < st1.nx→σ2 j=σ1 j)→st1.nx≤st2.nx→Ok w0 nt st2 σ2 a' w'→F st2= .at_ e st'→I k a' w') (hQ:∀a' w',Goes w0 nt σ1 st1.nx st' a' w'→Q (Qv e) a' w'):
  c.wp P (Exit.then (fun a' w'=> ∃n',n' < k + 1∧I n' a' w') Q) a w:=by
 rcases Qw h with ⟨st2,h2,h3⟩ | ⟨hne,h2⟩
 ·refine hf st1 st2 .normal σ1 a w _ hok h2 fun a2 w2 hg=> ?_
  obtain ⟨σ2,k1,k2,k3,k4⟩:=hg
  exact ⟨k,Nat.lt_succ_self k,hI a2 w2 st2 σ2 k1 k2 k3 k4 h3⟩
 ·refine hf st1 st' e σ1 a w _ hok h2 fun a2 w2 hg=> ?_
  cases e with
  | normal=> exact absurd rfl hne
  | exit i=> exact hQ a2 w2 hg
  | ret=> exact hQ a2 w2 hg
theorem Wj {c:Code} {f:dY→Run} (hf:Snd P w0 nt c f) (n:Nat):Snd P w0 nt (.loop c) (PU f n):=by
 intro st st' e σ a w Q hok h hQ
 refine wp_loop_ghost (fun k a w=> ∃st1 σ1,Ok w0 nt st1 σ1 a w∧PU f k st1= .at_ e st'∧∀a' w',Goes w0 nt σ1 st1.nx st' a' w'→Q (Qv e) a' w') n ⟨st,σ,hok,h,hQ⟩ ?_
 rintro k a w ⟨st1,σ1,hok1,h1,hQ1⟩
 cases k with
 | zero=> cases h1
 | succ k=> exact DY hf hok1 (show lW (f st1) (PU f k)= .at_ e st' from h1) (fun a' w' st2 σ2 k1 k2 k3 k4 h3=> ⟨st2,σ2,k4,h3,fun a'' w'' hg'=> hQ1 a'' w'' (hg'.trans k1 k2 k3)⟩) hQ1
theorem acp {α:Type} {l:List α} (h:PY l=true):l≠ []:=by
 intro e
 rw [e] at h
 cases h
theorem akB {it x y:Tmp} {id:Nat} {ops:Array Oper} {rest:Code} (hops:wR ops.toList=some (it,x,y)) (hx:x < nt) (hy:y < nt) {f g:dY→Run} (hf:Snd P w0 nt (.seq (.region id ops false) rest) f) (hg:Snd P w0 nt rest g) (n:Nat):Snd P w0 nt (.loop (.seq (.region id ops false) rest)) (Ar it x y f g n):=by
 intro st st' e σ a w Q hok h hQ
 refine wp_loop_ghost (fun k a w=> ∃st1 σ1 s1,Ok w0 nt st1 σ1 a w∧Ar it x y f g k st1= .at_ e s1∧∀a' w',Goes w0 nt σ1 st1.nx s1 a' w'→Q (Qv e) a' w') n ⟨st,σ,st',hok,h,hQ⟩ ?_
 rintro k a w ⟨st1,σ1,s1,hok1,h1,hQ1⟩
 cases k with
 | zero=> cases h1
 | succ k=>
  have NR:lW (f st1) (Ar it x y f g k)= .at_ e s1→_:=fun hd=> DY (I:=fun k a w=> ∃st1 σ1 s1,Ok w0 nt st1 σ1 a w∧Ar it x y f g k st1= .at_ e s1∧∀a' w',Goes w0 nt σ1 st1.nx s1 a' w'→Q (Qv e) a' w') hf hok1 hd (fun a' w' st2 σ2 k1 k2 k3 k4 h3=> ⟨st2,σ2,s1,k4,h3,fun a'' w'' hg'=> hQ1 a'' w'' (hg'.trans k1 k2 k3)⟩) hQ1
  have h1: @Option.rec Ch (fun _=> Run) (lW (f st1) (Ar it x y f g k)) (fun c=> bG (PY c.lf) (qw (fun p=> lW (g (force st1 x y c p)) (Ar it x y f g k)) c.lf) (lW (f st1) (Ar it x y f g k))) (choices st1 it)= .at_ e s1:=h1
  cases hc:choices st1 it with
  | none=> rw [hc] at h1;exact NR h1
  | some c=>
   rw [hc] at h1
   have h1:bG (PY c.lf) (qw (fun p=> lW (g (force st1 x y c p)) (Ar it x y f g k)) c.lf) (lW (f st1) (Ar it x y f g k))= .at_ e s1:=h1
   cases hm:PY c.lf
   ·rw [hm] at h1;exact NR h1
   ·rw [hm] at h1
    have h1:qw (fun p=> lW (g (force st1 x y c p)) (Ar it x y f g k)) c.lf= .at_ e s1:=h1
    obtain ⟨v,hv,hc⟩:=aj (show ob (st1.env.get it) _=some c from hc)
    obtain ⟨val,hva,hvr⟩:=hok1.env it v hv
    obtain ⟨l,lc,m,d,since,seen,last,es,bs,ck,ents,rfl,hl,hmd,hval,hH,hoff,hit,hM,hg0,hst,hb,hsz,hrel,hch⟩:=KX hok1.r hvr hc
    obtain ⟨h3,h4⟩:=aC hch
    obtain ⟨k1,k2⟩:=and_true h3
    have k1:=aN k1
    have k2:=aN k2
    injection h4 with h4
    subst h4
    have hold:∀e∈ents.toList,e.born < since:=fun e he=> Nat.lt_of_lt_of_le (hst.1 e he) k1
    obtain ⟨i1,i2⟩:=DJ (seen:=seen) (es:=es) (ents:=ents.toList) (by simpa using hsz)
    rw [hb] at i1 i2
    have hleft:((leftOf ents seen.toArray).toList).map (·.born)=(lV seen es bs).map fun p=> p.2.2:=by
     rw [i1]
     unfold leftOf
     simp
    obtain ⟨t1,p1,a1,t2,p2,a2,hl2⟩:=DX hops
    rcases run_next_at (P:=P) w t1 lc.blk d.blk since last seen.toArray ents ck hit hg0 hold k2 with ⟨n1,n2⟩ | ⟨e0,n1,w1,n2,n3⟩
    ·have hlen:(leftOf ents seen.toArray).size=(lV seen es bs).length:=by
      have:=congrArg List.length hleft
      simpa using this
     exact absurd (List.eq_nil_of_length_eq_zero (by rw [←hlen];exact n1)) (acp hm)
    ·have hmem:e0.born∈(lV seen es bs).map fun p=> p.2.2:=by
      rw [←hleft]
      exact List.mem_map.2 ⟨e0,n1,rfl⟩
     obtain ⟨p,hp,hpb⟩:=List.mem_map.1 hmem
     obtain ⟨j,q,e',j1,j2,rfl⟩:=i2 p hp
     have he:e0∈ents.toList:=by
      unfold leftOf at n1
      simp at n1
      simpa using n1.1
     have hsame:e0=e':=by
      obtain ⟨i,hi,rfl⟩:=List.getElem_of_mem he
      have hn:=hst.2.1
      have h1:(ents.toList.map (·.born))[i]? =some (ents.toList[i]).born:=by rw [List.getElem?_map,List.getElem?_eq_getElem hi];rfl
      have h2:(ents.toList.map (·.born))[j]? =some e'.born:=by rw [List.getElem?_map,j2];rfl
      have hpb:e'.born=ents.toList[i].born:=hpb
      rw [hpb] at h2
      have hij:=(List.getElem?_inj (by simpa using hi) hn).1 (h1.trans h2.symm)
      subst hij
      rw [List.getElem?_eq_getElem hi] at j2
      injection j2
     subst hsame
     obtain ⟨r1,r2⟩:=hrel j q e0 j1 (by simpa using j2)
     obtain ⟨s',hs',hwk⟩:=DW h1 _ hp
     have hset:∀w2:World,w2.heap=w.heap→w2.os=w.os→w2.tape=w.tape→w2.output=w.output→R w0 σ1 (st1.h.put l (.it (some m) since (app seen [e0.born]) ck)) st1.nx (ChangeMaps.setBlock w2 lc.blk (.mapIter (some d.blk) since (seen.toArray.push e0.born) ck)):=by
      intro w2 q1 q2 q3 q4
      refine hok1.r.upd hl hH (by exact q2) (by exact q3) (by exact q4) (by simp [ChangeMaps.setBlock,q1]) (fun k hk=> ?_) ⟨d,hmd,hoff,?_⟩
      ·simp only [ChangeMaps.setBlock,q1]
       rw [Array.getElem?_setIfInBounds_ne (Ne.symm hk)]
      ·have hlt:=(Array.getElem?_eq_some_iff.1 hit).1
       simp only [ChangeMaps.setBlock,q1]
       rw [Array.getElem?_setIfInBounds_self_of_lt hlt,kU]
       simp
     have hR:R w0 σ1 (st1.h.put l (.it (some m) since (app seen [e0.born]) ck)) st1.nx (ChangeMaps.setBlock w1 lc.blk (.mapIter (some d.blk) since (seen.toArray.push e0.born) ck)):=by
      rcases n2 with rfl | rfl
      ·exact hset _ rfl rfl rfl rfl
      ·exact hset _ rfl rfl rfl rfl
     have aq4:VR σ1 (.bH [.v (.bool true),q.1,q.2]) (.tuple #[.bool true,e0.key,e0.val]):= .mY (.cons (.v _ rfl) (.cons r1 (.cons r2 (.nil σ1))))
     have hok2:Ok w0 nt (force st1 x y ⟨l,m,since,seen,ck,lV seen es bs⟩ (q.1,q.2,e0.born)) σ1 ((a.put (some x) (.tuple #[.bool true,e0.key,e0.val])).put (some y) (.bool true)) (ChangeMaps.setBlock w1 lc.blk (.mapIter (some d.blk) since (seen.toArray.push e0.born) ck)):=by
      have h5:=yU hok1.env (d:=some x) (fun t ht=> by injection ht with ht;subst ht;rw [hok1.size];exact hx) aq4
      have h6:=yU (a:=a.put (some x) (.tuple #[.bool true,e0.key,e0.val])) h5 (d:=some y) (fun t ht=> by injection ht with ht;subst ht;rw [iW,hok1.size];exact hy) (VR.v (σ:=σ1) (.bool true) rfl)
      exact ⟨hR,h6,by rw [iW,iW];exact hok1.size,by rw [put_defers,put_defers];exact hok1.defers⟩
     have hev:a.eval (.tmp it)= .pointer (some ⟨lc.blk,0,none⟩):=by
      show a.tmps.getD it undef=_
      rw [Array.getD_eq_getD_getElem?,hva]
      exact hval
     have hev2:(a.put (some x) (.tuple #[.bool true,e0.key,e0.val])).eval (.tmp x)= .tuple #[.bool true,e0.key,e0.val]:=by
      have:x < a.tmps.size:=by rw [hok1.size];exact hx
      show (a.tmps.setIfInBounds x _).getD x undef=_
      rw [Array.getD_eq_getD_getElem?]
      simp [this]
     refine wp_seq (wp_region_list ?_)
     rw [hl2]
     refine wpList_step fun K hK=> ?_
     rw [if_pos (by rfl)]
     refine iU (x:= .tuple #[.bool true,e0.key,e0.val]) (w':=ChangeMaps.setBlock w1 lc.blk (.mapIter (some d.blk) since (seen.toArray.push e0.born) ck)) ?_ (hK _ _ ?_)
     ·show (do pure (.value (←Instr.next (a.eval (.tmp it)) false t1)):Sem Next).run P w=_
      rw [hev]
      simp only [Sem.run_bind,n3,Result.andThen_ok]
      rfl
     ·refine wpList_step fun K hK=> ?_
      rw [if_pos (by rfl)]
      refine iU (x:= .bool true) (w':=ChangeMaps.setBlock w1 lc.blk (.mapIter (some d.blk) since (seen.toArray.push e0.born) ck)) ?_ (hK _ _ ?_)
      ·show (do pure (.value (←Instr.extract ((a.put (some x) (.tuple #[.bool true,e0.key,e0.val])).eval (.tmp x)) 0)):Sem Next).run P _=_
       rw [hev2]
       rfl
      ·exact DY (I:=fun k a w=> ∃st1 σ1 s1,Ok w0 nt st1 σ1 a w∧Ar it x y f g k st1= .at_ e s1∧∀a' w',Goes w0 nt σ1 st1.nx s1 a' w'→Q (Qv e) a' w') hg hok2 hs' (fun a' w' st2 σ2 k1 k2 k3 k4 h3=> ⟨st2,σ2,s',k4,h3,fun a'' w'' hg'=> hQ1 a'' w'' (hwk.goes (hg'.trans k1 k2 k3))⟩) fun a' w' hg'=> hQ1 a' w' (hwk.goes hg')
end
end Ci
namespace Ci
open Go.RowKit
variable [fE]
theorem toRun_at {x:Option dY} {e:Ec} {st:dY} (h:toRun x= .at_ e st):e= .normal∧x=some st:=by
 cases x with
 | none=> cases h
 | some s=>
  injection h with h1 h2
  exact ⟨h1.symm,by rw [h2]⟩
theorem xw {m:Nat}:∀{l:List Oper},Tq m l=true→∀o∈l,∀t,o.dst=some t→t < m
 | [],_,o,ho,_,_=> by cases ho
 | o::l,h,o',ho,t,ht=> by
  have h: @Option.rec Tmp (fun _=> Bool) (Tq m l) (fun d=> bG (Nat.ble (Nat.succ d) m) (Tq m l) false) o.dst=true:=h
  cases hd:o.dst with
  | none=>
   rw [hd] at h
   rcases List.mem_cons.1 ho with rfl | ho
   ·rw [hd] at ht;cases ht
   ·exact xw h o' ho t ht
  | some d=>
   rw [hd] at h
   have h:bG (Nat.ble (Nat.succ d) m) (Tq m l) false=true:=h
   cases hb:Nat.ble (Nat.succ d) m
   ·rw [hb] at h;cases h
   ·rw [hb] at h
    rcases List.mem_cons.1 ho with rfl | ho
    ·rw [hd] at ht
     injection ht with ht
     subst ht
     exact aN hb
    ·exact xw h o' ho t ht
theorem DZ {b x:Bool} (h:bG b x false=true):b=true∧x=true:=by
 cases b
 ·cases h
 ·exact ⟨rfl,h⟩
section
variable {P : Program} {G : Base → Prop} {C : Callee} {w0 : Base} {nt m n : Nat}
theorem acr (hm:P.follows .mixedOrders=true) (hC:jq P G C) (hG:G w0) (hnt:m≤nt) {L:Code→(dY→Run)→dY→Run} (hL:∀c f,Ht m c=true→Snd P w0 nt c f→Snd P w0 nt (.loop c) (L c f)):∀(c:Code) {st st':dY} {e:Ec} {σ:Nm} {a:Act} {w:World} {Q:Exit→Act→World→Prop},Ht m c=true→Ok w0 nt st σ a w→evG P C L c st= .at_ e st'→
  (∀a' w',Goes w0 nt σ st.nx st' a' w'→Q (Qv e) a' w')→c.wp P Q a w:=by
 intro c
 induction c with
 | skip=>
  intro st st' e σ a w Q _ hok h hQ
  injection (show Run.at_ .normal st= .at_ e st' from h) with h1 h2
  subst h1 h2
  exact wp_skip (hQ a w (.self hok))
 | region id ops draw=>
  intro st st' e σ a w Q hd hok h hQ
  have hd:Tq m ops.toList=true:=hd
  have hdst:∀o∈ops.toList,∀t,o.dst=some t→t < nt:=fun o ho t ht=> Nat.lt_of_lt_of_le (xw hd o ho t ht) hnt
  obtain ⟨rfl,h1⟩:=toRun_at (show toRun (bG draw (aki P C ops st) (afk P C ops.toList ops.toList st))= .at_ e st' from h)
  cases draw with
  | false=> exact wp_region_list (Wh hC hG ops.toList hok hdst h1 hQ)
  | true=> exact afY hm hC hG (fun o ho=> hdst o (by simpa using ho)) hok h1 hQ
 | seq x y Xz ihy=>
  intro st st' e σ a w Q hd hok h hQ
  obtain ⟨d1,d2⟩:=DZ (show bG (Ht m x) (Ht m y) false=true from hd)
  rcases Qw (show lW (evG P C L x st) (evG P C L y)= .at_ e st' from h) with ⟨st1,h1,h2⟩ | ⟨hne,h1⟩
  ·refine wp_seq (Xz d1 hok h1 fun a1 w1 hg=> ?_)
   obtain ⟨σ1,k1,k2,k3,k4⟩:=hg
   exact ihy d2 k4 h2 fun a' w' hg'=> hQ a' w' (hg'.trans k1 k2 k3)
  ·refine wp_seq (Xz d1 hok h1 fun a1 w1 hg=> ?_)
   cases e with
   | normal=> exact absurd rfl hne
   | exit i=> exact hQ a1 w1 hg
   | ret=> exact hQ a1 w1 hg
 | cond c x y Xz ihy=>
  intro st st' e σ a w Q hd hok h hQ
  obtain ⟨d1,d2⟩:=DZ (show bG (Ht m x) (Ht m y) false=true from hd)
  have h: @Option.rec Bool (fun _=> Run) .no (fun b=> bG b (evG P C L x st) (evG P C L y st)) (ob (ev st.env c) fun v=> isBool v some)= .at_ e st':=h
  cases hb:(ob (ev st.env c) fun v=> isBool v some) with
  | none=> rw [hb] at h;cases h
  | some u=>
   rw [hb] at h
   obtain ⟨v,h1,h2⟩:=aj hb
   obtain ⟨b,rfl,h3⟩:=rJ h2
   injection h3 with h3
   subst h3
   have hv:=(hok.evs #[c] c (by simp) _ h1).val
   refine wp_cond hv ?_
   cases b
   ·exact ihy d2 hok h hQ
   ·exact Xz d1 hok h hQ
 | block id c ih=>
  intro st st' e σ a w Q hd hok h hQ
  have h:abS id (evG P C L c st)= .at_ e st':=h
  cases hr:evG P C L c st with
  | no=> rw [hr] at h;cases h
  | at_ e1 st1=>
   rw [hr] at h
   refine wp_block (ih hd hok hr fun a1 w1 hg=> ?_)
   cases e1 with
   | normal=>
    injection (show Run.at_ .normal st1= .at_ e st' from h) with h1 h2
    subst h1 h2
    exact hQ a1 w1 hg
   | ret=>
    injection (show Run.at_ .ret st1= .at_ e st' from h) with h1 h2
    subst h1 h2
    exact hQ a1 w1 hg
   | exit i=>
    have h:bG (Nat.beq i id) (.at_ .normal st1) (.at_ (.exit i) st1)=Run.at_ e st':=h
    show if i=id then _ else _
    cases hb:Nat.beq i id
    ·rw [hb] at h
     injection (show Run.at_ (.exit i) st1= .at_ e st' from h) with h1 h2
     subst h1 h2
     rw [if_neg (fun e=> by rw [e] at hb;simp at hb)]
     exact hQ a1 w1 hg
    ·rw [hb] at h
     injection (show Run.at_ .normal st1= .at_ e st' from h) with h1 h2
     subst h1 h2
     rw [if_pos (ay hb)]
     exact hQ a1 w1 hg
 | loop c ih=>
  intro st st' e σ a w Q hd hok h hQ
  exact hL c _ hd (fun st st' e σ a w Q hok h hQ=> ih hd hok h hQ) st st' e σ a w Q hok h hQ
 | exit id=>
  intro st st' e σ a w Q _ hok h hQ
  injection (show Run.at_ (.exit id) st= .at_ e st' from h) with h1 h2
  subst h1 h2
  exact wp_exit (hQ a w (.self hok))
 | ret=>
  intro st st' e σ a w Q _ hok h hQ
  injection (show Run.at_ .ret st= .at_ e st' from h) with h1 h2
  subst h1 h2
  exact wp_ret (hQ a w (.self hok))
 | _=>
  intro st st' e σ a w Q _ hok h hQ
  cases h
theorem acs (hm:P.follows .mixedOrders=true) (hC:jq P G C) (hG:G w0) (hnt:m≤nt) (n:Nat) (c:Code) (f:dY→Run) (hd:Ht m c=true) (hf:Snd P w0 nt c f):Snd P w0 nt (.loop c) (abT P C n c f):=by
 unfold abT
 cases hq:KJ c with
 | none=> exact Wj hf n
 | some q=>
  obtain ⟨id,ops,hc,ho⟩:=Yg hq
  rw [hc] at hd hf ⊢
  obtain ⟨d1,d2⟩:=DZ (show bG (Tq m ops.toList) (Ht m q.2.2.2) false=true from hd)
  obtain ⟨t1,p1,a1,t2,p2,a2,hl⟩:=DX ho
  have hx:q.2.1 < nt:=Nat.lt_of_lt_of_le (xw d1 _ (by rw [hl];exact List.mem_cons_self ..) q.2.1 rfl) hnt
  have hy:q.2.2.1 < nt:=Nat.lt_of_lt_of_le (xw d1 _ (by rw [hl];exact List.mem_cons_of_mem _ (List.mem_singleton.2 rfl)) q.2.2.1 rfl) hnt
  exact akB ho hx hy hf (fun st st' e σ a w Q hok h hQ=> acr hm hC hG hnt (fun c f _ hf=> Wj hf n) q.2.2.2 d2 hok h hQ) n
theorem afZ (hm:P.follows .mixedOrders=true) (hC:jq P G C) (hG:G w0) (hnt:m≤nt) (n:Nat) (c:Code) {st st':dY} {e:Ec} {σ:Nm} {a:Act} {w:World} {Q:Exit→Act→World→Prop} (hd:Ht m c=true) (hok:Ok w0 nt st σ a w) (h:afo P C n c st= .at_ e st') (hQ:∀a' w',Goes w0 nt σ st.nx st' a' w'→Q (Qv e) a' w'):c.wp P Q a w:=
 acr hm hC hG hnt (acs hm hC hG hnt n) c hd hok h hQ
def Kz (tmps:Array Value):ResultVar→Sem Value
 | .tmp t=> pure (tmps.getD t undef)
 | .cell a t=> do loadVar t (←asAddr (tmps.getD a undef))
theorem af0 {st:dY} {σ:Nm} {a:Act} {w:World} (hok:Ok w0 nt st σ a w) {x:ResultVar} {v:CV} (h:res1 P st x=some v):∃y,(Kz a.tmps x).run P w= .ok y w∧VR σ v y:=by
 cases x with
 | tmp t=>
  obtain ⟨y,h1,h2⟩:=hok.env t v h
  refine ⟨y,?_,h2⟩
  show (pure (a.tmps.getD t undef):Sem Value).run P w=_
  rw [Array.getD_eq_getD_getElem?,h1]
  rfl
 | cell t ty=>
  obtain ⟨p,h1,h2⟩:=aj (show ob (st.env.get t) _=some v from h)
  obtain ⟨l,o,rfl,h3⟩:=rG h2
  obtain ⟨cs,h4,h5⟩:=aj h3
  obtain ⟨y,h6,h7⟩:=hok.env t _ h1
  obtain ⟨c,h8,rfl⟩:=h7.pv
  obtain ⟨all,vals,T,vs,g1,g2,g3,g4,g5,g6,g7,g8⟩:=hok.r.cells h8 h4
  obtain ⟨z,k1,k2,_⟩:=KO (b:=c.blk) (q:=c.off + o) g6 g7 (fun j u hu=> by rw [Nat.add_assoc];exact g8 j u hu) h5
  refine ⟨z,?_,k2⟩
  have k1:(Instr.loadAt ty (.pointer (some ⟨c.blk,c.off + o,none⟩))).run P w= .ok z w:=k1
  simp only [Instr.loadAt,Instr.sureAddr,Sem.run_bind,Sem.run_pure,Result.andThen_ok] at k1
  have:a.tmps.getD t undef= .pointer (some ⟨c.blk,c.off + o,none⟩):=by
   rw [Array.getD_eq_getD_getElem?,h6]
   rfl
  simp only [Kz,this,asAddr,Sem.run_bind,Sem.run_pure,Result.andThen_ok,k1]
theorem Wl {st:dY} {σ:Nm} {a:Act} {w:World} (hok:Ok w0 nt st σ a w):∀(xs:List ResultVar) {vs:List CV},anO P st xs=some vs→∃ys,(xs.mapM (Kz a.tmps)).run P w= .ok ys w∧fU σ vs ys
 | [],vs,h=> by
  injection (show some []=some vs from h) with h
  subst h
  exact ⟨[],rfl,.nil σ⟩
 | x::xs,vs,h=> by
  obtain ⟨v,h1,h2⟩:=aj (show ob (res1 P st x) _=some vs from h)
  obtain ⟨vs',h3,h4⟩:=aj h2
  injection h4 with h4
  subst h4
  obtain ⟨y,k1,k2⟩:=af0 hok h1
  obtain ⟨ys,k3,k4⟩:=Wl hok xs h3
  refine ⟨y::ys,?_,.cons k2 k4⟩
  rw [List.mapM_cons]
  simp only [Sem.run_bind,k1,Result.andThen_ok,k3,Sem.run_pure]
theorem af2 {σ:Nm} {vs:List CV} {ys:List Value} (h:fU σ vs ys):VR σ (anP vs) (if hsz:ys.toArray.size=1 then ys.toArray[0] else .tuple ys.toArray):=by
 have hl:=h.1
 match vs,h,hl with
 | [],h,hl=>
  have:=h.bg
  subst this
  exact .mY h
 | [v],h,hl=>
  obtain ⟨y,ys',rfl,h1,h2⟩:=h.cons_inv
  have:=h2.bg
  subst this
  exact h1
 | v::v'::vs',h,hl=>
  have hne:¬ys.toArray.size=1:=by
   simp at hl ⊢
   omega
  rw [dif_neg hne]
  exact .mY h
theorem Jl:∀(l:List CV) (i:Nat) (E:Tr CV) (t:Nat),(Du l i E).get t=if i≤t∧t < i + l.length then l[t - i]? else E.get t
 | [],i,E,t=> by
  show E.get t=_
  rw [if_neg (by simp)]
 | v::l,i,E,t=> by
  show (Du l (i + 1) (E.put i v)).get t=_
  rw [Jl l (i + 1)]
  by_cases h1:i + 1≤t∧t < i + 1 + l.length
  ·rw [if_pos h1,if_pos (by simp;omega)]
   have:t - i=(t - (i + 1)) + 1:=by omega
   rw [this,List.getElem?_cons_succ]
  ·rw [if_neg h1,get_put]
   by_cases h2:t=i
   ·subst h2
    rw [if_pos rfl,if_pos (by simp),Nat.sub_self]
    rfl
   ·rw [if_neg h2,if_neg (by simp;omega)]
theorem acu (hm:P.follows .mixedOrders=true) (hC:jq P G C):jq P G fun f args H nx=> abW P C n f args H nx:=by
 intro f args H nx v H' nx' h w0 σ w vals hG hr hL
 obtain ⟨q,h1,h2⟩:=fA (show oR (abV P f) _= .ok v H' nx' from h)
 obtain ⟨fn,h3,h4⟩:=aj h1
 obtain ⟨c,h5,h6⟩:=aj h4
 obtain ⟨h7,h8⟩:=aC h6
 injection h8 with h8
 subst h8
 obtain ⟨h9,h10⟩:=and_true h7
 have hname:(fn.name== "runtime.NumGoroutine")=false:=by
  cases hq:(fn.name== "runtime.NumGoroutine")
  ·rfl
  ·rw [hq] at h9;cases h9
 refine ⟨?_,?_⟩
 ·have hne:¬fn.name= "runtime.NumGoroutine" :=by
   intro e
   rw [e] at hname
   simp at hname
  simp [callFunc,program,Sem.run,h3,hne,h5]
 have h2: @Run.rec (fun _=> dG) .no (fun e st=> @Ec.rec (fun _=> dG) (abU P fn.results.toList st) (fun _=> .no) (abU P fn.results.toList st) e) (afo P C n c ⟨Du args 0 .e,H,nx⟩)= .ok v H' nx':=h2
 cases hr2:afo P C n c ⟨Du args 0 .e,H,nx⟩ with
 | no=> rw [hr2] at h2;cases h2
 | at_ e st'=>
  rw [hr2] at h2
  have hlen:vals.size=args.length:=by have:=hL.1;simpa using this
  generalize hnt:(vals ++ Array.replicate (fn.ntmps - vals.size) undef).size=nt
  have hle:fn.ntmps≤nt:=by
   rw [←hnt]
   simp
   omega
  have hok:Ok w0 nt ⟨Du args 0 .e,H,nx⟩ σ {tmps:=vals ++ Array.replicate (fn.ntmps - vals.size) undef,defers:= []} w:=by
   refine ⟨hr,fun t x hx=> ?_,hnt,rfl⟩
   have hx:(Du args 0 .e).get t=some x:=hx
   rw [Jl] at hx
   split at hx
   ·rename_i ht
    obtain ⟨y,k1,k2⟩:=hL.get hx
    refine ⟨y,?_,k2⟩
    show (vals ++ Array.replicate (fn.ntmps - vals.size) undef)[t]? =some y
    rw [Array.getElem?_append_left (by omega)]
    simpa using k1
   ·rw [Jb] at hx
    cases hx
  have fin:∀a' w',Goes w0 nt σ nx st' a' w'→abU P fn.results.toList st'= .ok v H' nx'→a'.defers= []∧∃y,(results fn a'.tmps).run P w'= .ok y w'∧∃x,Ending.returned y= .returned x∧After w0 σ nx v H' nx' x w':=by
   rintro a' w' ⟨σ',k1,k2,k3,k4⟩ he
   obtain ⟨vs,g1,g2⟩:=fA he
   obtain ⟨rfl,rfl,rfl⟩:=bU g2
   obtain ⟨ys,g3,g4⟩:=Wl k4 _ g1
   refine ⟨k4.defers,_,?_,_,rfl,σ',k1,k2,k4.r,k3,af2 g4⟩
   have e:results fn a'.tmps=(do let vs←fn.results.mapM (Kz a'.tmps);pure (if h:vs.size=1 then vs[0] else .tuple vs)):=rfl
   rw [e,Array.mapM_eq_mapM_toList]
   simp only [Sem.run_bind,Sem.run_map,g3,Result.andThen_ok,Sem.run_pure]
  refine calls_of_wp h3 h5 (afZ hm hC hG hle n c h10 hok hr2 fun a' w' hg=> ?_)
  cases e with
  | normal=> exact fin a' w' hg h2
  | ret=> exact fin a' w' hg h2
  | exit i=> cases h2
def iP (P:Program) (G:Base→Prop) (ext:FuncId→List CV→Tr aP→Nat→Option dG):Prop:=∀(f:FuncId) (args:List CV) (H:Tr aP) (nx:Nat) (v:CV) (H':Tr aP) (nx':Nat),ext f args H nx=some (.ok v H' nx')→∀(w0:Base) (σ:Nm) (w:World) (vals:Array Value),G w0→R w0 σ H nx w→fU σ args vals.toList→
 (callFunc f vals).run P w= .ok (.enter f vals) w∧Calls P f vals w fun e w'=> ∃x,e= .returned x∧After w0 σ nx v H' nx' x w'
theorem Jm (hm:P.follows .mixedOrders=true) {ext:FuncId→List CV→Tr aP→Nat→Option dG} (hE:iP P G ext) (k:Nat):∀n,jq P G (rc P ext k n)
 | 0=> .none
 | n + 1=> by
  intro f args H nx v H' nx' h
  have h: @Option.rec dG (fun _=> dG) (abW P (rc P ext k n) k f args H nx) (fun r=> r) (ext f args H nx)= .ok v H' nx':=h
  cases he:ext f args H nx with
  | none=>
   rw [he] at h
   exact acu hm (Jm hm hE k n) f args H nx v H' nx' h
  | some r=>
   rw [he] at h
   have h:r= .ok v H' nx':=h
   subst h
   exact hE f args H nx v H' nx' he
end
end Ci
namespace Ci
open Go.RowKit
variable [fE]
mutual
def sh (d:Nat):CV→CV
 | .v x=> .v x
 | .u i=> .u i
 | .t bs=> .t bs
 | .p l o=> .p (l + d) o
 | .s l o n c=> .s (l + d) o n c
 | .m l=> .m (l + d)
 | .fn f fs cs=> .fn f (TF d fs) (TF d cs)
 | .agg cs=> .agg (TF d cs)
 | .bH cs=> .bH (TF d cs)
def TF (d:Nat):List CV→List CV
 | []=> []
 | c::cs=> sh d c::TF d cs
end
mutual
def Qx (K:List Nat):CV→Bool
 | .v _=> true
 | .u _=> true
 | .t _=> true
 | .p l _=> K.any (Nat.beq l)
 | .s l _ _ _=> K.any (Nat.beq l)
 | .m l=> K.any (Nat.beq l)
 | .fn _ fs cs=> Hu K fs && Hu K cs
 | .agg cs=> Hu K cs
 | .bH cs=> Hu K cs
def Hu (K:List Nat):List CV→Bool
 | []=> true
 | c::cs=> Qx K c && Hu K cs
end
theorem qx (d:Nat):∀(cs:List CV) (j:Nat),(TF d cs)[j]? =(cs[j]?).map (sh d)
 | [],_=> by simp [TF]
 | c::cs,0=> by simp [TF]
 | c::cs,j + 1=> by simpa [TF] using qx d cs j
theorem jL (d:Nat):∀cs:List CV,(TF d cs).length=cs.length
 | []=> by simp [TF]
 | c::cs=> by simp [TF,jL d cs]
theorem ng {K:List Nat}:∀{cs:List CV} (_:Hu K cs=true) (j:Nat) (c:CV),cs[j]? =some c→Qx K c=true
 | [],_,_,_,h=> by simp at h
 | c::cs,h,0,x,hx=> by
  injection hx with hx
  subst hx
  unfold Hu at h
  exact (and_true h).1
 | c::cs,h,j + 1,x,hx=> by
  unfold Hu at h
  exact ng (and_true h).2 j x hx
theorem Wn (d:Nat) (c:CV):iQ (sh d c)=iQ c:=by cases c <;> simp [sh,iQ]
theorem qy {K:List Nat} {l:Nat} (h:K.any (Nat.beq l)=true):l∈K:=by
 obtain ⟨x,hx,e⟩:=List.any_eq_true.1 h
 rw [ay e]
 exact hx
theorem VR.shift {σ σ':Nm} {d:Nat} {K:List Nat} (hs:∀l c,l∈K→σ l=some c→σ' (l + d)=some c) {c:CV} {v:Value} (h:VR σ c v):Qx K c=true→VR σ' (sh d c) v:=by
 induction h with
 | v x h=> intro _;simp only [sh];exact .v x h
 | u i h=> intro _;simp only [sh];exact .u i h
 | t bs h=> intro _;simp only [sh];exact .t bs h
 | p o h=> intro hk;simp only [sh];simp only [Qx] at hk;exact .p o (hs _ _ (qy hk) h)
 | sk o n k h hn=> intro hk;simp only [sh];simp only [Qx] at hk;exact .sk o n k (hs _ _ (qy hk) h) hn
 | so o n z q k h hn hq hk hm=> intro hk2;simp only [sh];simp only [Qx] at hk2;exact .so o n z q k (hs _ _ (qy hk2) h) hn hq hk hm
 | s0 o z A h hk hz=> intro hk2;simp only [sh];simp only [Qx] at hk2;exact .s0 o z A (hs _ _ (qy hk2) h) hk hz
 | m h=> intro hk;simp only [sh];simp only [Qx] at hk;exact .m (hs _ _ (qy hk) h)
 | fn f fs cs us vs hl hl2 _ _ ih ih2=>
  intro hk
  simp only [Qx] at hk
  obtain ⟨k1,k2⟩:=and_true hk
  simp only [sh]
  refine .fn f _ _ us vs (by rw [jL];exact hl) (by rw [jL];exact hl2) (fun j c u hc hu=> ?_) fun j c u hc hu=> ?_
  ·rw [qx] at hc
   obtain ⟨c0,h0,rfl⟩:=Option.map_eq_some_iff.1 hc
   exact ih j c0 u h0 hu (ng k1 j c0 h0)
  ·rw [qx] at hc
   obtain ⟨c0,h0,rfl⟩:=Option.map_eq_some_iff.1 hc
   exact ih2 j c0 u h0 hu (ng k2 j c0 h0)
 | agg cs vs h1 hl _ ih=>
  intro hk
  simp only [Qx] at hk
  simp only [sh]
  refine .agg _ vs (fun c hc=> ?_) (by rw [jL];exact hl) fun j c u hc hu=> ?_
  ·obtain ⟨j,hj⟩:=List.mem_iff_getElem?.1 hc
   rw [qx] at hj
   obtain ⟨c0,h0,rfl⟩:=Option.map_eq_some_iff.1 hj
   rw [Wn]
   exact h1 c0 (List.mem_of_getElem? h0)
  ·rw [qx] at hc
   obtain ⟨c0,h0,rfl⟩:=Option.map_eq_some_iff.1 hc
   exact ih j c0 u h0 hu (ng hk j c0 h0)
 | bH cs vs hl _ ih=>
  intro hk
  simp only [Qx] at hk
  simp only [sh]
  refine .bH _ vs (by rw [jL];exact hl) fun j c u hc hu=> ?_
  rw [qx] at hc
  obtain ⟨c0,h0,rfl⟩:=Option.map_eq_some_iff.1 hc
  exact ih j c0 u h0 hu (ng hk j c0 h0)
def shB (d:Nat):aP→aP
 | .cl k cs=> .cl k (TF d cs)
 | .mp es bs ck=> .mp (es.map fun p=> (sh d p.1,sh d p.2)) bs ck
 | .it m since seen last=> .it (m.map (· + d)) since seen last
 | .mu es=> .mu (es.map fun p=> (p.1,sh d p.2))
def Qy (K:List Nat):aP→Bool
 | .cl _ cs=> Hu K cs
 | .mp es _ _=> es.all fun p=> Qx K p.1 && Qx K p.2
 | .it none _ _ _=> true
 | .it (some m) _ _ _=> K.any (Nat.beq m)
 | .mu es=> es.all fun p=> Qx K p.2
theorem fH.shift {σ σ':Nm} {d:Nat} {K:List Nat} (hs:∀l c,l∈K→σ l=some c→σ' (l + d)=some c) {w:World} {c:Loc} {b:aP} (hk:Qy K b=true) (h:fH σ w c b):fH σ' w c (shB d b):=by
 cases b with
 | cl k cs=>
  obtain ⟨vals,T,h1,h2,h3,hk2,h4⟩:=h
  refine ⟨vals,T,h1,by rw [jL];exact h2,h3,by rw [jL];exact hk2,fun j x hx=> ?_⟩
  rw [qx] at hx
  obtain ⟨x0,h0,rfl⟩:=Option.map_eq_some_iff.1 hx
  obtain ⟨v,a1,a2,a3⟩:=h4 j x0 h0
  exact ⟨v,a1,a2.shift hs (ng hk j x0 h0),by rw [Wn];exact a3⟩
 | it m since seen last=>
  cases m with
  | none=> exact h
  | some m=>
   obtain ⟨e,h1,h2,h3⟩:=h
   exact ⟨e,hs m e (qy hk) h1,h2,h3⟩
 | mu es=>
  obtain ⟨ents,ck,h1,h2,h3,h4⟩:=h
  refine ⟨ents,ck,h1,h2,fun e he=> ?_,fun p hp=> ?_⟩
  ·obtain ⟨p,a1,a2,a3⟩:=h3 e he
   exact ⟨(p.1,sh d p.2),List.mem_map.2 ⟨p,a1,rfl⟩,a2,a3.shift hs (List.all_eq_true.1 hk p a1)⟩
  ·obtain ⟨q,hq,rfl⟩:=List.mem_map.1 hp
   exact h4 q hq
 | mp es bs ck=>
  obtain ⟨ents,h1,h2,hb,h3,h4⟩:=h
  refine ⟨ents,h1,h2,hb,by rw [List.length_map];exact h3,fun j p e hp he=> ?_⟩
  rw [List.getElem?_map] at hp
  obtain ⟨p0,h0,rfl⟩:=Option.map_eq_some_iff.1 hp
  obtain ⟨k1,k2⟩:=and_true (List.all_eq_true.1 hk p0 (List.mem_of_getElem? h0))
  exact ⟨(h4 j p0 e h0 he).1.shift hs k1,(h4 j p0 e h0 he).2.shift hs k2⟩
def puts (d:Nat) (L:List (Nat×aP)) (H:Tr aP):Tr aP:= @List.rec (Nat×aP) (fun _=> Tr aP) H (fun p _ ih=> ih.put (Nat.add p.1 d) (shB d p.2)) L
theorem D5 {H1:Tr aP} (d:Nat) (H:Tr aP):∀{L:List (Nat×aP)} (_:∀p∈L,H1.get p.1=some p.2) (l:Nat),(∃p∈L,l=p.1 + d∧(puts d L H).get l=some (shB d p.2))∨((∀p∈L,l≠p.1 + d)∧(puts d L H).get l=H.get l)
 | [],_,l=> Or.inr ⟨(fun p hp=> by cases hp),rfl⟩
 | q::L,hL,l=> by
  show (∃p∈q::L,l=p.1 + d∧((puts d L H).put (q.1 + d) (shB d q.2)).get l=some (shB d p.2))∨((∀p∈q::L,l≠p.1 + d)∧((puts d L H).put (q.1 + d) (shB d q.2)).get l=H.get l)
  rw [get_put]
  by_cases he:l=q.1 + d
  ·rw [if_pos he]
   exact Or.inl ⟨q,List.mem_cons_self ..,he,rfl⟩
  ·rw [if_neg he]
   rcases D5 d H (fun p hp=> hL p (List.mem_cons_of_mem _ hp)) l with ⟨p,hp,h1,h2⟩ | ⟨h1,h2⟩
   ·exact Or.inl ⟨p,List.mem_cons_of_mem _ hp,h1,h2⟩
   ·exact Or.inr ⟨fun p hp=> by
     rcases List.mem_cons.1 hp with rfl | hp
     ·exact he
     ·exact h1 p hp,h2⟩
def addN (σ σ1:Nm) (nx:Nat) (K:List Nat):Nm:=fun l=> if l < nx then σ l else if (l - nx)∈K then σ1 (l - nx) else none
theorem R.join {w0:Base} {w w':World} {σ σ1:Nm} {H H1:Tr aP} {nx n1:Nat} {hu:OkW w} (h:R w0 σ H nx w) (h1:R (Base.of w hu) σ1 H1 n1 w') {L:List (Nat×aP)} (hL:∀p∈L,H1.get p.1=some p.2) (hK:∀p∈L,Qy (L.map (·.1)) p.2=true):R w0 (addN σ σ1 nx (L.map (·.1))) (puts nx L H) (nx + n1) w':=by
 have xA:∀l,l < nx→addN σ σ1 nx (L.map (·.1)) l=σ l:=fun l hl=> if_pos hl
 have le:Le σ (addN σ σ1 nx (L.map (·.1))):=fun l c hc=> by rw [xA l (h.fresh l c hc)];exact hc
 have up:∀l c,l∈L.map (·.1)→σ1 l=some c→addN σ σ1 nx (L.map (·.1)) (l + nx)=some c:=fun l c hl hc=> by
  unfold addN
  rw [if_neg (by omega),Nat.add_sub_cancel,if_pos hl]
  exact hc
 have akC:∀l,l < nx→(puts nx L H).get l=H.get l:=fun l hl=> by
  rcases D5 nx H hL l with ⟨p,_,e,_⟩ | ⟨_,e⟩
  ·omega
  ·exact e
 have hi:∀l c,¬l < nx→addN σ σ1 nx (L.map (·.1)) l=some c→∃p∈L,l=p.1 + nx∧σ1 p.1=some c∧H1.get p.1=some p.2∧(puts nx L H).get l=some (shB nx p.2):=fun l c hl hc=> by
  unfold addN at hc
  rw [if_neg hl] at hc
  by_cases hm:(l - nx)∈L.map (·.1)
  ·rw [if_pos hm] at hc
   obtain ⟨q,hq,e⟩:=List.mem_map.1 hm
   rcases D5 nx H hL l with ⟨p,hp,e1,e2⟩ | ⟨e1,_⟩
   ·have:l - nx=p.1:=by omega
    rw [this] at hc
    exact ⟨p,hp,e1,hc,hL p hp,e2⟩
   ·exact absurd (show l=q.1 + nx by omega) (e1 q hq)
  ·rw [if_neg hm] at hc
   cases hc
 refine ⟨(h.keep h1.below.to).below,fun l c b hl hb=> ?_,fun l c hl=> ?_,fun l l' c c' b b' hl hl' hb hb' e=> ?_,fun l c hl=> ?_⟩
 ·by_cases hlt:l < nx
  ·rw [xA l hlt] at hl
   rw [akC l hlt] at hb
   exact (h.blk l c b hl hb).mono le (h1.below.block _ (h.lo l c hl).2)
  ·obtain ⟨p,hp,e1,e2,e3,e4⟩:=hi l c hlt hl
   rw [e4] at hb
   injection hb with hb
   subst hb
   exact (h1.blk p.1 c p.2 e2 e3).shift up (hK p hp)
 ·by_cases hlt:l < nx
  ·rw [xA l hlt] at hl
   exact ⟨(h.lo l c hl).1,Nat.lt_of_lt_of_le (h.lo l c hl).2 h1.below.size⟩
  ·obtain ⟨p,_,_,e2,_,_⟩:=hi l c hlt hl
   exact ⟨fun hF=> (h1.lo p.1 c e2).1 (Nat.lt_of_lt_of_le (w0.lt _ hF) h.below.size),(h1.lo p.1 c e2).2⟩
 ·by_cases hlt:l < nx <;> by_cases hlt':l' < nx
  ·rw [xA l hlt] at hl
   rw [xA l' hlt'] at hl'
   rw [akC l hlt] at hb
   rw [akC l' hlt'] at hb'
   exact h.sep l l' c c' b b' hl hl' hb hb' e
  ·rw [xA l hlt] at hl
   obtain ⟨p,_,_,e2,_,_⟩:=hi l' c' hlt' hl'
   have a:=(h.lo l c hl).2
   have b:¬c'.blk < w.heap.size:=(h1.lo p.1 c' e2).1
   omega
  ·rw [xA l' hlt'] at hl'
   obtain ⟨p,_,_,e2,_,_⟩:=hi l c hlt hl
   have a:=(h.lo l' c' hl').2
   have b:¬c.blk < w.heap.size:=(h1.lo p.1 c e2).1
   omega
  ·obtain ⟨p,_,e1,e2,e3,_⟩:=hi l c hlt hl
   obtain ⟨p',_,e1',e2',e3',_⟩:=hi l' c' hlt' hl'
   have:=h1.sep p.1 p'.1 c c' p.2 p'.2 e2 e2' e3 e3' e
   omega
 ·by_cases hlt:l < nx
  ·omega
  ·obtain ⟨p,_,e1,e2,_,_⟩:=hi l c hlt hl
   have:=h1.fresh p.1 c e2
   omega
structure yX where
 f:FuncId
 args:List CV
 v:CV
 L:List (Nat×aP)
 n:Nat
def eqT:List Nat→List Nat→Bool
 | [],[]=> true
 | a::l,b::r=> Nat.beq a b && eqT l r
 | _,_=> false
theorem acw:∀{a b:List Nat},eqT a b=true→a=b
 | [],[],_=> rfl
 | a::l,b::r,h=> by
  obtain ⟨h1,h2⟩:=and_true (show (Nat.beq a b && eqT l r)=true from h)
  rw [ay h1,acw h2]
 | [],b::r,h=> by cases h
 | a::l,[],h=> by cases h
def vE:Value→Value→Bool
 | .int k n,.int k' m=> KC k k' && ieq n m
 | .bool a,.bool b=> a==b
 | .slice none z k,.slice none z' k'=> Nat.beq z z' && Nat.beq k k'
 | _,_=> false
def zQ:CV→CV→Bool
 | .t a,.t b=> eqT a b
 | .v a,.v b=> vE a b
 | _,_=> false
def AX:List CV→List CV→Bool
 | [],[]=> true
 | a::l,b::r=> zQ a b && AX l r
 | _,_=> false
def af4:CV→CV→Bool
 | .agg a,.agg b=> AX a b
 | a,b=> zQ a b
def Wp:List CV→List CV→Bool
 | [],[]=> true
 | a::qs,b::bs=> af4 a b && Wp qs bs
 | _,_=> false
def yX.closed (m:yX):Bool:=Qx (m.L.map (·.1)) m.v && m.L.all fun p=> Qy (m.L.map (·.1)) p.2
structure yX.Ok (P:Program) (G:Base→Prop) (m:yX):Prop where
 cl:m.closed=true
 ok:∀(w:World) (vals:Array Value) (hu:OkW w),G (Base.of w hu)→fU (fun _=> none) m.args vals.toList→(callFunc m.f vals).run P w= .ok (.enter m.f vals) w∧
  Calls P m.f vals w fun e w'=> ∃x,e= .returned x∧∃σ1 H1,R (Base.of w hu) σ1 H1 m.n w'∧(∀p∈m.L,H1.get p.1=some p.2)∧VR σ1 m.v x
def xM:List yX→FuncId→List CV→Tr aP→Nat→Option dG
 | [],_,_,_,_=> none
 | m::t,f,args,H,nx=> bG (Bool.and (Nat.beq f m.f) (Wp m.args args)) (some (.ok (sh nx m.v) (puts nx m.L H) (Nat.add nx m.n))) (xM t f args H nx)
theorem an3 {a b:Value} (h:vE a b=true):a=b:=by
 unfold vE at h
 split at h
 ·obtain ⟨h1,h2⟩:=and_true h
  rw [rM] at h2
  rw [mZ h1,of_decide_eq_true h2]
 ·rw [eq_of_beq h]
 ·obtain ⟨h1,h2⟩:=and_true h
  rw [ay h1,ay h2]
 ·cases h
theorem Qz {σ σ':Nm} {a b:CV} {v:Value} (h:zQ a b=true) (hv:VR σ b v):a=b∧VR σ' a v:=by
 unfold zQ at h
 split at h
 ·rw [acw h]
  cases hv with
  | t _ hb=> exact ⟨rfl,.t _ hb⟩
 ·rw [an3 h]
  cases hv with
  | v _ hb=> exact ⟨rfl,.v _ hb⟩
 ·cases h
theorem zS:∀{l r:List CV},AX l r=true→l.length=r.length∧∀(j:Nat) (a:CV),l[j]? =some a→∃b,r[j]? =some b∧zQ a b=true
 | [],[],_=> ⟨rfl,fun j a h=> by simp at h⟩
 | a::l,b::r,h=> by
  obtain ⟨h1,h2⟩:=and_true (show (zQ a b && AX l r)=true from h)
  obtain ⟨h3,h4⟩:=zS h2
  refine ⟨by rw [List.length_cons,List.length_cons,h3],fun j x hx=> ?_⟩
  cases j with
  | zero=>
   injection hx with hx
   subst hx
   exact ⟨b,rfl,h1⟩
  | succ j=> exact h4 j x hx
 | [],b::r,h=> by cases h
 | a::l,[],h=> by cases h
theorem Yh {a b:CV} (h:zQ a b=true):iQ a=true:=by
 unfold zQ at h
 split at h
 ·rfl
 ·rfl
 ·cases h
theorem af5 {σ σ':Nm} {a b:CV} {v:Value} (h:af4 a b=true) (hv:VR σ b v):VR σ' a v:=by
 unfold af4 at h
 split at h
 ·rename_i l r
  obtain ⟨h1,h2⟩:=zS h
  cases hv with
  | agg _ vs k1 kl kh=>
   refine .agg l vs (fun c hc=> ?_) (by rw [h1];exact kl) fun j c u hc hu=> ?_
   ·obtain ⟨j,hj⟩:=List.mem_iff_getElem?.1 hc
    obtain ⟨b,_,hb⟩:=h2 j c hj
    exact Yh hb
   ·obtain ⟨b,hb,he⟩:=h2 j c hc
    exact (Qz he (kh j b u hb hu)).2
 ·exact (Qz h hv).2
theorem QA {σ σ':Nm}:∀{qs bs:List CV} {vs:List Value},Wp qs bs=true→fU σ bs vs→fU σ' qs vs
 | [],[],vs,_,h=> ⟨h.1,fun j c v hc=> by simp at hc⟩
 | a::qs,b::bs,[],_,h=> by have:=h.1;simp at this
 | a::qs,b::bs,v::vs,he,h=> by
  obtain ⟨h1,h2⟩:=and_true (show (af4 a b && Wp qs bs)=true from he)
  exact .cons (af5 h1 (h.2 0 b v rfl rfl)) (QA h2 ⟨by have:=h.1;simpa using this,fun j c u hc hu=> h.2 (j + 1) c u hc hu⟩)
 | [],b::bs,_,h,_=> by cases h
 | a::qs,[],_,h,_=> by cases h
theorem aiv {P:Program} {G:Base→Prop} (hG:∀w0 w hu,G w0→dO w0 w→G (Base.of w hu)):∀{T:List yX},(∀m∈T,m.Ok P G)→iP P G (xM T)
 | [],_=> fun f args H nx v H' nx' h=> by cases h
 | m::T,hT=> fun f args H nx v H' nx' h w0 σ w vals hg hr hL=> by
  rcases jf (show bG _ _ _=_ from h) with ⟨e,h1⟩ | ⟨_,h1⟩
  ·obtain ⟨e1,e2⟩:=and_true e
   have e1:=ay e1
   subst e1
   injection h1 with h1
   injection h1 with h1 h2 h3
   subst h1 h2 h3
   have hm:=hT m (List.mem_cons_self ..)
   obtain ⟨hc,hcl⟩:=hm.ok w vals hr.below.okW (hG w0 w _ hg hr.below) (QA e2 hL)
   obtain ⟨c1,c2⟩:=and_true hm.cl
   refine ⟨hc,hcl.mono ?_⟩
   rintro e' w' ⟨x,rfl,σ1,H1,hR,hH,hv⟩
   refine ⟨x,rfl,addN σ σ1 nx (m.L.map (·.1)),fun l c hl=> ?_,fun l hl=> if_pos hl,hr.join hR hH fun p hp=> List.all_eq_true.1 c2 p hp,Nat.le_add_right ..,hv.shift (fun l c hl hc=> ?_) c1⟩
   ·unfold addN
    rw [if_pos (hr.fresh l c hl)]
    exact hl
   ·unfold addN
    rw [if_neg (by omega),Nat.add_sub_cancel,if_pos hl]
    exact hc
  ·exact aiv hG (fun p hp=> hT p (List.mem_cons_of_mem _ hp)) f args H nx v H' nx' h1 w0 σ w vals hg hr hL
mutual
def TG:CV→List Nat
 | .v _=> []
 | .u _=> []
 | .t _=> []
 | .p l _=> [l]
 | .s l _ _ _=> [l]
 | .m l=> [l]
 | .fn _ fs cs=> xE fs ++ xE cs
 | .agg cs=> xE cs
 | .bH cs=> xE cs
def xE:List CV→List Nat
 | []=> []
 | c::cs=> TG c ++ xE cs
end
def Wq:aP→List Nat
 | .cl _ cs=> xE cs
 | .mp es _ _=> xE (es.map (·.1)) ++ xE (es.map (·.2))
 | .it none _ _ _=> []
 | .it (some m) _ _ _=> [m]
 | .mu es=> xE (es.map (·.2))
def collect (H:Tr aP):Nat→List Nat→List (Nat×aP)→List (Nat×aP)
 | 0,_,acc=> acc
 | _ + 1,[],acc=> acc
 | n + 1,l::r,acc=> bG (acc.any fun p=> Nat.beq p.1 l) (collect H n r acc) (@Option.rec aP (fun _=> List (Nat×aP)) (collect H n r acc) (fun b=> collect H n (Wq b ++ r) ((l,b)::acc)) (H.get l))
theorem lQ {H:Tr aP}:∀(n:Nat) (t:List Nat) (acc:List (Nat×aP)),(∀p∈acc,H.get p.1=some p.2)→∀p∈collect H n t acc,H.get p.1=some p.2
 | 0,_,_,h=> h
 | _ + 1,[],_,h=> h
 | n + 1,l::r,acc,h=> by
  show ∀p∈bG (acc.any fun p=> Nat.beq p.1 l) (collect H n r acc) (@Option.rec aP (fun _=> List (Nat×aP)) (collect H n r acc) (fun b=> collect H n (Wq b ++ r) ((l,b)::acc)) (H.get l)),H.get p.1=some p.2
  cases hb:acc.any fun p=> Nat.beq p.1 l with
  | true=> exact lQ n r acc h
  | false=>
   show ∀p∈ @Option.rec aP (fun _=> List (Nat×aP)) (collect H n r acc) (fun b=> collect H n (Wq b ++ r) ((l,b)::acc)) (H.get l),H.get p.1=some p.2
   cases hg:H.get l with
   | none=> exact lQ n r acc h
   | some b=>
    refine lQ n (Wq b ++ r) ((l,b)::acc) fun p hp=> ?_
    rcases List.mem_cons.1 hp with rfl | hp
    ·exact hg
    ·exact h p hp
def outcome (r:dG):Option (CV×List (Nat×aP)×Nat):= @dG.rec (fun _=> Option (CV×List (Nat×aP)×Nat)) none (fun v H n=> some (v,collect H 3000 (TG v) [],n)) r
theorem yX.of_run {P:Program} {G:Base→Prop} (hm:P.follows .mixedOrders=true) {ext:FuncId→List CV→Tr aP→Nat→Option dG} (hE:iP P G ext) {k n:Nat} (m:yX) (hc:m.closed=true) (h:outcome (rc P ext k n m.f m.args .e 0)=some (m.v,m.L,m.n)):m.Ok P G:=by
 refine ⟨hc,fun w vals hu hg hL=> ?_⟩
 cases hr:rc P ext k n m.f m.args .e 0 with
 | no=> rw [hr] at h;cases h
 | ok v H n'=>
  rw [hr] at h
  have h:some (v,collect H 3000 (TG v) [],n')=some (m.v,m.L,m.n):=h
  injection h with h
  injection h with h1 h
  injection h with h2 h3
  obtain ⟨a,b⟩:=Jm hm hE k n m.f m.args .e 0 v H n' hr (Base.of w hu) (fun _=> none) w vals hg (R.start w hu) hL
  refine ⟨a,b.mono ?_⟩
  rintro e w' ⟨x,rfl,σ1,_,_,hR,_,hv⟩
  rw [h1] at hv
  rw [h3] at hR
  refine ⟨x,rfl,σ1,H,hR,fun p hp=> ?_,hv⟩
  rw [←h2] at hp
  exact lQ 3000 (TG v) [] (fun p hp=> by cases hp) p hp
def orX (x y:FuncId→List CV→Tr aP→Nat→Option dG) (f:FuncId) (args:List CV) (H:Tr aP) (nx:Nat):Option dG:= @Option.rec dG (fun _=> Option dG) (y f args H nx) (fun r=> some r) (x f args H nx)
theorem yY {P:Program} {G:Base→Prop} {x y:FuncId→List CV→Tr aP→Nat→Option dG} (hx:iP P G x) (hy:iP P G y):iP P G (orX x y):=fun f args H nx v H' nx' h=> by
 have h: @Option.rec dG (fun _=> Option dG) (y f args H nx) (fun r=> some r) (x f args H nx)=some (.ok v H' nx'):=h
 cases hq:x f args H nx with
 | none=>
  rw [hq] at h
  exact hy f args H nx v H' nx' h
 | some r=>
  rw [hq] at h
  have h:some r=some (.ok v H' nx'):=h
  injection h with h
  subst h
  exact hx f args H nx v H' nx' hq
end Ci
namespace Ci
open Go.RowKit
variable [fE]
def akD (l:List Nat):Nat→Option Nat:= @List.rec Nat (fun _=> Nat→Option Nat) (fun acc=> some acc) (fun b _ ih acc=> fP (Bool.and (Nat.ble 48 b) (Nat.ble b 57)) (ih (Nat.add (Nat.mul acc 10) (Nat.sub b 48)))) l
def Hw (l:List Nat):Option Nat:=fP (Bool.not (kD l)) (akD l 0)
def aiw (l:List Nat):Option Int:= @List.rec Nat (fun _=> Option Int) none (fun b r _=> bG (Nat.beq b 45) (ob (Hw r) fun m=> some (Int.negOfNat m)) (bG (Nat.beq b 43) (ob (Hw r) fun m=> some (Int.ofNat m)) (ob (Hw (b::r)) fun m=> some (Int.ofNat m)))) l
def acy (h:Tr aP) (nx:Nat) (args:List CV):Option dG:=match args with
 | [.t bs]=> fP (Nat.ble (len bs) 18) (ob (aiw bs) fun n=> now n fun n=> some (.ok (.bH [.v (.int .i64 n),.v .nilIface]) h nx))
 | _=> none
def xIdx (h:Tr aP) (nx:Nat) (args:List CV):Option dG:=match args with
 | [.t bs,.v y]=> (match y with
  | .int k c=> fP (KC k .u8) (@Int.rec (fun _=> Option dG) (fun c=> fP (Nat.ble c 255) (some (.ok (.v (.int .i64 (@Option.rec Nat (fun _=> Int) (.negSucc 0) (fun i=> .ofNat i) (vg c bs)))) h nx))) (fun _=> none) c)
  | _=> none)
 | _=> none
def an4 (bs:List Nat) (r:Option Nat):CV:= @Option.rec Nat (fun _=> CV) (.bH [.t bs,.t [],.v (.bool false)]) (fun i=> .bH [.t (takeN i bs),.t (oz (Nat.succ i) bs),.v (.bool true)]) r
def akE (h:Tr aP) (nx:Nat) (args:List CV):Option dG:=match args with
 | [.t bs,.t sep]=> (match sep with
  | [c]=> fP (Nat.ble (len bs) 1000000) (some (.ok (an4 bs (vg c bs)) h nx))
  | _=> none)
 | _=> none
def TJ (n:Int) (l:List Int):List Int:= @List.rec Int (fun _=> List Int) [n] (fun m r ih=> bG (X6 m n) (m::ih) (n::m::r)) l
def o8 (l:List Int):List Int:= @List.rec Int (fun _=> List Int) [] (fun n _ ih=> TJ n ih) l
def acz (l:List (CV×CV)):Option (List Int):= @List.rec (CV×CV) (fun _=> Option (List Int)) (some []) (fun p _ ih=> isI p.1 fun n=> ob ih fun r=> some (n::r)) l
def Jo (l:List Int):List CV:= @List.rec Int (fun _=> List CV) [] (fun n _ ih=> .v (.int .i64 n)::ih) l
def akF (l:List Int):Bool:= @List.rec Int (fun _=> Bool) true (fun n _ ih=> Bool.and (Bool.and (Bool.not (X6 n (.negSucc 9223372036854775807))) (Bool.not (X6 (.ofNat 9223372036854775807) n))) ih) l
def akG (h:Tr aP) (nx:Nat) (l:List Int):Option dG:=fP (Bool.and (Nat.ble (len l) 1000000) (akF l)) (@List.rec Int (fun _=> Option dG) (some (.ok (.v (.slice none 0 0)) h nx)) (fun _ _ _=> some (.ok (.s nx 0 (len l) (.op 1 (len l))) (h.put nx (.cl .any (Jo (o8 l)))) (Nat.succ nx))) l)
def an5 (k:Kd):Bool:=match k with
 | .any=> false
 | _=> true
def acA (kf:FuncId) (h:Tr aP) (nx:Nat) (g:CV):Option dG:=match g with
 | .fn f [] [.p b o]=> fP (Bool.and (Nat.beq f kf) (Bool.and (Nat.beq o 0) (an5 (kOf h b)))) (ob (cellsOf h b) fun cs=> ob (nth cs 0) fun c=> isM c fun l=> ob (ah7 h l) fun es=> ob (acz es) fun ks=> akG h nx ks)
 | _=> none
def acB (kf:FuncId) (h:Tr aP) (nx:Nat) (args:List CV):Option dG:=match args with
 | [g]=> acA kf h nx g
 | _=> none
end Ci
namespace Ci
open Go.RowKit Go.Shelf
variable [fE]
def dig (f:Nat):Nat→List Nat→Option (List Nat):= @Nat.rec (fun _=> Nat→List Nat→Option (List Nat)) (fun _ _=> none) (fun _ ih n acc=> @Bool.rec (fun _=> Option (List Nat)) (ih (Nat.div n 10) (Nat.add 48 (Nat.mod n 10)::acc)) (some (Nat.add 48 n::acc)) (Nat.ble n 9)) f
def aix (n:Int):Option (List Nat):= @Int.rec (fun _=> Option (List Nat)) (fun n=> fP (Nat.ble n 9223372036854775807) (dig 25 n [])) (fun n=> fP (Nat.ble n 9223372036854775807) (ob (dig 25 (Nat.succ n) []) fun bs=> some (45::bs))) n
def acC (h:Tr aP) (nx:Nat) (args:List CV):Option dG:=match args with
 | [.v y]=> (match y with
  | .int k n=> fP (KC k .i64) (ob (aix n) fun bs=> some (.ok (.t bs) h nx))
  | _=> none)
 | _=> none
theorem TL:∀(f n:Nat) (acc r:List Nat),dig f n acc=some r→r=(Lib.decDigits n).map UInt8.toNat ++ acc
 | 0,n,acc,r,h=> by cases h
 | f + 1,n,acc,r,h=> by
  have h: @Bool.rec (fun _=> Option (List Nat)) (dig f (Nat.div n 10) (Nat.add 48 (Nat.mod n 10)::acc)) (some (Nat.add 48 n::acc)) (Nat.ble n 9)=some r:=h
  have hn:∀m,m≤9→(UInt8.ofNat (48 + m)).toNat=48 + m:=fun m hm=> by simp;omega
  rw [Lib.decDigits]
  cases hb:Nat.ble n 9
  ·rw [hb] at h
   have hlt:¬n < 10:=by
    intro hlt
    have:=Nat.ble_eq_true_of_le (show n≤9 by omega)
    rw [hb] at this
    cases this
   rw [dif_neg hlt,TL f _ _ _ h]
   simp only [List.map_append,List.map_cons,List.map_nil,List.append_assoc,List.cons_append,List.nil_append]
   rw [hn (n % 10) (by omega)]
   first | done | rfl
  ·rw [hb] at h
   have hb:=aN hb
   rw [dif_pos (by omega)]
   injection h with h
   rw [←h]
   simp only [List.map_cons,List.map_nil,List.cons_append,List.nil_append]
   rw [hn n hb]
   first | done | rfl
theorem acD {n:Int} {bs:List Nat} (h:aix n=some bs):bs=(Lib.itoa n).map UInt8.toNat∧ -9223372036854775808≤n∧n≤9223372036854775807:=by
 cases n with
 | ofNat n=>
  obtain ⟨h1,h2⟩:=aC (show fP (Nat.ble n 9223372036854775807) (dig 25 n [])=some bs from h)
  have h1:=aN h1
  refine ⟨?_,by show (-9223372036854775808:Int)≤(n:Int);omega,by show (n:Int)≤9223372036854775807;omega⟩
  rw [TL _ _ _ _ h2]
  unfold Lib.itoa
  rw [if_neg (by simp)]
  simp
 | negSucc n=>
  obtain ⟨h1,h2⟩:=aC (show fP (Nat.ble n 9223372036854775807) (ob (dig 25 (Nat.succ n) []) fun bs=> some (45::bs))=some bs from h)
  obtain ⟨r,h3,h4⟩:=aj h2
  injection h4 with h4
  have h1:=aN h1
  refine ⟨?_,by omega,by omega⟩
  rw [←h4,TL _ _ _ _ h3]
  unfold Lib.itoa
  rw [if_pos (by omega)]
  simp
theorem acE {l:List UInt8} (σ:Nm):VR σ (.t (l.map UInt8.toNat)) (.string ⟨l.toArray⟩):=by
 have e:oW (l.map UInt8.toNat)= .string ⟨l.toArray⟩:=by
  unfold oW
  rw [List.map_map]
  have:(UInt8.ofNat∘UInt8.toNat)=id:=by
   funext b
   simp
  rw [this,List.map_id]
 rw [←e]
 refine .t _ fun b hb=> ?_
 obtain ⟨u,_,rfl⟩:=List.mem_map.1 hb
 exact u.toNat_lt
def acF (h:Tr aP) (nx l:Nat) (k:Kd) (cs:List CV):Option dG:=match cs with
 | [c0,c1]=> (match c0 with
  | .v y=> fP (Di y) (some (.ok (.bH []) (h.put l (.cl k [.p l 0,c1])) nx))
  | .p l' o'=> fP (Bool.and (Nat.beq l l') (Nat.beq o' 0)) (some (.ok (.bH []) h nx))
  | _=> none)
 | _=> none
def af7 (t:TypeId):Kd→Bool
 | .whole e=> Nat.beq e t
 | _=> false
def Ws (Tb:TypeId) (h:Tr aP) (nx:Nat) (args:List CV):Option dG:=match args with
 | [.p l o]=> fP (Bool.and (Nat.beq o 0) (af7 Tb (kOf h l))) (ob (cellsOf h l) fun cs=> acF h nx l (kOf h l) cs)
 | _=> none
theorem kW {P:Program} {f:FuncId} {vals:Array Value} {w:World} {w0:Base} {σ:Nm} {H:Tr aP} {nx:Nat} {v:CV} {x:Value} (hr:R w0 σ H nx w) (hv:VR σ v x) (h:Calls P f vals w fun e w'=> e= .returned x∧Below w.heap.size w w'):Calls P f vals w fun e w'=> ∃x,e= .returned x∧After w0 σ nx v H nx x w':=
 h.mono fun _ _ ⟨he,hb⟩=> ⟨x,he,.same (hr.keep hb) hv⟩
section
variable {P : Program} {ρ : Ren} {G : Base → Prop}
theorem acG (L:LaysM.n171 P ρ) (htab:∀w0 w,G w0→dO w0 w→Lib.TabIs P w "internal/strconv.uint64pow10" .u64 Lib.pow10Tab) {args:List CV} {H:Tr aP} {nx:Nat} {v:CV} {H':Tr aP} {nx':Nat} (h:acC H nx args=some (.ok v H' nx')) {w0:Base} {w:World} {σ:Nm} {vals:Array Value} (hG:G w0) (hr:R w0 σ H nx w) (hL:fU σ args vals.toList):
  Calls P (ρ.f 171) vals w fun e w'=> ∃x,e= .returned x∧After w0 σ nx v H' nx' x w':=by
 unfold acC at h
 split at h
 ·rename_i y
  split at h
  ·rename_i k n
   obtain ⟨h1,h2⟩:=aC h
   obtain ⟨bs,h3,h4⟩:=aj h2
   injection h4 with h4
   obtain ⟨rfl,rfl,rfl⟩:=bU h4
   have h1:=mZ h1
   subst h1
   obtain ⟨rfl,k1,k2⟩:=acD h3
   obtain ⟨x,r,e1,hx,hL2⟩:=hL.cons_inv
   have e2:=hL2.bg
   subst e2
   have hv:vals= #[x]:=Array.ext' (by simpa using e1)
   rw [hv,hx.val]
   refine kW hr (acE σ) ((Any.strconv_Itoa L n k1 k2 w (htab w0 w hG hr.below)).mono ?_)
   rintro e w' ⟨he,k,os,rfl⟩
   refine ⟨he,rfl,rfl,rfl,?_,fun b hb=> ?_⟩
   ·show w.heap.size≤((w.drewN k).heap ++ os).size
    rw [Array.size_append]
    exact Nat.le_add_right _ _
   ·show ((w.drewN k).heap ++ os)[b]? =w.heap[b]?
    rw [Array.getElem?_append_left (xs:=(w.drewN k).heap) hb]
    rfl
  ·cases h
 ·cases h
theorem QB {α:Type} (cs:List α) (v:α) (h:0 < cs.length):over cs 0 [v]=cs.set 0 v:=by
 cases cs with
 | nil=> simp at h
 | cons x l=> simp [over]
theorem acH (L:Lays.n240 P ρ) (X:Builder.X72 P ρ) {args:List CV} {H:Tr aP} {nx:Nat} {v:CV} {H':Tr aP} {nx':Nat} (h:Ws (ρ.t 72) H nx args=some (.ok v H' nx')) {w0:Base} {w:World} {σ:Nm} {vals:Array Value} (hr:R w0 σ H nx w) (hL:fU σ args vals.toList):
  Calls P (ρ.f 240) vals w fun e w'=> ∃x,e= .returned x∧After w0 σ nx v H' nx' x w':=by
 unfold Ws at h
 split at h
 ·rename_i l o
  obtain ⟨h1,h2⟩:=aC h
  obtain ⟨m1,m2⟩:=and_true h1
  have m1:=ay m1
  subst m1
  obtain ⟨cs,h3,h4⟩:=aj h2
  obtain ⟨kd,hH⟩:=ji h3
  rw [KZ hH] at m2 h4
  obtain ⟨x,r,e1,hx,hL2⟩:=hL.cons_inv
  have e2:=hL2.bg
  subst e2
  have hv:vals= #[x]:=Array.ext' (by simpa using e1)
  obtain ⟨c,hl,rfl⟩:=hx.pv
  obtain ⟨cur,T,g1,g2,g3,gk,g4⟩:=hr.blk l c _ hl hH
  cases kd with
  | any=> cases m2
  | of t=> cases m2
  | whole t=>
   obtain ⟨q1,q2,q3⟩:=gk
   have m2:=ay (show Nat.beq t (ρ.t 72)=true from m2)
   rw [m2] at q1
   unfold acF at h4
   split at h4
   ·rename_i c0 c1
    have hsz:cur.size=2:=by
     have:c.room=2:=q3
     omega
    have hcell:∀j,w.cell? ⟨c.blk,j,none⟩=cur[j]? :=fun j=> cell_of_row _ _ _ cur T (0,0) g1
    obtain ⟨u0,a1,a2,_⟩:=g4 0 c0 rfl
    rw [q2] at a1
    rw [hv,q2]
    cases c0 with
    | v y=>
     obtain ⟨h5,h6⟩:=aC (show fP (Di y) _=some (dG.ok v H' nx') from h4)
     injection h6 with h6
     obtain ⟨rfl,rfl,rfl⟩:=bU h6
     have hy:y= .pointer none:=by
      unfold Di at h5
      split at h5
      ·rfl
      ·cases h5
     have h0:w.cell? ⟨c.blk,0,none⟩=some (.pointer none):=by rw [hcell];rw [show cur[0]? =some u0 from a1,a2.val,hy]
     refine (Any.Builder_copyCheck_fresh L X c.blk w h0 (by simp [World.shape?,g1,hsz,q1]) (frozen_of_row w c.blk 0 cur T g1)).mono ?_
     rintro e w' ⟨he,rfl⟩
     refine ⟨_,he,.same ?_ (.unit σ)⟩
     have hup:=xq (o:=0) (ns:= [.p l 0]) (us:= [.pointer (some ⟨c.blk,0,none⟩)]) hr hl hH g1 (.cons (by have:=VR.p (σ:=σ) (l:=l) (c:=c) 0 hl;rw [q2] at this;exact this) (.nil σ)) (fun x hx=> by rw [List.mem_singleton.1 hx];rfl) (by simp)
     rw [Qg hH,KL _ _ _ (by simp),QB _ _ (by simp)] at hup
     rw [setCell_eq_setRow w c.blk 0 cur T (0,0) _ g1]
     have e5:(over cur.toList (c.off + 0) [Value.pointer (some ⟨c.blk,0,none⟩)]).toArray=cur.setIfInBounds 0 (.pointer (some ⟨c.blk,0,none⟩)):=by
      rw [q2,Nat.add_zero,QB _ _ (by simp;omega)]
      apply Array.ext'
      simp
     rw [e5] at hup
     exact hup
    | p l' o'=>
     obtain ⟨h5,h6⟩:=aC (show fP (Bool.and (Nat.beq l l') (Nat.beq o' 0)) _=some (dG.ok v H' nx') from h4)
     injection h6 with h6
     obtain ⟨rfl,rfl,rfl⟩:=bU h6
     obtain ⟨n1,n2⟩:=and_true h5
     have n1:=ay n1
     have n2:=ay n2
     subst n1 n2
     obtain ⟨c',hl',hu⟩:=a2.pv
     rw [hl] at hl'
     injection hl' with hl'
     subst hl'
     have h0:w.cell? ⟨c.blk,0,none⟩=some (.pointer (some ⟨c.blk,0,none⟩)):=by rw [hcell];rw [show cur[0]? =some u0 from a1,hu,q2]
     refine (Any.Builder_copyCheck_used L X c.blk w h0).mono ?_
     rintro e w' ⟨he,rfl⟩
     exact ⟨_,he,.same hr (.unit σ)⟩
    | _=> cases h4
   ·cases h4
 ·cases h
end
end Ci
end Go.Proofs.YtnegekppaoedgaaGreatDoor
end

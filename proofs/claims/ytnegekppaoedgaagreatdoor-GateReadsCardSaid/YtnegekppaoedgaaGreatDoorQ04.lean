/-
Evaluation of Go code on plain data: regions that draw their order, whole. Over any program.
-/
import Derived.Test.YtnegekppaoedgaaGreatDoorQ03
import Derived.Laws.StructEq
namespace Go.Proofs.YtnegekppaoedgaaGreatDoor
section
open Go.RowKit
theorem Py (acc:Array Nat) (k:Nat):∀(l:List Edge) (s:Nat),(l.foldl (fun s e=> if Region.binds .any e then s ||| 2 ^ e.on ||| acc.getD e.on 0 else s) s).testBit k=true→
  s.testBit k=true∨∃e∈l,Region.binds .any e=true∧(e.on=k∨(acc.getD e.on 0).testBit k=true)
 | [],s,h=> Or.inl h
 | e::l,s,h=> by
  rw [List.foldl_cons] at h
  rcases Py acc k l _ h with h | ⟨e',he',h⟩
  ·cases hb:Region.binds .any e
   ·rw [hb] at h
    exact Or.inl (by simpa using h)
   ·rw [hb] at h
    simp only [if_true,Nat.testBit_or,Bool.or_eq_true,Nat.testBit_two_pow,decide_eq_true_eq] at h
    rcases h with (h | h) | h
    ·exact Or.inl h
    ·exact Or.inr ⟨e,by simp,hb,Or.inl h⟩
    ·exact Or.inr ⟨e,by simp,hb,Or.inr h⟩
  ·exact Or.inr ⟨e',by simp [he'],h⟩
def beforeL (l:List Oper) (acc:Array Nat):Array Nat:=l.foldl (fun acc o=> acc.push (o.after.foldl (fun s e=> if Region.binds .any e then s ||| 2 ^ e.on ||| acc.getD e.on 0 else s) 0)) acc
theorem CJ:∀(l pre:List Oper) (acc:Array Nat),acc.size=pre.length→(∀(i k:Nat),(acc.getD i 0).testBit k=true→∃o e,pre[i]? =some o∧e∈o.after∧Region.binds .any e=true∧(e.on=k∨(acc.getD e.on 0).testBit k=true))→
  ∀(i k:Nat),((beforeL l acc).getD i 0).testBit k=true→∃o e,(pre ++ l)[i]? =some o∧e∈o.after∧Region.binds .any e=true∧(e.on=k∨((beforeL l acc).getD e.on 0).testBit k=true)
 | [],pre,acc,_,h,i,k,hb=> by
  rw [List.append_nil]
  exact h i k hb
 | o::l,pre,acc,hs,h,i,k,hb=> by
  have hx:∀x,acc.getD x 0=if x < acc.size then (acc.push (o.after.foldl (fun s e=> if Region.binds .any e then s ||| 2 ^ e.on ||| acc.getD e.on 0 else s) 0)).getD x 0 else 0:=by
   intro x
   by_cases hlt:x < acc.size
   ·rw [if_pos hlt]
    simp only [Array.getD_eq_getD_getElem?,Array.getElem?_push]
    rw [if_neg (by omega)]
   ·rw [if_neg hlt,Array.getD_eq_getD_getElem?,Array.getElem?_eq_none (by omega)]
    rfl
  have mono:∀x q,(acc.getD x 0).testBit q=true→((acc.push (o.after.foldl (fun s e=> if Region.binds .any e then s ||| 2 ^ e.on ||| acc.getD e.on 0 else s) 0)).getD x 0).testBit q=true:=by
   intro x q hq
   rw [hx] at hq
   split at hq
   ·exact hq
   ·simp at hq
  have:=CJ l (pre ++ [o]) (acc.push (o.after.foldl (fun s e=> if Region.binds .any e then s ||| 2 ^ e.on ||| acc.getD e.on 0 else s) 0)) (by simp [hs]) (fun i k hb=> by
   by_cases hi:i < acc.size
   ·have e1:=hx i
    rw [if_pos hi] at e1
    rw [←e1] at hb
    obtain ⟨o',e,h1,h2,h3,h4⟩:=h i k hb
    refine ⟨o',e,?_,h2,h3,h4.imp id (mono _ _)⟩
    rw [List.getElem?_append_left (by omega)]
    exact h1
   ·by_cases hi2:i=acc.size
    ·subst hi2
     simp only [Array.getD_eq_getD_getElem?,Array.getElem?_push_size,Option.getD_some] at hb
     rw [←Array.foldl_toList] at hb
     simp only [←Array.getD_eq_getD_getElem?] at hb
     rcases Py acc k o.after.toList 0 hb with hb | ⟨e,he,h3,h4⟩
     ·simp at hb
     ·refine ⟨o,e,?_,by simpa using he,h3,h4.imp id (mono _ _)⟩
      rw [hs,List.getElem?_append_right (Nat.le_refl _)]
      simp
    ·rw [Array.getD_eq_getD_getElem?,Array.getElem?_eq_none (by simp;omega)] at hb
     simp at hb) i k hb
  rw [List.append_assoc] at this
  exact this
theorem CO (ops:Array Oper) (i k:Nat) (hb:((Region.before ops).getD i 0).testBit k=true):∃o e,ops[i]? =some o∧e∈o.after∧Region.binds .any e=true∧(e.on=k∨((Region.before ops).getD e.on 0).testBit k=true):=by
 have e:Region.before ops=beforeL ops.toList #[]:=by
  unfold Region.before beforeL
  rw [←Array.foldl_toList]
 rw [e] at hb ⊢
 have:=CJ ops.toList [] #[] rfl (fun i k hb=> by simp at hb) i k hb
 simpa using this
section
variable {P : Program} {T : Nat → TI} {base nt : Nat} {F : FuncId → List AV → AV → Prop} {w0 : Start} {A : Nat → Prop} {ops : Array Oper}
theorem zD (hback:∀(j:Nat) (o:Oper),ops[j]? =some o→∀e∈o.after,Region.binds .any e=true→e.on < j) {listed:Array Bool} (hcl:∀(j:Nat) (o:Oper),ops[j]? =some o→listed.getD j true=true→∀e∈o.after,Region.binds .any e=true→listed.getD e.on false=true):
  ∀(n i:Nat),i≤n→(∀o,ops[i]? =some o→∀e∈o.after,Region.binds .any e=true→listed.getD e.on false=true)→∀k,((Region.before ops).getD i 0).testBit k=true→listed.getD k false=true:=by
 intro n
 induction n with
 | zero=>
  intro i hi hp k hb
  obtain ⟨o,e,h1,h2,h3,h4⟩:=CO ops i k hb
  have:=hback i o h1 e h2 h3
  omega
 | succ n ih=>
  intro i hi hp k hb
  obtain ⟨o,e,h1,h2,h3,h4⟩:=CO ops i k hb
  have hlt:=hback i o h1 e h2 h3
  have hl:=hp o h1 e h2 h3
  rcases h4 with rfl | h4
  ·exact hl
  ·refine ih e.on (by omega) (fun o' ho' e' he' hb'=> ?_) k h4
   refine hcl e.on o' ho' ?_ e' he' hb'
   rw [Array.getD_eq_getD_getElem?] at hl ⊢
   cases hq:listed[e.on]? with
   | none=> rfl
   | some q=> rw [hq] at hl;exact hl
def yc (ops:Array Oper) (l:List Nat):List Oper:=l.filterMap (ops[·]?)
theorem aa7 (hT:zy P T) (heq:∀t,(T t).eqs=true→(T t).known=true) (hF:∀f args r,F f args r→vM w0.dr P f args r) (hok:J9 T ops=true) {Q:Exit→Act→World→Prop} {sf:fJ} (hQ:∀a κ,gG w0 A sf.m κ→bM κ sf.env a.tmps→a.tmps.size=nt→a.defers= []→Q .normal a κ.w):
  ∀(fuel:Nat) (listed:Array Bool) (rem:List Nat) (st:fJ) (κ:Cx) (a:Act),listed.size=ops.size→rem.length≤fuel→rem.Pairwise (· < ·)→(∀i,i∈rem↔(i < ops.size∧listed.getD i true=false))→
   (∀(j:Nat) (o:Oper),ops[j]? =some o→listed.getD j true=true→∀e∈o.after,Region.binds .any e=true→listed.getD e.on false=true)→
   gG w0 A st.m κ→bM κ st.env a.tmps→a.tmps.size=nt→a.defers= []→pY T base nt F ops (yc ops rem) st sf→wpAny P .any ops Q fuel listed a κ.w:=by
 have hdr:∀(j:Nat),j < ops.size→(∀o,ops[j]? =some o→∀e∈o.after,Region.binds .any e=true→e.on < j)∧∀i,i < j→Bo T ops (Region.before ops) i j=true:=by
  intro j hj
  have:=List.all_eq_true.1 hok j (List.mem_range.2 hj)
  rw [Bool.and_eq_true] at this
  refine ⟨fun o ho e he hbn=> ?_,fun i hi=> List.all_eq_true.1 this.2 i (List.mem_range.2 hi)⟩
  have h1:=this.1
  rw [ho] at h1
  have h1:o.after.all (fun e=> !Region.binds .any e || Nat.blt e.on j)=true:=h1
  have h2:=Array.all_eq_true_iff_forall_mem.1 h1 e he
  rw [hbn] at h2
  have h3:Nat.blt e.on j=true:=h2
  exact Nat.lt_of_succ_le (Nat.le_of_ble_eq_true h3)
 have hback:∀(j:Nat) (o:Oper),ops[j]? =some o→∀e∈o.after,Region.binds .any e=true→e.on < j:=fun j o ho=> (hdr j (Array.getElem?_eq_some_iff.1 ho).1).1 o ho
 have empty:∀(listed:Array Bool) (rem:List Nat),listed.size=ops.size→rem.Pairwise (· < ·)→(∀i,i∈rem↔(i < ops.size∧listed.getD i true=false))→Region.ready .any ops listed= []→rem= []:=by
  intro listed rem hsz hso oU hr
  cases rem with
  | nil=> rfl
  | cons i rest=>
   exfalso
   obtain ⟨hi,hl⟩:=(oU i).1 (by simp)
   have:i∈Region.ready .any ops listed:=by
    refine mem_ready.2 ⟨hl,ops[i],Array.getElem?_eq_getElem hi,fun e he hb=> ?_⟩
    have hlt:=hback i ops[i] (Array.getElem?_eq_getElem hi) e he hb
    cases hq:listed.getD e.on false
    ·exfalso
     have hon:e.on∈i::rest:=by
      refine (oU e.on).2 ⟨by omega,?_⟩
      rw [Array.getD_eq_getD_getElem?] at hq ⊢
      cases hq2:listed[e.on]? with
      | none=> rw [Array.getElem?_eq_none_iff] at hq2;omega
      | some q=> rw [hq2] at hq;exact hq
     rcases List.mem_cons.1 hon with h | h
     ·omega
     ·have:=List.rel_of_pairwise_cons hso h
      omega
    ·rfl
   rw [hr] at this
   cases this
 intro fuel
 induction fuel with
 | zero=>
  intro listed rem st κ a hsz hlen hso oU hcl hs he hn hd hch
  have aa8:rem= []:=List.eq_nil_of_length_eq_zero (by omega)
  subst aa8
  have:sf=st:=hch
  subst this
  refine ⟨?_,hQ a κ hs he hn hd⟩
  rw [List.eq_nil_iff_forall_not_mem]
  intro i hi
  obtain ⟨h1,o,h2,_⟩:=mem_ready.1 hi
  have:=(oU i).2 ⟨(Array.getElem?_eq_some_iff.1 h2).1,h1⟩
  cases this
 | succ fuel ih=>
  intro listed rem st κ a hsz hlen hso oU hcl hs he hn hd hch
  refine ⟨fun hr=> ?_,fun i hi=> ?_⟩
  ·have:=empty listed rem hsz hso oU hr
   subst this
   have:sf=st:=hch
   subst this
   exact hQ a κ hs he hn hd
  ·obtain ⟨hl,o,ho,hpre⟩:=mem_ready.1 hi
   have hlt:i < ops.size:=(Array.getElem?_eq_some_iff.1 ho).1
   have hmem:i∈rem:=(oU i).2 ⟨hlt,hl⟩
   obtain ⟨pre,post,rfl⟩:=List.append_of_mem hmem
   have yQ:=List.pairwise_append.1 hso
   have hat:yc ops (pre ++ i::post)=yc ops pre ++ o::yc ops post:=by
    unfold yc
    rw [List.filterMap_append,List.filterMap_cons,ho]
   rw [hat] at hch
   obtain ⟨s1,h1,h2⟩:=zC (yc ops pre) st (fun x hx=> by
    obtain ⟨k,hk,hxk⟩:=List.mem_filterMap.1 hx
    have hki:k < i:=yQ.2.2 k hk i (by simp)
    have hkl:listed.getD k true=false:=((oU k).1 (by simp [hk])).2
    have hp:=(hdr i hlt).2 k hki
    unfold Bo at hp
    rw [Bool.or_eq_true] at hp
    rcases hp with hp | hp
    ·exfalso
     have:=zD hback hcl i i (Nat.le_refl _) (fun o' ho'=> by rw [ho] at ho';injection ho' with ho';subst ho';exact hpre) k hp
     rw [Array.getD_eq_getD_getElem?] at this hkl
     cases hq:listed[k]? with
     | none=> rw [hq] at hkl;cases hkl
     | some q=> rw [hq] at this hkl;rw [Option.getD_some] at this hkl;rw [this] at hkl;cases hkl
    ·rw [hxk,ho] at hp
     simp only [Bool.and_eq_true,Bool.or_eq_true] at hp
     obtain ⟨ha,hp⟩:=hp
     refine ⟨ha,?_⟩
     rcases hp with (hp | hp) | ⟨⟨⟨⟨⟨p1,p2⟩,p3⟩,p4⟩,p5⟩,p6⟩
     ·exact Or.inl (Nat.eq_of_beq_eq_true hp)
     ·exact Or.inr (Or.inl (Nat.eq_of_beq_eq_true hp))
     ·obtain ⟨d,hd⟩:=Option.isSome_iff_exists.1 p3
      obtain ⟨e,he⟩:=Option.isSome_iff_exists.1 p4
      unfold vW at p5 p6
      rw [hd] at p5
      rw [he] at p6
      exact Or.inr (Or.inr ⟨Nat.eq_of_beq_eq_true p1,Nat.eq_of_beq_eq_true p2,d,e,hd,he,Nat.lt_of_succ_le (Nat.le_of_ble_eq_true p5),Nat.lt_of_succ_le (Nat.le_of_ble_eq_true p6),fun h=> (Oper.apart_spec ha).2.1 d hd (by rw [he,h])⟩))
    (G:=st.m.gen) (fun _=> ⟨hs.He,fun s g hr=> by
     obtain ⟨x,hx,v,hv,hp⟩:=hr
     have:=Cc (jE he hv) (s,g) hp
     rw [hs.gn] at this
     exact this,fun _=> Nat.le_refl _,fun s g cs _ hi=> hs.boxes hi⟩) hch
   unfold wpOp
   rw [ho]
   have hstep:=IX (N:=wpAny P .any ops Q fuel (listed.setIfInBounds i true)) (Q:=Q) hT heq hF hs he hn hd h1 (fun κ' a' q1 q2 q3 q4=> by
    have hget:∀j,(listed.setIfInBounds i true).getD j true=if j=i then true else listed.getD j true:=by
     intro j
     simp only [Array.getD_eq_getD_getElem?,Array.getElem?_setIfInBounds]
     by_cases hj:i=j
     ·subst hj
      rw [if_pos rfl,if_pos rfl]
      split <;> rfl
     ·rw [if_neg hj,if_neg (Ne.symm hj)]
    refine ih (listed.setIfInBounds i true) (pre ++ post) s1 κ' a' (by simpa using hsz) (by simp at hlen ⊢;omega) ?_ ?_ ?_ q1 q2 q3 q4 ?_
    ·rw [List.pairwise_append]
     exact ⟨yQ.1,(List.pairwise_cons.1 yQ.2.1).2,fun x hx y hy=> yQ.2.2 x hx y (by simp [hy])⟩
    ·intro j
     rw [hget]
     have h3:=oU j
     have hni:i∉pre ++ post:=by
      intro hm
      rcases List.mem_append.1 hm with hm | hm
      ·have:=yQ.2.2 i hm i (by simp);omega
      ·have:=(List.pairwise_cons.1 yQ.2.1).1 i hm;omega
     by_cases hj:j=i
     ·subst hj
      rw [if_pos rfl]
      exact ⟨fun h=> absurd h hni,fun h=> by cases h.2⟩
     ·rw [if_neg hj,←h3]
      simp [hj]
    ·intro j o' ho' hl' e he' hb'
     have hone:∀x,listed.getD x false=true→(listed.setIfInBounds i true).getD x false=true:=by
      intro x hx
      simp only [Array.getD_eq_getD_getElem?,Array.getElem?_setIfInBounds] at hx ⊢
      by_cases hxi:i=x
      ·subst hxi
       rw [if_pos rfl]
       split
       ·rfl
       ·rename_i hge
        rw [Array.getElem?_eq_none (by omega)] at hx
        exact hx
      ·rw [if_neg hxi]
       exact hx
     rw [hget] at hl'
     by_cases hj:j=i
     ·subst hj
      rw [ho] at ho'
      injection ho' with ho'
      subst ho'
      exact hone _ (hpre e he' hb')
     ·rw [if_neg hj] at hl'
      exact hone _ (hcl j o' ho' hl' e he' hb')
    ·have:yc ops (pre ++ post)=yc ops pre ++ yc ops post:=List.filterMap_append ..
     rw [this]
     exact h2)
   dsimp only
   split
   ·rename_i hw
    rw [if_pos hw] at hstep
    exact Or.inl hstep
   ·rename_i hw
    rw [if_neg hw] at hstep
    exact hstep
theorem SI (hm:P.follows .mixedOrders=true) (hT:zy P T) (heq:∀t,(T t).eqs=true→(T t).known=true) (hF:∀f args r,F f args r→vM w0.dr P f args r) {id:Nat} (hok:J9 T ops=true) {K:fJ→Prop} {Q:Exit→Act→World→Prop} (hQ:∀a w,Holds w0 A nt K a w→Q .normal a w)
  (st:fJ) (κ:Cx) (a:Act) (hs:gG w0 A st.m κ) (he:bM κ st.env a.tmps) (hn:a.tmps.size=nt) (hd:a.defers= []) (h:bF T base nt F ops.toList ops.toList st K):(Code.region id ops true).wp P Q a κ.w:=by
 refine wp_region_any hm ?_
 obtain ⟨st',hch,hk⟩:=qg ops.toList st h
 have hbel:gQ w0.dr κ.w.heap.size κ.w {κ.w with drawn:=κ.w.drawn + 1}:=⟨⟨rfl,rfl,rfl,Nat.le_refl _,fun _ _=> rfl⟩,fun _=> Nat.le_succ _⟩
 obtain ⟨hs',hle⟩:=hs.grow hbel (S':=κ.S) (fun _ h=> h) (fun _ h=> Or.inl h)
 have hat:yc ops (List.range ops.size)=ops.toList:=by
  apply List.ext_getElem?
  intro i
  have:∀(n:Nat),n≤ops.size→(List.range n).filterMap (ops[·]?)=ops.toList.take n:=by
   intro n
   induction n with
   | zero=> intro _;rfl
   | succ n ih=>
    intro hn
    rw [List.range_succ,List.filterMap_append,ih (by omega),List.take_succ_eq_append_getElem (by simp;omega)]
    simp [Array.getElem?_eq_getElem (show n < ops.size by omega)]
  unfold yc
  rw [this ops.size (Nat.le_refl _),←Array.length_toList,List.take_length]
 refine aa7 (sf:=⟨gW st'.env,st'.m⟩) hT heq hF hok (fun a' κ' q1 q2 q3 q4=> hQ a' κ'.w ⟨st',κ',rfl,q1,?_,q3,q4,hk⟩) ops.size (Array.replicate ops.size false) (List.range ops.size) ⟨gW st.env,st.m⟩ {κ with w:={κ.w with drawn:=κ.w.drawn + 1}} a (by simp) (by simp) List.pairwise_lt_range (fun i=> ?_) (fun j o ho hl=> ?_) hs' ?_ hn hd (by rw [hat];exact hch)
 ·intro t v ht
  obtain ⟨x,hx,hr⟩:=q2 t (unk v) (by show iD (st'.env t)=_;rw [ht];rfl)
  refine ⟨x,hx,?_⟩
  have one:∀{c:AV} {y:Value},Rel κ' (uJ c) y→Rel κ' c y:=by
   intro c y hc
   cases c with
   | kb b=> have:=hc.val;subst this;exact .kb b
   | _=> exact hc
  cases v with
  | agg cs=>
   cases hr with
   | agg hl hh=>
    refine .agg (by simpa using hl) fun j c y hc hy=> one (hh j (uJ c) y ?_ hy)
    rw [List.getElem?_map,hc]
    rfl
  | kb b=> exact one hr
  | _=> exact hr
 ·rw [List.mem_range]
  constructor
  ·intro hi
   refine ⟨hi,?_⟩
   simp [Array.getD_eq_getD_getElem?,hi]
  ·exact fun h=> h.1
 ·exfalso
  have hi:j < ops.size:=(Array.getElem?_eq_some_iff.1 ho).1
  simp [Array.getD_eq_getD_getElem?,hi] at hl
 ·intro t v ht
  have ht:iD (st.env t)=some v:=ht
  cases hq:st.env t with
  | none=> rw [hq] at ht;cases ht
  | some q=>
   rw [hq] at ht
   injection ht with ht
   subst ht
   obtain ⟨x,hx,hr⟩:=(he.mono hle) t q hq
   exact ⟨x,hx,hr.unk⟩
end
end
section
open Go.RowKit
section
variable {P : Program} {T : Nat → TI} {base nt : Nat} {F : FuncId → List AV → AV → Prop} {w0 : Start} {A : Nat → Prop} {ops : Array Oper}
theorem aa9 {x:Oper} {E:Nat→Option AV} {v:AV} {m m1:Mem} (hx:isApp x.op=true) (h:(iL T base E x).Runs F m v m1):False:=by
 unfold iL at h
 split at h
 all_goals rename_i ho
 all_goals try (rw [ho] at hx;cases hx;done)
 cases h
theorem CP:∀(cs:List AV),cs.all zx=true→∃ds,∀k:List D→Step,lI cs k=k ds
 | [],_=> ⟨[],fun _=> rfl⟩
 | c::cs,h=> by
  rw [List.all_cons,Bool.and_eq_true] at h
  obtain ⟨ds,hd⟩:=CP cs h.2
  cases c with
  | d x=> exact ⟨x::ds,fun k=> by simp only [lI,dataOf,hd]⟩
  | _=> exact absurd h.1 (by simp [zx])
theorem Pz (s:Nat) (cz:List Nat):∀(cs:List AV) (j:Nat) (k:List AV→Step),cs.all zx=true→settle s cz j cs k=k cs
 | [],_,_,_=> rfl
 | c::cs,j,k,h=> by
  rw [List.all_cons,Bool.and_eq_true] at h
  cases c with
  | d x=>
   show settle s cz (j + 1) cs (fun r=> k (.d x::r))=_
   rw [Pz s cz cs (j + 1) _ h.2]
  | _=> exact absurd h.1 (by simp [zx])
def ajE (R:List Nat) (s:Nat) (i i':Inst):Prop:=(∃sz es es',i= .rows sz es false∧i'= .rows sz es' false)∨((∃cs o ds,i= .box cs∧i'= .box (over cs o ds)∧ds.all zx=true)∧(R.any fun r=> Nat.beq r s)=true)
theorem PD {x:Oper} {E:Nat→Option AV} {v:AV} {m m1:Mem} (hx:Xv x.op=true) (hh:Bq ops.toList=true) (hl:uz ops.toList E x=true) (h:(iL T base E x).Runs F m v m1):
  ∃s g i i',m.at_ s g=some i∧ajE (sQ ops.toList) s i i'∧m1=m.set s g (some i')∧∀q:Mem,q.at_ s g=some i→(iL T base E x).Runs F q v (q.set s g (some i')):=by
 unfold uz at hl
 rw [hh,cond_true] at hl
 unfold Xv at hx
 split at hx
 ·rename_i t a w ho
  have hop:iL T base E x=uN (T t) (aJ E a) (aJ E w):=by
   unfold iL
   rw [ho]
  rw [ho] at hl
  simp only [Bool.and_eq_true] at hl
  rw [hop] at h ⊢
  cases ha:aJ E a with
  | none=> rw [ha] at hl;exact absurd hl.1 (by simp)
  | some a'=>
   cases hw:aJ E w with
   | none=> rw [hw] at hl;exact absurd hl.2 (by simp)
   | some w'=>
    rw [ha,hw] at hl
    rw [ha,hw] at h
    cases a' with
    | rp s g i o=>
     obtain ⟨ds,hd⟩:=CP (cellsOf w') (by simpa using hl.2)
     unfold uN at h ⊢
     simp only [hd] at h ⊢
     cases hb:((T t).known && (cellsOf w').all jX && Nat.beq (cellsOf w').length (T t).size)
     ·rw [hb] at h;cases h
     ·rw [hb] at h
      simp only [cond_true] at h ⊢
      cases h with
      | RZ hi h=>
       cases h with
       | elem hc h=>
        rename_i sz es c
        cases hb2:Nat.ble (o + ds.length) sz
        ·rw [hb2] at h;cases h
        ·rw [hb2] at h
         simp only [cond_true] at h
         cases h with
         | wr h=>
          cases h with
          | ret=>
           refine ⟨s,g,_,_,hi,Or.inl ⟨sz,es,_,rfl,rfl⟩,rfl,fun q hq=> .RZ hq (.elem hc ?_)⟩
           rw [hb2]
           exact .wr .ret
    | lp s g o=>
     have hin:aaK (sQ ops.toList) (.lp s g o)=true:=by
      have:=hl.1
      simpa [ajx] using this
     have hdat:(cellsOf w').all zx=true:=by simpa using hl.2
     unfold uN at h ⊢
     simp only [Pz _ _ _ _ _ hdat] at h ⊢
     cases hb:((T t).known && (cellsOf w').all jX && Nat.beq (cellsOf w').length (T t).size)
     ·rw [hb] at h;cases h
     ·rw [hb] at h
      simp only [cond_true] at h ⊢
      cases h with
      | Am hi h=>
       rename_i cs
       dsimp only at h
       cases hb2:Nat.ble (o + (cellsOf w').length) cs.length
       ·rw [hb2] at h;cases h
       ·rw [hb2] at h
        simp only [cond_true] at h
        cases h with
        | wr h=>
         cases h with
         | ret=>
          refine ⟨s,g,_,_,hi,Or.inr ⟨⟨cs,o,cellsOf w',rfl,rfl,hdat⟩,hin⟩,rfl,fun q hq=> .Am hq ?_⟩
          rw [hb2]
          exact .wr .ret
    | _=> exact absurd hl.1 (by simp [ajx,aaK])
 ·cases hx
theorem ae2 {x y:Oper} {E:Nat→Option AV} {v u:AV} {m m1 m2:Mem} (hx:Xv x.op=true) (hh:Bq ops.toList=true) (hl:uz ops.toList E x=true) (hy:Bv y.op=true) (hly:uz ops.toList E y=true) (hw:qX m)
  (h1:(iL T base E x).Runs F m v m1) (h2:(iL T base E y).Runs F m1 u m2):∃GU,(iL T base E y).Runs F m u GU∧(iL T base E x).Runs F GU v m2:=by
 obtain ⟨s,g,i,i',hi,hkd,rfl,hq⟩:=PD hx hh hl h1
 have at1:∀a b,(m.set s g (some i')).at_ a b=if a=s∧b=g then some i' else m.at_ a b:=fun a b=> setAt
 have pure:∀st:Step,st.Fits (fun _ _=> False) (fun _=> False)→st.Runs F (m.set s g (some i')) u m2→(∀q,st.Runs F q u q)∧m2=m.set s g (some i'):=fun st hf hr=> ⟨(mD hr hf).2,(mD hr hf).1⟩
 have mv:∀(t z:Nat) (o:Option AV),(NQ t z o).Runs F (m.set s g (some i')) u m2→∃GU,(NQ t z o).Runs F m u GU∧(iL T base E x).Runs F GU v m2:=by
  intro t z o hr
  by_cases ho:o=some .nl
  ·subst ho
   have hr:(Step.new t (.rows z [] false) fun g=> .ret (.row t g 0)).Runs F (m.set s g (some i')) u m2:=hr
   cases hr with
   | new hr=>
    cases hr with
    | ret=>
     refine ⟨m.add t (.rows z [] false),.new .ret,?_⟩
     have hg:=hw s g _ hi
     have hne:¬(s=t∧g=m.gen t + 1):=by rintro ⟨rfl,rfl⟩;omega
     have:=hq (m.add t (.rows z [] false)) (by rw [kM,if_neg hne];exact hi)
     have e:(m.add t (.rows z [] false)).set s g (some i')=(m.set s g (some i')).add t (.rows z [] false):=by
      refine wC (fun a b=> ?_) (fun a=> rfl)
      rw [setAt,kM,kM,setAt]
      show _=if a=t∧b=m.gen t + 1 then _ else _
      by_cases c:a=s∧b=g
      ·obtain ⟨rfl,rfl⟩:=c
       rw [if_pos ⟨rfl,rfl⟩,if_neg hne,if_pos ⟨rfl,rfl⟩]
      ·rw [if_neg c,if_neg c]
     rw [←e]
     exact this
  ·have e:NQ t z o=uK o:=by
    cases o with
    | none=> rfl
    | some w=> cases w <;> first | rfl | exact absurd rfl ho
   rw [e] at hr ⊢
   obtain ⟨p1,rfl⟩:=pure _ kQ hr
   exact ⟨m,p1 m,hq m hi⟩
 unfold Bv at hy
 split at hy
 ·rename_i w ho
  have hop:iL T base E y=NQ (base + y.dst.getD 0) ((T y.type).cz.getD 0 0) (cO E w):=by
   unfold iL
   rw [ho]
  rw [hop] at h2 ⊢
  exact mv _ _ _ h2
 ·rename_i w ho
  have hop:iL T base E y=NQ (base + y.dst.getD 0) ((T y.type).cz.getD 0 0) (cO E w):=by
   unfold iL
   rw [ho]
  rw [hop] at h2 ⊢
  exact mv _ _ _ h2
 ·rename_i t a ho
  have hop:iL T base E y=zu (T t) (aJ E a):=by
   unfold iL
   rw [ho]
  unfold uz at hly
  rw [hh,cond_true,ho] at hly
  rw [hop] at h2 ⊢
  simp only at hly
  cases ha:aJ E a with
  | none=> rw [ha] at hly;exact absurd hly (by simp)
  | some a'=>
   rw [ha] at hly h2
   have hly:ajy a'=true∧aaK (sQ ops.toList) a'=false:=by simpa using hly
   cases a' with
   | lp s' g' o=>
    have h2:(Step.Am s' g' fun cs=> ldA (T t) (cs.drop o)).Runs F (m.set s g (some i')) u m2:=h2
    cases h2 with
    | Am hb h2=>
     rw [at1] at hb
     split at hb
     ·rename_i hc
      injection hb with hb
      rcases hkd with ⟨_,_,_,_,e⟩ | ⟨_,e⟩
      ·rw [e] at hb
       cases hb
      ·have h5:(sQ ops.toList).any (fun r=> Nat.beq r s')=false:=hly.2
       rw [hc.1,e] at h5
       cases h5
     ·obtain ⟨p1,rfl⟩:=pure _ CG h2
      exact ⟨m,.Am hb (p1 m),hq m hi⟩
   | fp cs=>
    have h2:(ldD (T t) cs).Runs F (m.set s g (some i')) u m2:=h2
    obtain ⟨p1,rfl⟩:=pure _ wE h2
    exact ⟨m,p1 m,hq m hi⟩
   | _=> exact absurd hly.1 (by simp [ajy])
 ·cases hy
def AA (T:Nat→TI) (ops:Array Oper) (x y:Oper):Prop:=Compat T x y∨(Xv x.op=true∧Bv y.op=true∧Bq ops.toList=true)∨(isApp x.op=true∧fZ T y.op=1∧∃d e:Nat,Ko ops.toList x=some d∧y.dst=some e∧d < 65536∧e < 65536∧d≠e)
theorem SK {x:Oper} {a:Operand} (h:yD x=some a):a∈x.op.operands:=by
 unfold yD at h
 split at h
 ·rename_i a' r tys ho
  injection h with h
  subst h
  rw [ho]
  simp [Op.operands,Call.operands]
 ·cases h
theorem sV {x:Oper} {E:Nat→Option AV} {d:Option Tmp} {u:AV} (h:∀t,d=some t→t∉x.looksAt ops):jY base ops.toList (aZ E d u) x=jY base ops.toList E x:=by
 have hr:∀a∈x.op.operands,aJ (aZ E d u) a=aJ E a:=fun a ha=> by
  unfold aJ
  rw [mF fun t ht e=> h t ht (jy ha e)]
 have h1:uz ops.toList (aZ E d u) x=uz ops.toList E x:=by
  unfold uz
  cases Bq ops.toList
  ·rfl
  ·simp only [cond_true]
   split
   ·rename_i t a w ho
    rw [hr a (by rw [ho];simp [Op.operands]),hr w (by rw [ho];simp [Op.operands])]
   ·rename_i t a ho
    rw [hr a (by rw [ho];simp [Op.operands])]
   ·rfl
 have hw:∀a∈x.op.operands,cO (aZ E d u) a=cO E a:=fun a ha=> mF fun t ht e=> h t ht (jy ha e)
 have h2:Io ops.toList (aZ E d u) x=Io ops.toList E x:=by
  unfold Io
  cases yE ops.toList x
  ·rfl
  ·simp only [cond_true]
   unfold yF
   split
   ·rename_i a ho
    rw [hw a (by rw [ho];simp [Op.operands])]
   ·rename_i a ho
    rw [hw a (by rw [ho];simp [Op.operands])]
   ·rename_i t a ho
    rw [hr a (by rw [ho];simp [Op.operands])]
   ·rename_i t a w ho
    rw [hr a (by rw [ho];simp [Op.operands])]
   ·rfl
 unfold jY
 rw [h1,h2]
 congr 2
 unfold aaL
 cases hat:yD x with
 | none=> rfl
 | some a=>
  have:=hr a (SK hat)
  simp only [this]
theorem SL {x y:Oper} {s s1 s2:fJ} (ha:x.apart ops y=true) (hc:AA T ops x y) {G:Nat→Nat} (hold:fZ T y.op=1→wH G s.env y s.m) (hsx:jY base ops.toList s.env x=true) (hsy:jY base ops.toList s.env y=true) (h1:lJ T base nt F ops x s s1) (h2:lJ T base nt F ops y s1 s2):
  ∃s1',lJ T base nt F ops y s s1'∧lJ T base nt F ops x s1' s2:=by
 rcases hc with hc | hc
 ·exact IW ha hc hold h1 h2
 obtain ⟨a1,a2,a3⟩:=Oper.apart_spec ha
 obtain ⟨d1,v,g1,e1⟩:=h1
 obtain ⟨d2,u,g2,e2⟩:=h2
 rw [e1] at g2
 have g2:=(xZ.put a1).1 g2
 rw [jY,Bool.and_eq_true,Bool.and_eq_true] at hsx hsy
 have:∃GU,xZ T base F ops y s.env u s.m GU∧xZ T base F ops x s.env v GU s2.m:=by
  rcases g1.cases with ⟨v',r1,_,k1⟩ | ⟨hm,k1⟩
  ·rcases g2.cases with ⟨u',r2,_,k2⟩ | ⟨hm2,k2⟩
   ·rcases hc with ⟨hx,hy,hh⟩ | ⟨hx,hy,d,e,hr,he,hd1,he1,hne⟩
    ·have hk:fZ T y.op=1:=by
      unfold Bv at hy
      split at hy <;> first | (rename_i ho;rw [ho];rfl) | cases hy
     obtain ⟨GU,q1,q2⟩:=ae2 hx hh hsx.1.1 hy hsy.1.1 (hold hk).wf r1 r2
     exact ⟨GU,k2 _ _ q1,k1 _ _ q2⟩
    ·exact (aa9 hx r1).elim
   ·rw [hm2]
    exact ⟨s.m,k2 s.m,g1⟩
  ·rw [hm] at g2
   exact ⟨s2.m,g2,k1 s2.m⟩
 obtain ⟨GU,q1,q2⟩:=this
 refine ⟨⟨aZ s.env y.dst u,GU⟩,⟨d2,u,q1,rfl⟩,⟨d1,v,(xZ.put a3).2 q2,?_⟩⟩
 rw [e2,e1]
 funext t
 cases hx:x.dst with
 | none=> rfl
 | some d=>
  cases hy:y.dst with
  | none=> rfl
  | some e=>
   have hne:d≠e:=fun h=> a2 d hx (by rw [hy,h])
   simp only [aZ,jI,dP]
   by_cases h1:t=d
   ·subst h1;simp [hne]
   ·simp [h1]
theorem XV {x y:Oper} {s s1:fJ} (ha:x.apart ops y=true) (hc:AA T ops x y) {G:Nat→Nat} (hold:fZ T y.op=1→wH G s.env y s.m) (hsx:jY base ops.toList s.env x=true) (h1:lJ T base nt F ops x s s1):
  fZ T y.op=1→wH G s1.env y s1.m:=by
 rcases hc with hc | hc
 ·exact Px ha hc hold h1
 intro hy
 have ho:=hold hy
 obtain ⟨a1,a2,a3⟩:=Oper.apart_spec ha
 obtain ⟨d1,v,g1,e1⟩:=h1
 have hrefs:∀a g,uU s1.env y a g→uU s.env y a g:=by
  rintro a g ⟨x',hx',v',hv',hp⟩
  rw [e1,mF fun t ht e=> a1 t ht (jy hx' e)] at hv'
  exact ⟨x',hx',v',hv',hp⟩
 rcases g1.cases with ⟨v',r1,_,_⟩ | ⟨hm,_⟩
 ·rw [jY,Bool.and_eq_true,Bool.and_eq_true] at hsx
  rcases hc with ⟨hx,_,hh⟩ | ⟨hx,hy',_⟩
  ·obtain ⟨a',b',i0,i1,hi,hkd,hm,_⟩:=PD hx hh hsx.1.1 r1
   rw [hm]
   refine ⟨ho.wf.set hi _,fun a g h=> ho.refs a g (hrefs a g h),ho.gen,fun a g cs hg hb=> ?_⟩
   rw [setAt] at hb
   split at hb
   ·rename_i hab
    injection hb with hb
    rcases hkd with ⟨_,_,_,_,e⟩ | ⟨⟨cs0,o0,ds,e0,e1,hds⟩,_⟩
    ·rw [e] at hb
     cases hb
    ·rw [e1] at hb
     injection hb with hb
     rw [e0,←hab.1,←hab.2] at hi
     have hold:=ho.box a g cs0 hg hi
     intro p hp
     rw [←hb] at hp
     obtain ⟨c,hc,hpc⟩:=List.mem_flatMap.1 hp
     unfold over at hc
     rcases List.mem_append.1 hc with hc | hc
     ·rcases List.mem_append.1 hc with hc | hc
      ·exact hold p (List.mem_flatMap.2 ⟨c,List.mem_of_mem_take hc,hpc⟩)
      ·have:=List.all_eq_true.1 hds c hc
       cases c with
       | d x=> cases hpc
       | _=> exact absurd this (by simp [zx])
     ·exact hold p (List.mem_flatMap.2 ⟨c,List.mem_of_mem_drop hc,hpc⟩)
   ·exact ho.box a g cs hg hb
  ·exact (aa9 hx r1).elim
 ·rw [hm]
  exact ⟨ho.wf,fun a g h=> ho.refs a g (hrefs a g h),ho.gen,ho.box⟩
def rC (T:Nat→TI) (base nt:Nat) (F:FuncId→List AV→AV→Prop) (ops:Array Oper):List Oper→fJ→fJ→Prop
 | [],st,st'=> st'=st
 | o::r,st,st'=> jY base ops.toList st.env o=true∧∃st1,lJ T base nt F ops o st st1∧rC T base nt F ops r st1 st'
theorem wI {G:Nat→Nat} {y:Oper} {post:List Oper} {s':fJ}:∀(pre:List Oper) (s:fJ),(∀x∈pre,x.apart ops y=true∧AA T ops x y)→(fZ T y.op=1→wH G s.env y s.m)→rC T base nt F ops (pre ++ y::post) s s'→
  jY base ops.toList s.env y=true∧∃s1,lJ T base nt F ops y s s1∧rC T base nt F ops (pre ++ post) s1 s'
 | [],s,_,_,h=> h
 | x::pre,s,hp,ho,h=> by
  obtain ⟨hsx,sa,h1,h2⟩:=h
  obtain ⟨hx1,hx2⟩:=hp x (by simp)
  obtain ⟨hsy,sb,h3,h4⟩:=wI pre sa (fun z hz=> hp z (by simp [hz])) (XV hx1 hx2 ho hsx h1) h2
  obtain ⟨a1,a2,a3⟩:=Oper.apart_spec hx1
  have abb:jY base ops.toList s.env y=true:=by
   obtain ⟨_,v,_,e1⟩:=h1
   rw [e1,sV a1] at hsy
   exact hsy
  obtain ⟨s1,h5,h6⟩:=SL hx1 hx2 ho hsx abb h1 h3
  refine ⟨abb,s1,h5,?_,sb,h6,h4⟩
  ·obtain ⟨_,v,_,e1⟩:=h5
   rw [e1,sV a3]
   exact hsx
theorem XW {E:Nat→Option AV} {x:Oper}:jY base ops.toList (gW E) x=jY base ops.toList E x:=by
 have hn:∀a,(cO (gW E) a).any Bz=(cO E a).any Bz:=by
  have e:∀(v:Option AV),(iD v).any Bz=v.any Bz:=by
   intro v
   cases v with
   | none=> rfl
   | some v=> cases v <;> rfl
  intro a
  rw [←e,←e (cO E a),wG]
 unfold jY uz aaL Io yF
 rw [aa3]
 simp only [hn]
theorem ae3 {y:Oper} {E:Nat→Option AV} (h:yF E y=true):(iL T base E y).Fits (fun _ _=> False) (fun _=> False):=by
 have mv:∀(s sz:Nat) (x:Option AV),x.any Bz=true→(NQ s sz x).Fits (fun _ _=> False) (fun _=> False):=by
  intro s sz x hx
  cases x with
  | none=> trivial
  | some v=> cases v <;> first | trivial | cases hx
 unfold yF at h
 split at h
 ·rename_i x ho
  have hop:iL T base E y=NQ (base + y.dst.getD 0) ((T y.type).cz.getD 0 0) (cO E x):=by
   unfold iL
   rw [ho]
  rw [hop]
  exact mv _ _ _ h
 ·rename_i x ho
  have hop:iL T base E y=NQ (base + y.dst.getD 0) ((T y.type).cz.getD 0 0) (cO E x):=by
   unfold iL
   rw [ho]
  rw [hop]
  exact mv _ _ _ h
 ·rename_i t a ho
  have hop:iL T base E y=zu (T t) (aJ E a):=by
   unfold iL
   rw [ho]
  rw [hop]
  cases hq:aJ E a with
  | none=> rw [hq] at h;cases h
  | some v=>
   rw [hq] at h
   cases v <;> first | exact wE | cases h
 ·rename_i t a ix ho
  have hop:iL T base E y=uO (T t).k (aJ E a) (aJ E ix):=by
   unfold iL
   rw [ho]
  rw [hop]
  cases hq:aJ E a with
  | none=> rw [hq] at h;cases h
  | some v=>
   rw [hq] at h
   cases v with
   | d z=>
    cases z with
    | fz es=>
     unfold uO
     split
     all_goals first
      | (rename_i he _;cases he;done)
      | (rename_i he;cases he;done)
      | exact fun c=> trivial
      | trivial
    | _=> cases h
   | _=> cases h
 ·cases h
theorem wJ {y:Oper} (hy:yE ops.toList y=true) {post:List Oper} {s':fJ}:∀(pre:List Oper) (s:fJ),(∀x∈pre,x.apart ops y=true)→rC T base nt F ops (pre ++ y::post) s s'→
  jY base ops.toList s.env y=true∧∃s1,lJ T base nt F ops y s s1∧rC T base nt F ops (pre ++ post) s1 s'
 | [],s,_,h=> h
 | x::pre,s,hp,h=> by
  obtain ⟨hsx,sa,h1,h2⟩:=h
  have hx1:=hp x (by simp)
  obtain ⟨hsy,sb,h3,h4⟩:=wJ hy pre sa (fun z hz=> hp z (by simp [hz])) h2
  obtain ⟨a1,a2,a3⟩:=Oper.apart_spec hx1
  have abb:jY base ops.toList s.env y=true:=by
   obtain ⟨_,v,_,e1⟩:=h1
   rw [e1,sV a1] at hsy
   exact hsy
  have hpu:yF s.env y=true:=by
   have h5:=abb
   rw [jY,Bool.and_eq_true] at h5
   have h6:=h5.2
   unfold Io at h6
   rw [hy] at h6
   exact h6
  obtain ⟨d1,v,g1,e1⟩:=h1
  obtain ⟨d2,u,g2,e2⟩:=h3
  rw [e1] at g2
  have g2:=(xZ.put a1).1 g2
  have both:sb.m=sa.m∧∀q,xZ T base F ops y s.env u q q:=by
   rcases g2.cases with ⟨u',r2,_,k2⟩ | ⟨hm,k2⟩
   ·obtain ⟨e,p2⟩:=mD r2 (ae3 hpu)
    exact ⟨e,fun q=> k2 _ _ (p2 q)⟩
   ·exact ⟨hm,k2⟩
  refine ⟨abb,⟨aZ s.env y.dst u,s.m⟩,⟨d2,u,both.2 _,rfl⟩,by rw [sV a3];exact hsx,sb,⟨d1,v,(xZ.put a3).2 (by rw [both.1];exact g1),?_⟩,h4⟩
  rw [e2,e1]
  funext t
  cases hx:x.dst with
  | none=> rfl
  | some d=>
   cases hy:y.dst with
   | none=> rfl
   | some e=>
    have hne:d≠e:=fun h=> a2 d hx (by rw [hy,h])
    simp only [aZ,jI,dP]
    by_cases h1:t=d
    ·subst h1;simp [hne]
    ·simp [h1]
theorem CQ {K:fJ→Prop}:∀(c:List Nat) (st:fJ),G8 T base nt F ops c st K→∃st',rC T base nt F ops (yc ops c) ⟨gW st.env,st.m⟩ ⟨gW st'.env,st'.m⟩∧K st'
 | [],st,h=> ⟨st,rfl,h⟩
 | i::c,st,h=> by
  unfold G8 at h
  cases ho:ops[i]? with
  | none=> rw [ho] at h;exact h.elim
  | some o=>
   rw [ho] at h
   obtain ⟨hs,h⟩:=h
   obtain ⟨st1,⟨s1,h1,h2⟩,h3⟩:=qg [o] st h
   have h2:(⟨gW st1.env,st1.m⟩:fJ)=s1:=h2
   obtain ⟨st',h4,h5⟩:=CQ c st1 h3
   refine ⟨st',?_,h5⟩
   have:yc ops (i::c)=o::yc ops c:=by
    unfold yc
    rw [List.filterMap_cons,ho]
   rw [this]
   exact ⟨by rw [XW];exact hs,s1,h1,by rw [←h2];exact h4⟩
theorem CS {b:Array Nat}:∀{c:List Nat},Kq T ops b c=true→(∀i∈c,i < ops.size)∧c.Pairwise fun i j=> i≠j∧Vu T ops b i j=true
 | [],_=> ⟨by simp,.nil⟩
 | i::r,h=> by
  unfold Kq at h
  rw [Bool.and_eq_true,Bool.and_eq_true] at h
  obtain ⟨⟨h1,h2⟩,h3⟩:=h
  obtain ⟨k1,k2⟩:=CS h3
  refine ⟨fun j hj=> ?_,.cons (fun j hj=> ?_) k2⟩
  ·rcases List.mem_cons.1 hj with rfl | hj
   ·exact Nat.lt_of_succ_le (Nat.le_of_ble_eq_true h1)
   ·exact k1 j hj
  ·have:=List.all_eq_true.1 h2 j hj
   rw [Bool.and_eq_true] at this
   refine ⟨fun e=> ?_,this.2⟩
   have h4:=this.1
   rw [e] at h4
   simp at h4
theorem XY (hT:zy P T) (heq:∀t,(T t).eqs=true→(T t).known=true) (hF:∀f args r,F f args r→vM w0.dr P f args r) (hback:∀(j:Nat) (o:Oper),ops[j]? =some o→∀e∈o.after,Region.binds .any e=true→e.on < j) {Q:Exit→Act→World→Prop} {sf:fJ} (hQ:∀a κ,gG w0 A sf.m κ→bM κ sf.env a.tmps→a.tmps.size=nt→a.defers= []→Q .normal a κ.w):
  ∀(fuel:Nat) (listed:Array Bool) (rem:List Nat) (st:fJ) (κ:Cx) (a:Act),listed.size=ops.size→rem.length≤fuel→rem.Pairwise (fun i j=> i≠j∧Vu T ops (Region.before ops) i j=true)→(∀i,i∈rem↔(i < ops.size∧listed.getD i true=false))→
   (∀(j:Nat) (o:Oper),ops[j]? =some o→listed.getD j true=true→∀e∈o.after,Region.binds .any e=true→listed.getD e.on false=true)→
   gG w0 A st.m κ→bM κ st.env a.tmps→a.tmps.size=nt→a.defers= []→rC T base nt F ops (yc ops rem) st sf→wpAny P .any ops Q fuel listed a κ.w:=by
 have empty:∀(listed:Array Bool) (rem:List Nat),listed.size=ops.size→(∀i,i∈rem↔(i < ops.size∧listed.getD i true=false))→Region.ready .any ops listed= []→rem= []:=by
  intro listed rem hsz oU hr
  have no:∀(n i:Nat),i≤n→i∉rem:=by
   intro n
   induction n with
   | zero=>
    intro i hi hm
    obtain ⟨hil,hl⟩:=(oU i).1 hm
    have:i∈Region.ready .any ops listed:=mem_ready.2 ⟨hl,ops[i],Array.getElem?_eq_getElem hil,fun e he hb=> by
     have:=hback i ops[i] (Array.getElem?_eq_getElem hil) e he hb
     omega⟩
    rw [hr] at this
    cases this
   | succ n ih=>
    intro i hi hm
    obtain ⟨hil,hl⟩:=(oU i).1 hm
    have:i∈Region.ready .any ops listed:=mem_ready.2 ⟨hl,ops[i],Array.getElem?_eq_getElem hil,fun e he hb=> by
     have hlt:=hback i ops[i] (Array.getElem?_eq_getElem hil) e he hb
     cases hq:listed.getD e.on false
     ·exfalso
      refine ih e.on (by omega) ((oU e.on).2 ⟨by omega,?_⟩)
      rw [Array.getD_eq_getD_getElem?] at hq ⊢
      cases hq2:listed[e.on]? with
      | none=> rw [Array.getElem?_eq_none_iff] at hq2;omega
      | some q=> rw [hq2] at hq;exact hq
     ·rfl⟩
    rw [hr] at this
    cases this
  cases rem with
  | nil=> rfl
  | cons i rest=> exact absurd (by simp) (no i i (Nat.le_refl _))
 intro fuel
 induction fuel with
 | zero=>
  intro listed rem st κ a hsz hlen hso oU hcl hs he hn hd hch
  have aa8:rem= []:=List.eq_nil_of_length_eq_zero (by omega)
  subst aa8
  have:sf=st:=hch
  subst this
  refine ⟨?_,hQ a κ hs he hn hd⟩
  rw [List.eq_nil_iff_forall_not_mem]
  intro i hi
  obtain ⟨h1,o,h2,_⟩:=mem_ready.1 hi
  have:=(oU i).2 ⟨(Array.getElem?_eq_some_iff.1 h2).1,h1⟩
  cases this
 | succ fuel ih=>
  intro listed rem st κ a hsz hlen hso oU hcl hs he hn hd hch
  refine ⟨fun hr=> ?_,fun i hi=> ?_⟩
  ·have:=empty listed rem hsz oU hr
   subst this
   have:sf=st:=hch
   subst this
   exact hQ a κ hs he hn hd
  ·obtain ⟨hl,o,ho,hpre⟩:=mem_ready.1 hi
   have hlt:i < ops.size:=(Array.getElem?_eq_some_iff.1 ho).1
   have hmem:i∈rem:=(oU i).2 ⟨hlt,hl⟩
   obtain ⟨pre,post,rfl⟩:=List.append_of_mem hmem
   have yQ:=List.pairwise_append.1 hso
   have hat:yc ops (pre ++ i::post)=yc ops pre ++ o::yc ops post:=by
    unfold yc
    rw [List.filterMap_append,List.filterMap_cons,ho]
   rw [hat] at hch
   have hcomp:∀x∈yc ops pre,x.apart ops o=true∧(AA T ops x o∨yE ops.toList o=true):=by
    intro x hx
    obtain ⟨k,hk,hxk⟩:=List.mem_filterMap.1 hx
    have hkl:listed.getD k true=false:=((oU k).1 (by simp [hk])).2
    have hp:=(yQ.2.2 k hk i (by simp)).2
    unfold Vu at hp
    rw [Bool.or_eq_true] at hp
    rcases hp with hp | hp
    ·unfold Bo at hp
     rw [Bool.or_eq_true] at hp
     rcases hp with hp | hp
     ·exfalso
      have:=zD hback hcl i i (Nat.le_refl _) (fun o' ho'=> by rw [ho] at ho';injection ho' with ho';subst ho';exact hpre) k hp
      rw [Array.getD_eq_getD_getElem?] at this hkl
      cases hq:listed[k]? with
      | none=> rw [hq] at hkl;cases hkl
      | some q=> rw [hq] at this hkl;rw [Option.getD_some] at this hkl;rw [this] at hkl;cases hkl
     ·rw [hxk,ho] at hp
      simp only [Bool.and_eq_true,Bool.or_eq_true] at hp
      obtain ⟨ha,hp⟩:=hp
      refine ⟨ha,Or.inl (Or.inl ?_)⟩
      rcases hp with (hp | hp) | ⟨⟨⟨⟨⟨p1,p2⟩,p3⟩,p4⟩,p5⟩,p6⟩
      ·exact Or.inl (Nat.eq_of_beq_eq_true hp)
      ·exact Or.inr (Or.inl (Nat.eq_of_beq_eq_true hp))
      ·obtain ⟨d,hd⟩:=Option.isSome_iff_exists.1 p3
       obtain ⟨e,he⟩:=Option.isSome_iff_exists.1 p4
       unfold vW at p5 p6
       rw [hd] at p5
       rw [he] at p6
       exact Or.inr (Or.inr ⟨Nat.eq_of_beq_eq_true p1,Nat.eq_of_beq_eq_true p2,d,e,hd,he,Nat.lt_of_succ_le (Nat.le_of_ble_eq_true p5),Nat.lt_of_succ_le (Nat.le_of_ble_eq_true p6),fun h=> (Oper.apart_spec ha).2.1 d hd (by rw [he,h])⟩)
    ·rw [hxk,ho] at hp
     simp only at hp
     rw [Bool.or_eq_true,Bool.or_eq_true] at hp
     rcases hp with (hp | hp) | hp
     ·simp only [Bool.and_eq_true] at hp
      obtain ⟨⟨⟨ha,hx1⟩,hy1⟩,hp⟩:=hp
      refine ⟨ha,Or.inl (Or.inr (Or.inr ⟨hx1,Nat.eq_of_beq_eq_true hy1,?_⟩))⟩
      split at hp
      ·rename_i d e hd he
       simp only [Bool.and_eq_true] at hp
       obtain ⟨⟨p1,p2⟩,p3⟩:=hp
       exact ⟨d,e,hd,he,Nat.lt_of_succ_le (Nat.le_of_ble_eq_true p1),Nat.lt_of_succ_le (Nat.le_of_ble_eq_true p2),fun h=> by rw [h] at p3;simp at p3⟩
      ·cases hp
     ·simp only [Bool.and_eq_true] at hp
      obtain ⟨⟨⟨ha,hx1⟩,hy1⟩,hp⟩:=hp
      exact ⟨ha,Or.inl (Or.inr (Or.inl ⟨hx1,hy1,hp⟩))⟩
     ·rw [Bool.and_eq_true] at hp
      exact ⟨hp.1,Or.inr hp.2⟩
   obtain ⟨s1,h1,h2⟩:∃s1,lJ T base nt F ops o st s1∧rC T base nt F ops (yc ops pre ++ yc ops post) s1 sf:=by
    cases hqp:yE ops.toList o
    ·refine (wI (G:=st.m.gen) (yc ops pre) st (fun x hx=> ⟨(hcomp x hx).1,(hcomp x hx).2.resolve_right (by rw [hqp];simp)⟩) (fun _=> ⟨hs.He,fun s g hr=> ?_,fun _=> Nat.le_refl _,fun s g cs _ hi=> hs.boxes hi⟩) hch).2
     obtain ⟨x,hx,v,hv,hp⟩:=hr
     have:=Cc (jE he hv) (s,g) hp
     rw [hs.gn] at this
     exact this
    ·exact (wJ hqp (yc ops pre) st (fun x hx=> (hcomp x hx).1) hch).2
   unfold wpOp
   rw [ho]
   have hstep:=IX (N:=wpAny P .any ops Q fuel (listed.setIfInBounds i true)) (Q:=Q) hT heq hF hs he hn hd h1 (fun κ' a' q1 q2 q3 q4=> by
    have hget:∀j,(listed.setIfInBounds i true).getD j true=if j=i then true else listed.getD j true:=by
     intro j
     simp only [Array.getD_eq_getD_getElem?,Array.getElem?_setIfInBounds]
     by_cases hj:i=j
     ·subst hj
      rw [if_pos rfl,if_pos rfl]
      split <;> rfl
     ·rw [if_neg hj,if_neg (Ne.symm hj)]
    refine ih (listed.setIfInBounds i true) (pre ++ post) s1 κ' a' (by simpa using hsz) (by simp at hlen ⊢;omega) ?_ ?_ ?_ q1 q2 q3 q4 ?_
    ·rw [List.pairwise_append]
     exact ⟨yQ.1,(List.pairwise_cons.1 yQ.2.1).2,fun x hx y hy=> yQ.2.2 x hx y (by simp [hy])⟩
    ·intro j
     rw [hget]
     have h3:=oU j
     have hni:i∉pre ++ post:=by
      intro hm
      rcases List.mem_append.1 hm with hm | hm
      ·exact (yQ.2.2 i hm i (by simp)).1 rfl
      ·exact ((List.pairwise_cons.1 yQ.2.1).1 i hm).1 rfl
     by_cases hj:j=i
     ·subst hj
      rw [if_pos rfl]
      exact ⟨fun h=> absurd h hni,fun h=> by cases h.2⟩
     ·rw [if_neg hj,←h3]
      simp [hj]
    ·intro j o' ho' hl' e he' hb'
     have hone:∀x,listed.getD x false=true→(listed.setIfInBounds i true).getD x false=true:=by
      intro x hx
      simp only [Array.getD_eq_getD_getElem?,Array.getElem?_setIfInBounds] at hx ⊢
      by_cases hxi:i=x
      ·subst hxi
       rw [if_pos rfl]
       split
       ·rfl
       ·rename_i hge
        rw [Array.getElem?_eq_none (by omega)] at hx
        exact hx
      ·rw [if_neg hxi]
       exact hx
     rw [hget] at hl'
     by_cases hj:j=i
     ·subst hj
      rw [ho] at ho'
      injection ho' with ho'
      subst ho'
      exact hone _ (hpre e he' hb')
     ·rw [if_neg hj] at hl'
      exact hone _ (hcl j o' ho' hl' e he' hb')
    ·have:yc ops (pre ++ post)=yc ops pre ++ yc ops post:=List.filterMap_append ..
     rw [this]
     exact h2)
   dsimp only
   split
   ·rename_i hw
    rw [if_pos hw] at hstep
    exact Or.inl hstep
   ·rename_i hw
    rw [if_neg hw] at hstep
    exact hstep
theorem PE (hm:P.follows .mixedOrders=true) (hT:zy P T) (heq:∀t,(T t).eqs=true→(T t).known=true) (hF:∀f args r,F f args r→vM w0.dr P f args r) {id:Nat} {c:List Nat} (hok:Az T ops c=true) {K:fJ→Prop} {Q:Exit→Act→World→Prop} (hQ:∀a w,Holds w0 A nt K a w→Q .normal a w)
  (st:fJ) (κ:Cx) (a:Act) (hs:gG w0 A st.m κ) (he:bM κ st.env a.tmps) (hn:a.tmps.size=nt) (hd:a.defers= []) (h:G8 T base nt F ops c st K):(Code.region id ops true).wp P Q a κ.w:=by
 refine wp_region_any hm ?_
 obtain ⟨st',hch,hk⟩:=CQ c st h
 have hbel:gQ w0.dr κ.w.heap.size κ.w {κ.w with drawn:=κ.w.drawn + 1}:=⟨⟨rfl,rfl,rfl,Nat.le_refl _,fun _ _=> rfl⟩,fun _=> Nat.le_succ _⟩
 obtain ⟨hs',hle⟩:=hs.grow hbel (S':=κ.S) (fun _ h=> h) (fun _ h=> Or.inl h)
 unfold Az at hok
 rw [Bool.and_eq_true] at hok
 rw [Bool.and_eq_true] at hok
 obtain ⟨hok1,aqz,hok2⟩:=hok
 obtain ⟨hc1,hc2⟩:=CS hok2
 have hback:∀(j:Nat) (o:Oper),ops[j]? =some o→∀e∈o.after,Region.binds .any e=true→e.on < j:=by
  intro j o ho e he hbn
  have hj:j < ops.size:=(Array.getElem?_eq_some_iff.1 ho).1
  have:=List.all_eq_true.1 hok1 j (List.mem_range.2 hj)
  rw [Bool.and_eq_true] at this
  have h1:=this.1
  rw [ho] at h1
  have h1:o.after.all (fun e=> !Region.binds .any e || Nat.blt e.on j)=true:=h1
  have h2:=Array.all_eq_true_iff_forall_mem.1 h1 e he
  rw [hbn] at h2
  have h3:Nat.blt e.on j=true:=h2
  exact Nat.lt_of_succ_le (Nat.le_of_ble_eq_true h3)
 have am8:∀j,j < ops.size→j∈c:=by
  intro j hj
  have:=List.all_eq_true.1 hok1 j (List.mem_range.2 hj)
  rw [Bool.and_eq_true] at this
  simpa using this.2
 have hlen:c.length≤ops.size:=Nat.le_of_ble_eq_true aqz
 refine XY (sf:=⟨gW st'.env,st'.m⟩) hT heq hF hback (fun a' κ' q1 q2 q3 q4=> hQ a' κ'.w ⟨st',κ',rfl,q1,?_,q3,q4,hk⟩) ops.size (Array.replicate ops.size false) c ⟨gW st.env,st.m⟩ {κ with w:={κ.w with drawn:=κ.w.drawn + 1}} a (by simp) hlen hc2 (fun i=> ?_) (fun j o ho hl=> ?_) hs' ?_ hn hd hch
 ·intro t v ht
  obtain ⟨x,hx,hr⟩:=q2 t (unk v) (by show iD (st'.env t)=_;rw [ht];rfl)
  refine ⟨x,hx,?_⟩
  have one:∀{c:AV} {y:Value},Rel κ' (uJ c) y→Rel κ' c y:=by
   intro c y hc
   cases c with
   | kb b=> have:=hc.val;subst this;exact .kb b
   | _=> exact hc
  cases v with
  | agg cs=>
   cases hr with
   | agg hl hh=>
    refine .agg (by simpa using hl) fun j c y hc hy=> one (hh j (uJ c) y ?_ hy)
    rw [List.getElem?_map,hc]
    rfl
  | kb b=> exact one hr
  | _=> exact hr
 ·constructor
  ·intro hi
   have hi:=hc1 i hi
   refine ⟨hi,?_⟩
   simp [Array.getD_eq_getD_getElem?,hi]
  ·exact fun h=> am8 i h.1
 ·exfalso
  have hi:j < ops.size:=(Array.getElem?_eq_some_iff.1 ho).1
  simp [Array.getD_eq_getD_getElem?,hi] at hl
 ·intro t v ht
  have ht:iD (st.env t)=some v:=ht
  cases hq:st.env t with
  | none=> rw [hq] at ht;cases ht
  | some q=>
   rw [hq] at ht
   injection ht with ht
   subst ht
   obtain ⟨x,hx,hr⟩:=(he.mono hle) t q hq
   exact ⟨x,hx,hr.unk⟩
end
end
section
open Go.RowKit
section
variable {P : Program} {T : Nat → TI} {base nt : Nat} {F : FuncId → List AV → AV → Prop} {w0 : Start} {A : Nat → Prop} {js : List Nat}
theorem abd (hm:P.follows .mixedOrders=true) (hT:zy P T) (heq:∀t,(T t).eqs=true→(T t).known=true) (hF:∀f args r,F f args r→vM w0.dr P f args r):
  ∀(c:Code) (Q:Ex→fJ→Prop) (a:Act) (w:World),Holds w0 A nt (fun st=> AW T base nt F js c st Q) a w→c.wp P (Lift w0 A nt Q) a w:=by
 intro c
 induction c with
 | skip=>
  intro Q a w h
  exact wp_skip h
 | region id ops draw=>
  rintro Q a w ⟨st,κ,rfl,hs,he,hn,hd,h⟩
  cases draw with
  | false=> exact wp_region_list (BQ hT heq hF (fun a w h=> h) ops.toList st κ a hs he hn hd h)
  | true=>
   rcases h with h | ⟨c,h1,h2⟩
   ·exact SI hm hT heq hF h.1 (fun a w h=> h) st κ a hs he hn hd h.2
   ·exact PE hm hT heq hF h1 (fun a w h=> h) st κ a hs he hn hd h2
 | seq x y Xz ihy=>
  intro Q a w h
  obtain ⟨st,κ,rfl,hs,he,hn,hd,h⟩:=h
  have h:bif uS js y then aaN (AW T base nt F js x st) (AW T base nt F js y) Q else AW T base nt F js x st fun e st'=> match e with
   | .normal=> AW T base nt F js y st' Q
   | e=> Q e st':=h
  cases hj:uS js y
  ·rw [hj] at h
   refine wp_seq (wp_mono (Xz _ a κ.w ⟨st,κ,rfl,hs,he,hn,hd,h⟩) ?_)
   intro e a' w' hq
   cases e with
   | normal=> exact ihy Q a' w' hq
   | exit i=> exact hq
   | ret=> exact hq
   | goto l=> exact hq.elim
   | panic ch=> exact hq.elim
   | outgrown=> exact hq.elim
  ·rw [hj] at h
   obtain ⟨X,E,M,J,h1,h2⟩:=h.h
   refine wp_seq (wp_mono (Xz _ a κ.w ⟨st,κ,rfl,hs,he,hn,hd,h1⟩) ?_)
   intro e a' w' hq
   cases e with
   | normal=>
    obtain ⟨st',κ',rfl,hs',he',hn',hd',z,hJ,hen⟩:=hq
    obtain ⟨κ2,q1,q2,q3⟩:=BX hs' he' hen
    exact ihy Q a' _ ⟨uh (E z) (M z),κ2,q1,q2,q3,hn',hd',h2 z hJ⟩
   | exit i=> exact hq
   | ret=> exact hq
   | goto l=> exact hq.elim
   | panic ch=> exact hq.elim
   | outgrown=> exact hq.elim
 | cond c x y Xz ihy=>
  rintro Q a w ⟨st,κ,rfl,hs,he,hn,hd,h⟩
  simp only [AW] at h
  split at h
  ·rename_i hb
   exact wp_cond (Rel.aaT hb (Or.inr hb) (jE he hb)) (Xz Q a κ.w ⟨st,κ,rfl,hs,he,hn,hd,h⟩)
  ·rename_i hb
   exact wp_cond (Rel.aaT hb (Or.inr hb) (jE he hb)) (ihy Q a κ.w ⟨st,κ,rfl,hs,he,hn,hd,h⟩)
  ·rename_i b hb
   have hv:=(jE he hb).val
   refine wp_cond hv ?_
   cases b
   ·exact ihy Q a κ.w ⟨st,κ,rfl,hs,he,hn,hd,h.2 rfl⟩
   ·exact Xz Q a κ.w ⟨st,κ,rfl,hs,he,hn,hd,h.1 rfl⟩
  ·exact h.elim
 | block id c ih=>
  intro Q a w h
  refine wp_block (wp_mono (ih _ a w h) ?_)
  intro e a' w' hq
  cases e with
  | normal=> exact hq
  | exit i=>
   show if i=id then _ else _
   have hq:Holds w0 A nt (fun st'=> bif Nat.beq i id then Q .normal st' else Q (.exit i) st') a' w':=hq
   rw [dP] at hq
   by_cases hi:i=id
   ·simp only [hi,decide_true,cond_true] at hq
    rw [if_pos hi]
    exact hq
   ·simp only [hi,decide_false,cond_false] at hq
    rw [if_neg hi]
    exact hq
  | ret=> exact hq
  | goto l=> exact hq.elim
  | panic ch=> exact hq.elim
  | outgrown=> exact hq.elim
 | loop c ih=>
  rintro Q a w ⟨st,κ,rfl,hs,he,hn,hd,h⟩
  obtain ⟨X,E,M,J,⟨n0,x0,hJ,hen⟩,ajF⟩:=h.h
  have start:∀(x:X) (st:fJ) (κ:Cx) (a:Act),gG w0 A st.m κ→bM κ st.env a.tmps→a.tmps.size=nt→a.defers= []→Enters st (E x) (M x)→Holds w0 A nt (fun st'=> st'=uh (E x) (M x)) a κ.w:=by
   intro x st κ a hs he hn hd hen
   obtain ⟨κ',h1,h2,h3⟩:=BX hs he hen
   exact ⟨uh (E x) (M x),κ',h1,h2,h3,hn,hd,rfl⟩
  refine wp_loop_ghost (fun n a w=> ∃x,J n x∧Holds w0 A nt (fun st'=> st'=uh (E x) (M x)) a w) n0 ⟨x0,hJ,start x0 st κ a hs he hn hd hen⟩ ?_
  rintro n a w ⟨x,hJx,hst⟩
  refine wp_mono (ih _ a w (hst.mono fun st' e=> by subst e;exact ajF n x hJx)) ?_
  intro e a' w' hq
  cases e with
  | normal=>
   obtain ⟨st',κ',rfl,hs',he',hn',hd',x',⟨m,hlt,hJ'⟩,hen'⟩:=hq
   exact ⟨m,hlt,x',hJ',start x' st' κ' a' hs' he' hn' hd' hen'⟩
  | exit i=> exact hq
  | ret=> exact hq
  | goto l=> exact hq.elim
  | panic ch=> exact hq.elim
  | outgrown=> exact hq.elim
 | exit id=> intro Q a w h;exact wp_exit h
 | ret=> intro Q a w h;exact wp_ret h
 | rangeFunc=> rintro Q a w ⟨_,_,_,_,_,_,_,h⟩;exact h.elim
 | scope=> rintro Q a w ⟨_,_,_,_,_,_,_,h⟩;exact h.elim
 | label=> rintro Q a w ⟨_,_,_,_,_,_,_,h⟩;exact h.elim
 | goto=> rintro Q a w ⟨_,_,_,_,_,_,_,h⟩;exact h.elim
 | refuse=> rintro Q a w ⟨_,_,_,_,_,_,_,h⟩;exact h.elim
end
end
section
open Go.RowKit
structure Taken (w0:Start) (A:Nat→Prop) (m m1:Mem) (κ κ1:Cx) (used:List (Nat×Nat)) (bs:List (Option Nat)):Prop where
 sim:gG w0 A m1 κ1
 le:κ.Le κ1
 φ:κ1.φ=κ.φ
 w:κ1.w=κ.w
 same:∀s g,(s,g)∉used→m1.at_ s g=m.at_ s g
 own:∀b,some b∈bs→∃s g i,(s,g)∈used∧m1.at_ s g=some i∧i.Xy=true∧(κ1.φ s g).blk=some b∧∃sz es,i= .rows sz es false
 keep:∀s g,(∀sz es ro,m.at_ s g≠some (.rows sz es ro))→m1.at_ s g=m.at_ s g
 apart:Apart bs
theorem uV {used:List (Nat×Nat)} {s g:Nat} (h:unused used s g=true):(s,g)∉used:=by
 intro hm
 unfold unused at h
 have:=List.all_eq_true.1 h _ hm
 simp at this
theorem uX {bs:List (Option Nat)} {b:Option Nat} (h:Apart bs) (hn:∀c,b=some c→some c∉bs):Apart (bs ++ [b]):=by
 unfold Apart at h ⊢
 rw [List.filterMap_append]
 cases b with
 | none=> simpa using h
 | some c=>
  simp only [List.filterMap_cons,id,List.filterMap_nil]
  rw [List.nodup_append]
  refine ⟨h,by simp,?_⟩
  intro x hx y hy e
  simp at hy
  subst hy e
  obtain ⟨z,hz,hz'⟩:=List.mem_filterMap.1 hx
  simp at hz'
  subst hz'
  exact hn _ rfl hz
section
variable {w0 : Start} {A : Nat → Prop} {m : Mem} {κ : Cx}
theorem Taken.none_ {m1:Mem} {κ1:Cx} {used:List (Nat×Nat)} {bs:List (Option Nat)} (h:Taken w0 A m m1 κ κ1 used bs):Taken w0 A m m1 κ κ1 used (bs ++ [none]):=
 ⟨h.sim,h.le,h.φ,h.w,h.same,fun b hb=> h.own b (by simpa using hb),h.keep,uX h.apart fun c hc=> by cases hc⟩
theorem Taken.nV {m1:Mem} {κ1:Cx} {used:List (Nat×Nat)} {bs:List (Option Nat)} (h:Taken w0 A m m1 κ κ1 used bs) {s g sz:Nat} {es:List (List D)} {ro:Bool} (hi:m.at_ s g=some (.rows sz es ro)) (hu:(s,g)∉used):
  ∃m2 κ2,Taken w0 A m m2 κ κ2 ((s,g)::used) (bs ++ [none])∧κ1.Le κ2∧κ2.w=κ1.w∧m1.at_ s g=some (.rows sz es ro)∧∀b,(κ.φ s g).blk=some b→κ2.S b:=by
 have hi1:m1.at_ s g=some (.rows sz es ro):=by rw [h.same s g hu];exact hi
 obtain ⟨q1,q2⟩:=h.sim.nV hi1
 refine ⟨_,_,⟨q1,h.le.trans q2,h.φ,h.w,fun s' g' hn=> ?_,fun b hb=> ?_,fun s' g' hn=> ?_,uX h.apart fun c hc=> by cases hc⟩,q2,rfl,hi1,fun b hb=> Or.inr (by rw [h.φ];exact hb)⟩
 ·rw [setAt,if_neg (fun e=> hn (by rw [e.1,e.2];simp))]
  exact h.same s' g' fun hm=> hn (by simp [hm])
 ·obtain ⟨s',g',i,h1,h2,h3,h4⟩:=h.own b (by simpa using hb)
  refine ⟨s',g',i,by simp [h1],?_,h3,h4⟩
  rw [setAt,if_neg]
  ·exact h2
  ·rintro ⟨rfl,rfl⟩
   exact hu h1
 ·rw [setAt,if_neg]
  ·exact h.keep s' g' hn
  ·rintro ⟨rfl,rfl⟩
   exact hn _ _ _ hi
theorem CU {m1:Mem} {κ1:Cx} {used:List (Nat×Nat)} {bs:List (Option Nat)} (h:Taken w0 A m m1 κ κ1 used bs) {v r:AV} {x:Value} (hx:Rel κ v x) {K:List (Nat×Nat)→Prop} (hr:aaO m used v r K):
  ∃m2 κ2 ou b,Taken w0 A m m2 κ κ2 ou (bs ++ [b])∧κ1.Le κ2∧κ2.w=κ1.w∧Hf κ2.S κ2.w r x b∧K ou:=by
 unfold aaO at hr
 have hx1:=hx.mono h.le
 cases r with
 | ow sz es=>
  cases v with
  | nl=>
   obtain ⟨rfl,hk⟩:=hr
   cases hx with
   | nl A'=> exact ⟨m1,κ1,used,none,h.none_,.refl _,rfl,⟨by simp,Or.inl ⟨rfl,rfl,A',rfl⟩⟩,hk⟩
  | row s g n=>
   dsimp only at hr
   split at hr
   ·rename_i sz' es' hi
    cases hu:unused used s g
    ·rw [hu] at hr;exact hr.elim
    ·rw [hu] at hr
     obtain ⟨rfl,rfl,hk⟩:=hr
     have hu:=uV hu
     have hi1:m1.at_ s g=some (.rows sz' es' false):=by rw [h.same s g hu];exact hi
     obtain ⟨e1,e2,e3⟩:=h.sim.ok s g _ hi1
     have tk:∀b,(κ1.φ s g).blk=b→Taken w0 A m m1 κ κ1 ((s,g)::used) (bs ++ [b]):=by
      intro b hb
      refine ⟨h.sim,h.le,h.φ,h.w,fun s' g' hn=> h.same s' g' fun hm=> hn (by simp [hm]),fun c hc=> ?_,h.keep,uX h.apart fun c hc hm=> ?_⟩
      ·rcases List.mem_append.1 hc with hc | hc
       ·obtain ⟨s',g',i,h1,h2⟩:=h.own c hc
        exact ⟨s',g',i,by simp [h1],h2⟩
       ·simp at hc
        exact ⟨s,g,_,by simp,hi1,rfl,by rw [hb,hc],_,_,rfl⟩
      ·obtain ⟨s',g',i,h1,h2,h3,h4,_⟩:=h.own c hm
       have:=h.sim.sep s g _ s' g' i c hi1 h2 (by rw [hb,hc]) h4 rfl
       exact hu (by rw [this.1,this.2];exact h1)
     rcases e3 with ⟨h4,rfl⟩ | ⟨b,T,cur,hb,hz,hh,hl,hm,hc,hra⟩
     ·refine ⟨m1,κ1,_,none,tk none h4,.refl _,rfl,⟨e2,Or.inl ⟨rfl,rfl,?_⟩⟩,hk⟩
      cases hx1 with
      | row0 A' hg hb hz=> exact ⟨A',rfl⟩
      | row hg hb=> rw [h4] at hb;cases hb
     ·refine ⟨m1,κ1,_,some b,tk (some b) hb,.refl _,rfl,⟨e2,Or.inr ?_⟩,hk⟩
      cases hx1 with
      | row0 A' hg hb' hz=> rw [hb'] at hb;cases hb
      | row hg hb'=>
       rw [hb'] at hb
       injection hb with hb
       subst hb
       exact ⟨_,T,cur,_,rfl,by rw [e1],hh,by rw [e1];exact hl,hm,hc,hra⟩
   ·exact hr.elim
  | _=> exact hr.elim
 | d y=>
  cases v with
  | d y'=>
   obtain ⟨rfl,hk⟩:=hr
   cases hx1 with
   | d hd=> exact ⟨m1,κ1,used,none,h.none_,.refl _,rfl,⟨hd,rfl⟩,hk⟩
  | nl=>
   obtain ⟨rfl,hk⟩:=hr
   cases hx with
   | nl A'=> exact ⟨m1,κ1,used,none,h.none_,.refl _,rfl,⟨.fz0 _ _ (fun _=> rfl),rfl⟩,hk⟩
  | row s g n=>
   dsimp only at hr
   split at hr
   ·rename_i sz' es' ro hi
    cases hu:unused used s g
    ·rw [hu] at hr;exact hr.elim
    ·rw [hu] at hr
     obtain ⟨rfl,hk⟩:=hr
     obtain ⟨m2,κ2,t1,t2,t3,t4,t5⟩:=h.nV hi (uV hu)
     refine ⟨m2,κ2,_,none,t1,t2,t3,⟨?_,rfl⟩,hk⟩
     have:=(oP h.sim t4 hx1 t2.S (fun b hb=> t5 b (by rw [←h.φ];exact hb))).1
     rw [t3]
     exact this
   ·exact hr.elim
  | sub s g o n=>
   dsimp only at hr
   split at hr
   ·rename_i sz' es' ro hi
    cases hu:unused used s g
    ·rw [hu] at hr;exact hr.elim
    ·rw [hu] at hr
     obtain ⟨rfl,hk⟩:=hr
     obtain ⟨m2,κ2,t1,t2,t3,t4,t5⟩:=h.nV hi (uV hu)
     refine ⟨m2,κ2,_,none,t1,t2,t3,⟨?_,rfl⟩,hk⟩
     have:=(wo h.sim t4 hx1 t2.S (fun b hb=> t5 b (by rw [←h.φ];exact hb))).1
     rw [t3]
     exact this
   ·exact hr.elim
  | _=> exact hr.elim
 | _=> exact hr.elim
theorem CW:∀(vs rs:List AV) (xs:List Value) (m1:Mem) (κ1:Cx) (used:List (Nat×Nat)) (bs:List (Option Nat)) (K:List (Nat×Nat)→Prop),Taken w0 A m m1 κ κ1 used bs→bT κ vs xs→ajz m used vs rs K→
  ∃m2 κ2 ou b2,Taken w0 A m m2 κ κ2 ou (bs ++ b2)∧κ1.Le κ2∧κ2.w=κ1.w∧BH κ2.S κ2.w rs xs b2∧K ou
 | [],[],xs,m1,κ1,used,bs,K,h,hx,hr=> by
  refine ⟨m1,κ1,used,[],by simpa using h,.refl _,rfl,⟨hx.bg,rfl⟩,hr⟩
 | [],r::rs,xs,m1,κ1,used,bs,K,h,hx,hr=> hr.elim
 | v::vs,[],xs,m1,κ1,used,bs,K,h,hx,hr=> hr.elim
 | v::vs,r::rs,xs,m1,κ1,used,bs,K,h,hx,hr=> by
  obtain ⟨x,xs',rfl,h1,h2⟩:=hx.cons_inv
  obtain ⟨m2,κ2,CX,b,t1,t2,t3,t4,t5⟩:=CU h h1 hr
  obtain ⟨m3,κ3,abe,b3,q1,q2,q3,q4,q5⟩:=CW vs rs xs' m2 κ2 CX (bs ++ [b]) K t1 h2 t5
  refine ⟨m3,κ3,abe,b::b3,by simpa using q1,t2.trans q2,q3.trans t3,⟨x,xs',b,b3,rfl,rfl,?_,q4⟩,q5⟩
  rw [q3]
  exact t4.mono q2.S
theorem CY {m1:Mem} {κ1:Cx} {used:List (Nat×Nat)} {bs:List (Option Nat)} (h:Taken w0 A m m1 κ κ1 used bs) {v r:AV} {x:Value} (hx:Rel κ v x) {K:List (Nat×Nat)→Prop} (hr:aeQ m used v r K):
  ∃m2 κ2 ou b2,Taken w0 A m m2 κ κ2 ou (bs ++ b2)∧κ1.Le κ2∧κ2.w=κ1.w∧Hg κ2.S κ2.w r x b2∧K ou:=by
 have one:aaO m used v r K→(∀rs,r≠ .agg rs)→∃m2 κ2 ou b2,Taken w0 A m m2 κ κ2 ou (bs ++ b2)∧κ1.Le κ2∧κ2.w=κ1.w∧Hg κ2.S κ2.w r x b2∧K ou:=by
  intro hr hne
  obtain ⟨m2,κ2,CX,b,t1,t2,t3,t4,t5⟩:=CU h hx hr
  refine ⟨m2,κ2,CX,[b],t1,t2,t3,?_,t5⟩
  cases r <;> first | exact ⟨b,rfl,t4⟩ | exact absurd rfl (hne _)
 by_cases hc:∃rs,r= .agg rs
 ·obtain ⟨rs,rfl⟩:=hc
  cases v with
  | agg vs=>
   obtain ⟨xs,rfl,hxs⟩:=hx.vZ
   obtain ⟨m2,κ2,CX,b2,t1,t2,t3,t4,t5⟩:=CW vs rs xs.toList m1 κ1 used bs K h hxs hr
   exact ⟨m2,κ2,CX,b2,t1,t2,t3,⟨xs,rfl,t4⟩,t5⟩
  | _=> exact hr.elim
 ·refine one ?_ fun rs e=> hc ⟨rs,e⟩
  cases r <;> first | exact hr | exact absurd ⟨_,rfl⟩ hc
theorem CZ:∀(vs rs:List AV) (xs:List Value) (m1:Mem) (κ1:Cx) (used:List (Nat×Nat)) (bs:List (Option Nat)) (K:List (Nat×Nat)→Prop),Taken w0 A m m1 κ κ1 used bs→bT κ vs xs→aeR m used vs rs K→
  ∃m2 κ2 ou b2,Taken w0 A m m2 κ κ2 ou (bs ++ b2)∧κ1.Le κ2∧κ2.w=κ1.w∧Hl κ2.S κ2.w rs xs b2∧K ou
 | [],[],xs,m1,κ1,used,bs,K,h,hx,hr=> by
  refine ⟨m1,κ1,used,[],by simpa using h,.refl _,rfl,⟨hx.bg,rfl⟩,hr⟩
 | [],r::rs,xs,m1,κ1,used,bs,K,h,hx,hr=> hr.elim
 | v::vs,[],xs,m1,κ1,used,bs,K,h,hx,hr=> hr.elim
 | v::vs,r::rs,xs,m1,κ1,used,bs,K,h,hx,hr=> by
  obtain ⟨x,xs',rfl,h1,h2⟩:=hx.cons_inv
  obtain ⟨m2,κ2,CX,b,t1,t2,t3,t4,t5⟩:=CY h h1 hr
  obtain ⟨m3,κ3,abe,b3,q1,q2,q3,q4,q5⟩:=CZ vs rs xs' m2 κ2 CX (bs ++ b) K t1 h2 t5
  refine ⟨m3,κ3,abe,b ++ b3,by simpa using q1,t2.trans q2,q3.trans t3,⟨x,xs',b,b3,rfl,rfl,?_,q4⟩,q5⟩
  rw [q3]
  exact t4.mono q2.S
end
def Kz (tmps:Array Value):ResultVar→Sem Value
 | .tmp t=> pure (tmps.getD t undef)
 | .cell a t=> do loadVar t (←asAddr (tmps.getD a undef))
section
variable {P : Program} {T : Nat → TI} {w0 : Start} {A : Nat → Prop} {κ : Cx}
theorem SN (hT:zy P T) {st:fJ} {a:Act} (hs:gG w0 A st.m κ) (he:bM κ st.env a.tmps) {x:ResultVar} {K:AV→Prop} (h:aeS T st x K):
  ∃v y,(Kz a.tmps x).run P κ.w= .ok y κ.w∧Rel κ v y∧K v:=by
 cases x with
 | tmp t=>
  simp only [aeS] at h
  split at h
  ·rename_i v hv
   exact ⟨_,_,rfl,(jE (x:= .tmp t) he hv).unk,h⟩
  ·exact h.elim
 | cell t ty=>
  simp only [aeS] at h
  split at h
  ·rename_i s g o hv
   split at h
   ·rename_i cs hi
    split at h
    ·rename_i v hl
     have hr:=jE (x:= .tmp t) he hv
     have hev:a.eval (.tmp t)=a.tmps.getD t undef:=rfl
     rw [hev] at hr
     generalize hy:a.tmps.getD t undef=y at hr
     cases hr with
     | lp hg hb=>
      obtain ⟨b',tt,vs,hb',hh,hn,hrel⟩:=hs.ok s g _ hi
      rw [hb] at hb'
      injection hb' with hb'
      subst hb'
      have hL:bT κ cs vs.toList:=⟨by simpa using hn,fun j c u hc hu=> (hrel j c u hc (by simpa using hu)).1⟩
      obtain ⟨z,hz,hrz,_⟩:=O1 (F:=fun _ _ _=> False) (m:=st.m) (m':=st.m) (v:=v) hT (hL.drop o) (qV hh o) (by rw [hl];exact .ret)
      refine ⟨v,z,?_,hrz,h⟩
      have:(Instr.loadAt ty (.pointer (some ⟨_,o,none⟩))).run P κ.w= .ok z κ.w:=hz
      simp only [Instr.loadAt,Instr.sureAddr,Sem.run_bind,Sem.run_pure,Result.andThen_ok] at this
      simp only [Kz,hy,asAddr,Sem.run_bind,Sem.run_pure,Result.andThen_ok,this]
    ·exact h.elim
   ·exact h.elim
  ·exact h.elim
theorem C9 (hT:zy P T) {st:fJ} {a:Act} (hs:gG w0 A st.m κ) (he:bM κ st.env a.tmps):∀(xs:List ResultVar) (K:List AV→Prop),ajA T st xs K→
  ∃vs ys,(xs.mapM (Kz a.tmps)).run P κ.w= .ok ys κ.w∧bT κ vs ys∧K vs
 | [],K,h=> ⟨[],[],rfl,.nil κ,h⟩
 | x::xs,K,h=> by
  obtain ⟨v,y,h1,h2,h3⟩:=SN hT hs he h
  obtain ⟨vs,ys,q1,q2,q3⟩:=C9 hT hs he xs _ h3
  refine ⟨v::vs,y::ys,?_,.cons h2 q2,q3⟩
  rw [List.mapM_cons]
  simp only [Sem.run_bind,h1,Result.andThen_ok,q1,Sem.run_pure]
theorem Fn.jZ {dr:Prop} {js:List Nat} {F:FuncId→List AV→AV→Prop} {base:Nat} (hm:P.follows .mixedOrders=true) (hT:zy P T) (heq:∀t,(T t).eqs=true→(T t).known=true) (hF:∀f args r,F f args r→vM dr P f args r) {f:FuncId} {fn:Func} {c:Code} {nt:Nat} {rs:List ResultVar} {args:List AV} {r:AV}
  (hcall:∀(args:Array Value) (w:World),(callFunc f args).run P w= .ok (.enter f args) w) (hf:P.funcs[f]? =some fn) (hb:fn.body=some c) (hnt:fn.ntmps=nt) (hrs:fn.results.toList=rs) (hargs:args.length≤nt)
  (h:AW T base nt F js c (st0 args) (aqt T rs r)):Fn dr P f args r:=by
 refine ⟨hcall,fun w A vals hI hA hr=> ?_⟩
 have hlen:vals.size=args.length:=by simpa using hr.1
 refine calls_of_wp hf hb (wp_mono (abd (w0:=⟨w,fun _=> False,dr,hI,fun _ h=> h.elim,0,fun _=> ⟨none,0,0,0⟩⟩) (A:=A) hm hT heq hF c _ _ w ⟨st0 args,G6 A w,rfl,⟨kN.refl _ _,rfl,fun s g i hi=> (by cases hi),fun s g i hi=> (by cases hi),fun s g i b hi=> (by cases hi),fun s g i b hi=> (by cases hi),fun s g i b hi=> (by cases hi),fun s g i s' g' i' b hi=> (by cases hi),fun b hb=> ⟨hA b hb,Or.inl hb⟩,fun b hb=> hb,fun i hi=> absurd hi (Nat.not_lt_zero i)⟩,?_,?_,rfl,h⟩) ?_)
 ·intro t v ht
  have hn:∀(l:List AV) (t:Nat),aeT l t=l[t]? :=by
   intro l
   induction l with
   | nil=> intro t;cases t <;> rfl
   | cons x l ih=> intro t;cases t with
    | zero=> rfl
    | succ t=> simp [aeT,ih]
  have ht:args[t]? =some v:=by rw [←hn];exact ht
  obtain ⟨x,hx,hrx⟩:=hr.get ht
  have hlt:t < vals.size:=by rw [hlen];exact (List.getElem?_eq_some_iff.1 ht).1
  refine ⟨x,?_,hrx⟩
  rw [Array.getElem?_append_left hlt]
  simpa using hx
 ·simp [hnt]
  omega
 ·have fin:∀a' w',Holds ⟨w,fun _=> False,dr,hI,fun _ h=> h.elim,0,fun _=> ⟨none,0,0,0⟩⟩ A nt (ajB T rs r) a' w'→a'.defers= []∧∃v,(results fn a'.tmps).run P w'= .ok v w'∧∃v' S' bs,Ending.returned v=Ending.returned v'∧gQ dr w.heap.size w w'∧(∀b,S' b→b < w'.heap.size∧(A b∨w.heap.size≤b))∧dG S' w' r v' bs∧Apart bs∧∀b,some b∈bs→w.heap.size≤b∧b < w'.heap.size∧¬S' b:=by
   rintro a' w' ⟨st,κ,rfl,hs,he,hn,hd,hret⟩
   refine ⟨hd,?_⟩
   obtain ⟨vs,ys,h1,h2,h3⟩:=C9 (P:=P) hT hs he rs _ hret
   have tk0:Taken ⟨w,fun _=> False,dr,hI,fun _ h=> h.elim,0,fun _=> ⟨none,0,0,0⟩⟩ A st.m st.m κ κ [] []:=⟨hs,.refl κ,rfl,rfl,fun _ _ _=> rfl,fun b hb=> by simp at hb,fun _ _ _=> rfl,by simp [Apart]⟩
   have done:∀(m2:Mem) (κ2:Cx) (used:List (Nat×Nat)) (b2:List (Option Nat)) (y:Value),Taken ⟨w,fun _=> False,dr,hI,fun _ h=> h.elim,0,fun _=> ⟨none,0,0,0⟩⟩ A st.m m2 κ κ2 used b2→dG κ2.S κ2.w r y b2→
     ∃v' S' bs,Ending.returned y=Ending.returned v'∧gQ dr w.heap.size w κ.w∧(∀b,S' b→b < κ.w.heap.size∧(A b∨w.heap.size≤b))∧dG S' κ.w r v' bs∧Apart bs∧∀b,some b∈bs→w.heap.size≤b∧b < κ.w.heap.size∧¬S' b:=by
    intro m2 κ2 used b2 y t1 t2
    refine ⟨y,κ2.S,b2,rfl,hs.below.toD,fun b hb=> ?_,by rw [←t1.w];exact t2,t1.apart,fun b hb=> ?_⟩
    ·rw [←t1.w]
     obtain ⟨k1,k2⟩:=t1.sim.st b hb
     exact ⟨k1,k2.imp id fun h=> h.elim id fun h=> h.elim⟩
    obtain ⟨s,g,i,q1,q2,q3,q4,_⟩:=t1.own b hb
    have:=t1.sim.own s g i b q2 q4
    exact ⟨this.1.elim id fun h=> h.elim,by rw [←t1.w];exact this.2,t1.sim.notS s g i b q2 q4 q3⟩
   have hrun:(results fn a'.tmps).run P κ.w= .ok (if hsz:ys.toArray.size=1 then ys.toArray[0] else .tuple ys.toArray) κ.w:=by
    have e:results fn a'.tmps=(do let vs←fn.results.mapM (Kz a'.tmps);pure (if h:vs.size=1 then vs[0] else .tuple vs)):=rfl
    rw [e,Array.mapM_eq_mapM_toList,hrs]
    simp only [Sem.run_bind,Sem.run_map,h1,Result.andThen_ok,Sem.run_pure]
   have tuple:ys.length≠1→(∃ps,r= .bH ps∧aeR st.m [] vs ps fun _=> True)→∃v,(results fn a'.tmps).run P κ.w= .ok v κ.w∧∃v' S' bs,Ending.returned v=Ending.returned v'∧gQ dr w.heap.size w κ.w∧(∀b,S' b→b < κ.w.heap.size∧(A b∨w.heap.size≤b))∧dG S' κ.w r v' bs∧Apart bs∧∀b,some b∈bs→w.heap.size≤b∧b < κ.w.heap.size∧¬S' b:=by
    rintro hne ⟨ps,rfl,hr2⟩
    obtain ⟨m2,κ2,used,b2,t1,t2,t3,t4,_⟩:=CZ vs ps ys st.m κ [] [] _ tk0 h2 hr2
    rw [List.nil_append] at t1
    have hsz:¬ys.toArray.size=1:=by simpa using hne
    rw [dif_neg hsz] at hrun
    exact ⟨_,hrun,done m2 κ2 used b2 _ t1 ⟨_,rfl,by simpa using t4⟩⟩
   have hl:=h2.1
   match vs,h2,h3,hl with
   | [],h2,h3,hl=>
    refine tuple (by simp at hl;simp [hl]) ?_
    cases r with
    | bH ps=> exact ⟨ps,rfl,h3⟩
    | _=> exact h3.elim
   | [v],h2,h3,hl=>
    obtain ⟨y,ys',rfl,hy,hys⟩:=h2.cons_inv
    have:=hys.bg
    subst this
    have hrun:(results fn a'.tmps).run P κ.w= .ok y κ.w:=hrun
    have h3:aeQ st.m [] v r fun _=> True:=h3
    obtain ⟨m2,κ2,used,b2,t1,t2,t3,t4,_⟩:=CY tk0 hy h3
    rw [List.nil_append] at t1
    refine ⟨y,hrun,done m2 κ2 used b2 y t1 ?_⟩
    cases r with
    | bH ps=> exact h3.elim
    | _=> exact t4
   | v::v'::vs',h2,h3,hl=>
    refine tuple (by simp at hl;omega) ?_
    cases r with
    | bH ps=> exact ⟨ps,rfl,h3⟩
    | _=> exact h3.elim
  intro e a' w' hq
  cases e with
  | normal=> exact fin a' w' hq
  | ret=> exact fin a' w' hq
  | exit i=> obtain ⟨_,_,_,_,_,_,_,h⟩:=hq;exact h.elim
  | goto l=> exact hq.elim
  | panic ch=> exact hq.elim
  | outgrown=> exact hq.elim
end
end
section
open Go.RowKit
def CK.desc:CK→TypeDesc
 | .i k=> .int k
 | .b=> .bool
 | .s=> .string
 | .st _=> .bool
def rD (P:Program):Nat→List CK→List Field→Prop
 | _,[],[]=> True
 | o,c::cs,f::fs=> (f.offset=o∧f.name≠ "_" ∧dW P f.type 1∧P.underlying f.type=some c.desc)∧rD P (o + 1) cs fs
 | _,_,_=> False
section
variable {P : Program} {κ : Cx}
theorem SQ {c:CK} {x y:AV} {b:Bool} (h:J6 c x y=some b):∃u v,x= .d (.v u)∧y= .d (.v v)∧∀(P:Program) (w:World) (t:TypeId) (d:Nat),P.underlying t=some c.desc→(Op.equalIn (d + 1) t u v).run P w= .ok b w:=by
 unfold J6 at h
 split at h
 ·rename_i k0 k p k' q
  by_cases hk:k=k0∧k'=k0
  ·obtain ⟨rfl,rfl⟩:=hk
   rw [if_pos ⟨rfl,rfl⟩] at h
   injection h with h
   subst h
   exact ⟨_,_,rfl,rfl,fun P w t d hu=> run_equalIn_int w d t _ _ p q hu⟩
  ·rw [if_neg hk] at h;cases h
 ·rename_i p q
  injection h with h
  subst h
  exact ⟨_,_,rfl,rfl,fun P w t d hu=> run_equalIn_bool' w d t p q hu⟩
 ·rename_i p q
  injection h with h
  subst h
  exact ⟨_,_,rfl,rfl,fun P w t d hu=> by rw [run_equalIn_string w d t p q hu,beq_toListBytes]⟩
 ·cases h
theorem PG {c:CK} {ks:List CK} {cs ds:List AV} {b:Bool} (h:nY (c::ks) cs ds=some b):∃x y r r' b0 b1,cs= .d (.v x)::r∧ds= .d (.v y)::r'∧nY ks r r'=some b1∧b=(b0 && b1)∧∀(P:Program) (w:World) (t:TypeId) (d:Nat),P.underlying t=some c.desc→(Op.equalIn (d + 1) t x y).run P w= .ok b0 w:=by
 cases cs with
 | nil=> cases h
 | cons x r=>
  cases ds with
  | nil=> cases h
  | cons y r'=>
   simp only [nY] at h
   cases h0:J6 c x y with
   | none=> rw [h0] at h;cases h
   | some b0=>
    rw [h0] at h
    cases h1:nY ks r r' with
    | none=> rw [h1] at h;cases h
    | some b1=>
     rw [h1] at h
     injection h with h
     obtain ⟨u,v,rfl,rfl,hr⟩:=SQ h0
     exact ⟨u,v,r,r',b0,b1,rfl,rfl,h1,h.symm,hr⟩
theorem wK (w:World) (d:Nat):∀(ks:List CK) (fs:List Field) (o:Nat) (xs ys:Array Value) (cs ds:List AV) (b:Bool),rD P o ks fs→bT κ cs (xs.toList.drop o)→bT κ ds (ys.toList.drop o)→nY ks cs ds=some b→(Op.eqFields (d + 1) xs ys fs).run P w= .ok b w
 | [],[],o,xs,ys,cs,ds,b,hf,hx,hy,he=> by
  cases cs with
  | nil=>
   cases ds with
   | nil=>
    injection he with he
    subst he
    rfl
   | cons=> cases he
  | cons=> cases he
 | [],_::_,o,xs,ys,cs,ds,b,hf,hx,hy,he=> hf.elim
 | _::_,[],o,xs,ys,cs,ds,b,hf,hx,hy,he=> hf.elim
 | k::ks,f::fs,o,xs,ys,cs,ds,b,hf,hx,hy,he=> by
  obtain ⟨⟨ho,hn,hz,hu⟩,hf⟩:=hf
  obtain ⟨x0,y0,r,r',b0,b1,rfl,rfl,he2,rfl,hrun⟩:=PG he
  obtain ⟨x,xs',ex,hcx,hx'⟩:=hx.cons_inv
  obtain ⟨y,ys',ey,hcy,hy'⟩:=hy.cons_inv
  have hxv:=hcx.val
  have hyv:=hcy.val
  subst hxv hyv
  have gx:xs[o]? =some x:=by
   have:=congrArg (fun l=> l[0]?) ex
   simpa using this
  have gy:ys[o]? =some y:=by
   have:=congrArg (fun l=> l[0]?) ey
   simpa using this
  have dx:xs.toList.drop (o + 1)=xs':=by rw [←List.drop_drop,ex];rfl
  have dy:ys.toList.drop (o + 1)=ys':=by rw [←List.drop_drop,ey];rfl
  rw [←dx] at hx'
  rw [←dy] at hy'
  have hr:k.desc.isRow=false:=by cases k <;> rfl
  have part:∀(zs:Array Value) (z:Value),zs[o]? =some z→(part f.type zs f.offset).run P w= .ok z w:=by
   intro zs z hz'
   rw [OZ hu hz,hr,ho,hz']
   rfl
  have ih:=wK w d ks fs (o + 1) xs ys r r' b1 hf hx' hy' he2
  simp only [Op.eqFields,hn,ne_eq,not_false_eq_true,if_true,Sem.run_bind,part xs x gx,part ys y gy,Result.andThen_ok,hrun P w f.type d hu]
  cases b0
  ·simp
  ·simp [ih]
theorem zF (w:World) (em:Bool):∀(ks:List CK) (fs:List Field) (o:Nat) (xs:Array Value),rD P o ks fs→ks.all Il=true→(xs.toList.drop o).length=ks.length→(xs.toList.drop o).all aeO=true→
  (forIn fs PUnit.unit fun (f:Field) (_:PUnit)=> (do
   if f.name≠ "_" then
    Instr.checkKey em 9999 f.type (←part f.type xs f.offset)
    pure (ForInStep.yield PUnit.unit)
   else pure (ForInStep.yield PUnit.unit):Sem (ForInStep PUnit))).run P w= .ok PUnit.unit w
 | [],[],o,xs,hf,hk,hl,hx=> rfl
 | [],_::_,o,xs,hf,hk,hl,hx=> hf.elim
 | _::_,[],o,xs,hf,hk,hl,hx=> hf.elim
 | k::ks,f::fs,o,xs,hf,hk,hl,hx=> by
  obtain ⟨⟨ho,hn,hz,hu⟩,hf⟩:=hf
  rw [List.all_cons,Bool.and_eq_true] at hk
  have hk1:k= .i .i64:=by
   have:=hk.1
   unfold Il at this
   split at this
   ·rfl
   ·cases this
  subst hk1
  cases hd:xs.toList.drop o with
  | nil=> rw [hd] at hl;simp at hl
  | cons x xs'=>
   rw [hd] at hl hx
   rw [List.all_cons,Bool.and_eq_true] at hx
   have gx:xs[o]? =some x:=by
    have:=congrArg (fun l=> l[0]?) hd
    simpa using this
   have dx:xs.toList.drop (o + 1)=xs':=by rw [←List.drop_drop,hd];rfl
   have hv:∃n,x= .int .i64 n:=by
    have:=hx.1
    unfold aeO at this
    split at this
    ·exact ⟨_,rfl⟩
    ·cases this
   obtain ⟨n,rfl⟩:=hv
   have hpart:(part f.type xs f.offset).run P w= .ok (.int .i64 n) w:=by
    rw [OZ hu hz,show (CK.i .i64).desc.isRow=false from rfl,ho,gx]
    rfl
   have hc:(Instr.checkKey em 9999 f.type (.int .i64 n)).run P w= .ok () w:=MapKept.run_checkKey hu (by trivial) em 9998
   have ih:=zF w em ks fs (o + 1) xs hf hk.2 (by rw [dx];simpa using hl) (by rw [dx];exact hx.2)
   simp only [List.forIn_cons,hn,ne_eq,not_false_eq_true,if_true,Sem.run_bind,hpart,hc,Result.andThen_ok,Sem.run_pure]
   exact ih
theorem XZ {t:TypeId} (ks:List CK) (hu:P.underlying t=some (.struct (P.fieldsOf t))) (hp:P.stoodInHeld t=false) (hm:P.eqGuardType P.depth t=false) (hf:rD P 0 ks (P.fieldsOf t).toList):EqS P t ks where
 eq w xs ys cs ds b x y κ hx hy he:=by
  refine ⟨run_eqGuard_agg w .eql t x y xs ys hm,run_eqGuard_agg w .neq t x y xs ys hm,?_⟩
  show (Op.equalIn (9999 + 1) t (.agg xs) (.agg ys)).run P w=_
  rw [run_equalIn_agg w 9999 t xs ys hu hp]
  exact wK w 9998 ks _ 0 xs ys cs ds b hf hx hy he
 key hk w e xs hl hx:=by
  unfold Instr.checkKey
  simp only [Sem.run_bind,run_underlying hu,Result.andThen_ok]
  rw [←Array.forIn_toList]
  have h:=zF w e ks _ 0 xs hf hk (by simpa using hl) (by simpa using hx)
  exact (congrArg (fun r=> Result.andThen r fun a w'=> Sem.run P (pure ()) w') h).trans rfl
theorem ku {t:TypeId} {fs:Array Field} (ks:List CK) (hu:P.underlying t=some (.struct fs)) (hp:P.stoodInHeld t=false) (hm:P.eqGuardType P.depth t=false) (hf:rD P 0 ks fs.toList):EqS P t ks:=by
 have e:P.fieldsOf t=fs:=by
  unfold Program.fieldsOf
  rw [hu]
 exact XZ ks (by rw [e];exact hu) hp hm (by rw [e];exact hf)
end
end
section
open Go.RowKit
theorem gZ {P:Program} {t:Nat} {ti:TypeInfo} (h:P.info? t=some ti):dW P t ti.size:=by
 unfold dW
 rw [h]
 rfl
def tOf:Nat→TI
 | 3=> ⟨1,false,8,[],Value.int IntKind.i64 0,[0],.int .i64⟩
 | 4=> ⟨1,false,1,[],Value.bool false,[0],.bool⟩
 | 9=> ⟨1,false,16,[],Value.string {data:= #[]},[0],.str⟩
 | 22=> ⟨1,false,24,[],Value.slice none 0 0,[1],.slice 3 1⟩
 | 24=> ⟨10,true,104,[],Value.agg #[Value.int IntKind.i64 0,Value.int IntKind.i64 0,Value.int IntKind.i64 0,Value.int IntKind.i64 0,Value.int IntKind.i64 0,Value.int IntKind.i64 0,Value.int IntKind.i64 0,Value.int IntKind.i64 0,Value.string {data:= #[]},Value.slice none 0 0],[0,0,0,0,0,0,0,0,0,1],.struct [(0,3,1),(1,3,1),(2,3,1),(3,3,1),(4,3,1),(5,3,1),(6,3,1),(7,3,1),(8,9,1),(9,22,1)]⟩
 | 26=> ⟨5,true,40,[.i .i64,.i .i64,.i .i64,.i .i64,.b],Value.agg #[Value.int IntKind.i64 0,Value.int IntKind.i64 0,Value.int IntKind.i64 0,Value.int IntKind.i64 0,Value.bool false],[0,0,0,0,0],.struct [(0,3,1),(1,3,1),(2,3,1),(3,3,1),(4,4,1)]⟩
 | 28=> ⟨3,true,24,[.i .i64,.i .i64,.i .i64],Value.agg #[Value.int IntKind.i64 0,Value.int IntKind.i64 0,Value.int IntKind.i64 0],[0,0,0],.struct [(0,3,1),(1,3,1),(2,3,1)]⟩
 | 30=> ⟨3,true,24,[.i .i64,.i .i64,.b],Value.agg #[Value.int IntKind.i64 0,Value.int IntKind.i64 0,Value.bool false],[0,0,0],.struct [(0,3,1),(1,3,1),(2,4,1)]⟩
 | 32=> ⟨4,true,32,[.i .i64,.i .i64,.i .i64,.i .i64],Value.agg #[Value.int IntKind.i64 0,Value.int IntKind.i64 0,Value.int IntKind.i64 0,Value.int IntKind.i64 0],[0,0,0,0],.struct [(0,3,1),(1,3,1),(2,3,1),(3,3,1)]⟩
 | 34=> ⟨4,true,32,[.i .i64,.i .i64,.i .i64,.i .i64],Value.agg #[Value.int IntKind.i64 0,Value.int IntKind.i64 0,Value.int IntKind.i64 0,Value.int IntKind.i64 0],[0,0,0,0],.struct [(0,3,1),(1,3,1),(2,3,1),(3,3,1)]⟩
 | 35=> ⟨1,false,24,[],Value.slice none 0 0,[1],.slice 4 1⟩
 | 37=> ⟨35,true,320,[],Value.agg #[Value.int IntKind.i64 0,Value.int IntKind.i64 0,Value.int IntKind.i64 0,Value.int IntKind.i64 0,Value.int IntKind.i64 0,Value.int IntKind.i64 0,Value.int IntKind.i64 0,Value.int IntKind.i64 0,Value.int IntKind.i64 0,Value.int IntKind.i64 0,Value.int IntKind.i64 0,Value.int IntKind.i64 0,Value.int IntKind.i64 0,Value.string {data:= #[]},Value.slice none 0 0,Value.int IntKind.i64 0,Value.int IntKind.i64 0,Value.int IntKind.i64 0,Value.int IntKind.i64 0,Value.bool false,Value.int IntKind.i64 0,Value.int IntKind.i64 0,Value.int IntKind.i64 0,Value.int IntKind.i64 0,Value.int IntKind.i64 0,Value.bool false,Value.int IntKind.i64 0,Value.int IntKind.i64 0,Value.int IntKind.i64 0,Value.int IntKind.i64 0,Value.int IntKind.i64 0,Value.int IntKind.i64 0,Value.int IntKind.i64 0,Value.int IntKind.i64 0,Value.slice none 0 0],[0,0,0,0,0,0,0,0,0,0,0,0,0,0,1,0,0,0,0,0,0,0,0,0,0,0,0,0,0,0,0,0,0,0,1],.struct [(0,3,1),(1,3,1),(2,3,1),(3,3,1),(4,3,1),(5,24,10),(15,26,5),(20,28,3),(23,30,3),(26,32,4),(30,34,4),(34,35,1)]⟩
 | 126=> ⟨1,false,8,[],Value.nilFunc,[0],.other⟩
 | _=> ⟨0,false,0,[],.bool false,[],.none_⟩
theorem ahY:Tryz.prog.info? 3=some Tryz.t3:=by kernel_rfl
theorem ahZ:Tryz.prog.info? 4=some Tryz.t4:=by kernel_rfl
theorem ah0:Tryz.prog.info? 9=some Tryz.t9:=by kernel_rfl
theorem abf:Tryz.prog.info? 22=some Tryz.t22:=by kernel_rfl
theorem abg:Tryz.prog.info? 24=some Tryz.t24:=by kernel_rfl
theorem abh:Tryz.prog.info? 26=some Tryz.t26:=by kernel_rfl
theorem abj:Tryz.prog.info? 28=some Tryz.t28:=by kernel_rfl
theorem abk:Tryz.prog.info? 30=some Tryz.t30:=by kernel_rfl
theorem abl:Tryz.prog.info? 32=some Tryz.t32:=by kernel_rfl
theorem abm:Tryz.prog.info? 34=some Tryz.t34:=by kernel_rfl
theorem abn:Tryz.prog.info? 35=some Tryz.t35:=by kernel_rfl
theorem ajG:Tryz.prog.info? 37=some Tryz.t37:=by kernel_rfl
theorem ae4:Tryz.prog.info? 126=some Tryz.t126:=by kernel_rfl
theorem fK:dW Tryz.prog 3 1:=gZ ahY
theorem abo:dW Tryz.prog 4 1:=gZ ahZ
theorem aqA:dW Tryz.prog 9 1:=gZ ah0
theorem ana:dW Tryz.prog 22 1:=gZ abf
theorem anb:dW Tryz.prog 24 10:=gZ abg
theorem anc:dW Tryz.prog 26 5:=gZ abh
theorem ane:dW Tryz.prog 28 3:=gZ abj
theorem anf:dW Tryz.prog 30 3:=gZ abk
theorem ang:dW Tryz.prog 32 4:=gZ abl
theorem anh:dW Tryz.prog 34 4:=gZ abm
theorem ani:dW Tryz.prog 35 1:=gZ abn
theorem anj:uT Tryz.prog 3 ⟨1,false,8,[],Value.int IntKind.i64 0,[0],.int .i64⟩:=⟨⟨Tryz.t3,ahY,rfl,rfl,rfl⟩,⟨_,Tryz.underlying3,rfl,rfl⟩,rfl,rfl,fun h=> absurd h (by decide)⟩
theorem ank:uT Tryz.prog 4 ⟨1,false,1,[],Value.bool false,[0],.bool⟩:=⟨⟨Tryz.t4,ahZ,rfl,rfl,rfl⟩,⟨_,Tryz.underlying4,rfl,rfl⟩,rfl,rfl,fun h=> absurd h (by decide)⟩
theorem anl:uT Tryz.prog 9 ⟨1,false,16,[],Value.string {data:= #[]},[0],.str⟩:=⟨⟨Tryz.t9,ah0,rfl,rfl,rfl⟩,⟨_,Tryz.underlying9,rfl,rfl⟩,rfl,rfl,fun h=> absurd h (by decide)⟩
theorem ajH:uT Tryz.prog 22 ⟨1,false,24,[],Value.slice none 0 0,[1],.slice 3 1⟩:=⟨⟨Tryz.t22,abf,rfl,rfl,rfl⟩,⟨_,Tryz.underlying22,rfl,⟨rfl,fK⟩⟩,rfl,rfl,fun h=> absurd h (by decide)⟩
theorem ajI:uT Tryz.prog 24 ⟨10,true,104,[],Value.agg #[Value.int IntKind.i64 0,Value.int IntKind.i64 0,Value.int IntKind.i64 0,Value.int IntKind.i64 0,Value.int IntKind.i64 0,Value.int IntKind.i64 0,Value.int IntKind.i64 0,Value.int IntKind.i64 0,Value.string {data:= #[]},Value.slice none 0 0],[0,0,0,0,0,0,0,0,0,1],.struct [(0,3,1),(1,3,1),(2,3,1),(3,3,1),(4,3,1),(5,3,1),(6,3,1),(7,3,1),(8,9,1),(9,22,1)]⟩:=⟨⟨Tryz.t24,abg,rfl,rfl,rfl⟩,⟨_,Tryz.underlying24,rfl,⟨_,rfl,rfl,List.forall_mem_cons.2 ⟨fK,List.forall_mem_cons.2 ⟨fK,List.forall_mem_cons.2 ⟨fK,List.forall_mem_cons.2 ⟨fK,List.forall_mem_cons.2 ⟨fK,List.forall_mem_cons.2 ⟨fK,List.forall_mem_cons.2 ⟨fK,List.forall_mem_cons.2 ⟨fK,List.forall_mem_cons.2 ⟨aqA,List.forall_mem_cons.2 ⟨ana,fun _ h=> by cases h⟩⟩⟩⟩⟩⟩⟩⟩⟩⟩⟩⟩,rfl,rfl,fun h=> absurd h (by decide)⟩
theorem ajJ:uT Tryz.prog 26 ⟨5,true,40,[.i .i64,.i .i64,.i .i64,.i .i64,.b],Value.agg #[Value.int IntKind.i64 0,Value.int IntKind.i64 0,Value.int IntKind.i64 0,Value.int IntKind.i64 0,Value.bool false],[0,0,0,0,0],.struct [(0,3,1),(1,3,1),(2,3,1),(3,3,1),(4,4,1)]⟩:=⟨⟨Tryz.t26,abh,rfl,rfl,rfl⟩,⟨_,Tryz.underlying26,rfl,⟨_,rfl,rfl,List.forall_mem_cons.2 ⟨fK,List.forall_mem_cons.2 ⟨fK,List.forall_mem_cons.2 ⟨fK,List.forall_mem_cons.2 ⟨fK,List.forall_mem_cons.2 ⟨abo,fun _ h=> by cases h⟩⟩⟩⟩⟩⟩⟩,rfl,rfl,fun _=> ku [.i .i64,.i .i64,.i .i64,.i .i64,.b] Tryz.underlying26 (by kernel_rfl) (by kernel_rfl) ⟨⟨rfl,by decide,fK,Tryz.underlying3⟩,⟨⟨rfl,by decide,fK,Tryz.underlying3⟩,⟨⟨rfl,by decide,fK,Tryz.underlying3⟩,⟨⟨rfl,by decide,fK,Tryz.underlying3⟩,⟨⟨rfl,by decide,abo,Tryz.underlying4⟩,trivial⟩⟩⟩⟩⟩⟩
theorem ajK:uT Tryz.prog 28 ⟨3,true,24,[.i .i64,.i .i64,.i .i64],Value.agg #[Value.int IntKind.i64 0,Value.int IntKind.i64 0,Value.int IntKind.i64 0],[0,0,0],.struct [(0,3,1),(1,3,1),(2,3,1)]⟩:=⟨⟨Tryz.t28,abj,rfl,rfl,rfl⟩,⟨_,Tryz.underlying28,rfl,⟨_,rfl,rfl,List.forall_mem_cons.2 ⟨fK,List.forall_mem_cons.2 ⟨fK,List.forall_mem_cons.2 ⟨fK,fun _ h=> by cases h⟩⟩⟩⟩⟩,rfl,rfl,fun _=> ku [.i .i64,.i .i64,.i .i64] Tryz.underlying28 (by kernel_rfl) (by kernel_rfl) ⟨⟨rfl,by decide,fK,Tryz.underlying3⟩,⟨⟨rfl,by decide,fK,Tryz.underlying3⟩,⟨⟨rfl,by decide,fK,Tryz.underlying3⟩,trivial⟩⟩⟩⟩
theorem ajL:uT Tryz.prog 30 ⟨3,true,24,[.i .i64,.i .i64,.b],Value.agg #[Value.int IntKind.i64 0,Value.int IntKind.i64 0,Value.bool false],[0,0,0],.struct [(0,3,1),(1,3,1),(2,4,1)]⟩:=⟨⟨Tryz.t30,abk,rfl,rfl,rfl⟩,⟨_,Tryz.underlying30,rfl,⟨_,rfl,rfl,List.forall_mem_cons.2 ⟨fK,List.forall_mem_cons.2 ⟨fK,List.forall_mem_cons.2 ⟨abo,fun _ h=> by cases h⟩⟩⟩⟩⟩,rfl,rfl,fun _=> ku [.i .i64,.i .i64,.b] Tryz.underlying30 (by kernel_rfl) (by kernel_rfl) ⟨⟨rfl,by decide,fK,Tryz.underlying3⟩,⟨⟨rfl,by decide,fK,Tryz.underlying3⟩,⟨⟨rfl,by decide,abo,Tryz.underlying4⟩,trivial⟩⟩⟩⟩
theorem ajM:uT Tryz.prog 32 ⟨4,true,32,[.i .i64,.i .i64,.i .i64,.i .i64],Value.agg #[Value.int IntKind.i64 0,Value.int IntKind.i64 0,Value.int IntKind.i64 0,Value.int IntKind.i64 0],[0,0,0,0],.struct [(0,3,1),(1,3,1),(2,3,1),(3,3,1)]⟩:=⟨⟨Tryz.t32,abl,rfl,rfl,rfl⟩,⟨_,Tryz.underlying32,rfl,⟨_,rfl,rfl,List.forall_mem_cons.2 ⟨fK,List.forall_mem_cons.2 ⟨fK,List.forall_mem_cons.2 ⟨fK,List.forall_mem_cons.2 ⟨fK,fun _ h=> by cases h⟩⟩⟩⟩⟩⟩,rfl,rfl,fun _=> ku [.i .i64,.i .i64,.i .i64,.i .i64] Tryz.underlying32 (by kernel_rfl) (by kernel_rfl) ⟨⟨rfl,by decide,fK,Tryz.underlying3⟩,⟨⟨rfl,by decide,fK,Tryz.underlying3⟩,⟨⟨rfl,by decide,fK,Tryz.underlying3⟩,⟨⟨rfl,by decide,fK,Tryz.underlying3⟩,trivial⟩⟩⟩⟩⟩
theorem ajN:uT Tryz.prog 34 ⟨4,true,32,[.i .i64,.i .i64,.i .i64,.i .i64],Value.agg #[Value.int IntKind.i64 0,Value.int IntKind.i64 0,Value.int IntKind.i64 0,Value.int IntKind.i64 0],[0,0,0,0],.struct [(0,3,1),(1,3,1),(2,3,1),(3,3,1)]⟩:=⟨⟨Tryz.t34,abm,rfl,rfl,rfl⟩,⟨_,Tryz.underlying34,rfl,⟨_,rfl,rfl,List.forall_mem_cons.2 ⟨fK,List.forall_mem_cons.2 ⟨fK,List.forall_mem_cons.2 ⟨fK,List.forall_mem_cons.2 ⟨fK,fun _ h=> by cases h⟩⟩⟩⟩⟩⟩,rfl,rfl,fun _=> ku [.i .i64,.i .i64,.i .i64,.i .i64] Tryz.underlying34 (by kernel_rfl) (by kernel_rfl) ⟨⟨rfl,by decide,fK,Tryz.underlying3⟩,⟨⟨rfl,by decide,fK,Tryz.underlying3⟩,⟨⟨rfl,by decide,fK,Tryz.underlying3⟩,⟨⟨rfl,by decide,fK,Tryz.underlying3⟩,trivial⟩⟩⟩⟩⟩
theorem ajO:uT Tryz.prog 35 ⟨1,false,24,[],Value.slice none 0 0,[1],.slice 4 1⟩:=⟨⟨Tryz.t35,abn,rfl,rfl,rfl⟩,⟨_,Tryz.underlying35,rfl,⟨rfl,abo⟩⟩,rfl,rfl,fun h=> absurd h (by decide)⟩
theorem ajP:uT Tryz.prog 37 ⟨35,true,320,[],Value.agg #[Value.int IntKind.i64 0,Value.int IntKind.i64 0,Value.int IntKind.i64 0,Value.int IntKind.i64 0,Value.int IntKind.i64 0,Value.int IntKind.i64 0,Value.int IntKind.i64 0,Value.int IntKind.i64 0,Value.int IntKind.i64 0,Value.int IntKind.i64 0,Value.int IntKind.i64 0,Value.int IntKind.i64 0,Value.int IntKind.i64 0,Value.string {data:= #[]},Value.slice none 0 0,Value.int IntKind.i64 0,Value.int IntKind.i64 0,Value.int IntKind.i64 0,Value.int IntKind.i64 0,Value.bool false,Value.int IntKind.i64 0,Value.int IntKind.i64 0,Value.int IntKind.i64 0,Value.int IntKind.i64 0,Value.int IntKind.i64 0,Value.bool false,Value.int IntKind.i64 0,Value.int IntKind.i64 0,Value.int IntKind.i64 0,Value.int IntKind.i64 0,Value.int IntKind.i64 0,Value.int IntKind.i64 0,Value.int IntKind.i64 0,Value.int IntKind.i64 0,Value.slice none 0 0],[0,0,0,0,0,0,0,0,0,0,0,0,0,0,1,0,0,0,0,0,0,0,0,0,0,0,0,0,0,0,0,0,0,0,1],.struct [(0,3,1),(1,3,1),(2,3,1),(3,3,1),(4,3,1),(5,24,10),(15,26,5),(20,28,3),(23,30,3),(26,32,4),(30,34,4),(34,35,1)]⟩:=⟨⟨Tryz.t37,ajG,rfl,rfl,rfl⟩,⟨_,Tryz.underlying37,rfl,⟨_,rfl,rfl,List.forall_mem_cons.2 ⟨fK,List.forall_mem_cons.2 ⟨fK,List.forall_mem_cons.2 ⟨fK,List.forall_mem_cons.2 ⟨fK,List.forall_mem_cons.2 ⟨fK,List.forall_mem_cons.2 ⟨anb,List.forall_mem_cons.2 ⟨anc,List.forall_mem_cons.2 ⟨ane,List.forall_mem_cons.2 ⟨anf,List.forall_mem_cons.2 ⟨ang,List.forall_mem_cons.2 ⟨anh,List.forall_mem_cons.2 ⟨ani,fun _ h=> by cases h⟩⟩⟩⟩⟩⟩⟩⟩⟩⟩⟩⟩⟩⟩,rfl,rfl,fun h=> absurd h (by decide)⟩
theorem ae5:uT Tryz.prog 126 ⟨1,false,8,[],Value.nilFunc,[0],.other⟩:=⟨⟨Tryz.t126,ae4,rfl,rfl,rfl⟩,⟨_,Tryz.underlying126,rfl,trivial⟩,rfl,rfl,fun h=> absurd h (by decide)⟩
theorem tok:zy Tryz.prog tOf:=by
 intro t
 unfold tOf
 split
 ·exact fun _=> anj
 ·exact fun _=> ank
 ·exact fun _=> anl
 ·exact fun _=> ajH
 ·exact fun _=> ajI
 ·exact fun _=> ajJ
 ·exact fun _=> ajK
 ·exact fun _=> ajL
 ·exact fun _=> ajM
 ·exact fun _=> ajN
 ·exact fun _=> ajO
 ·exact fun _=> ajP
 ·exact fun _=> ae5
 ·intro h;cases h
theorem kC:∀t,(tOf t).eqs=true→(tOf t).known=true:=by
 intro t
 unfold tOf
 split <;> first | exact fun _=> rfl | exact fun h=> absurd h (by decide)
theorem mixed:Tryz.prog.follows .mixedOrders=true:=by kernel_rfl
end
end Go.Proofs.YtnegekppaoedgaaGreatDoor

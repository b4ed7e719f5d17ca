/-
Evaluation of Go code on plain data: append, slice literals, calls. Over any program.
-/
import Derived.Test.YtnegekppaoedgaaGreatDoorQ02
import Derived.Deep.LoopGhost
namespace Go.Proofs.YtnegekppaoedgaaGreatDoor
section
open Go.RowKit
section
variable {P : Program} {T : Nat → TI} {F : FuncId → List AV → AV → Prop} {w0 : Start} {A : Nat → Prop} {o : Oper} {a : Act} {κ : Cx} {m m' : Mem} {v : AV} {Q : Exit → Act → World → Prop} {env : Nat → Option AV}
theorem wB (he:bM κ env a.tmps) (sz n:Nat):∀(parts:List (Nat×Operand)) (i:Nat) (k:List (List D)→Step) (m:Mem) (κ0:Cx) (v:AV) (m':Mem),gG w0 A m κ0→κ.Le κ0→κ0.w=κ.w→(nZ sz n i (parts.map fun p=> (p.1,aJ env p.2)) k).Runs F m v m'→
  ∃m1 κ1 es xs,gG w0 A m1 κ1∧κ0.Le κ1∧κ1.w=κ.w∧(k es).Runs F m1 v m'∧i + parts.length=n∧es.length=parts.length∧(∀e∈es,e.length=sz)∧xs.length=parts.length * sz∧
   (∀(i j:Nat) (e:List D) (x:D),es[i]? =some e→e[j]? =some x→∃u,xs[i * sz + j]? =some u∧aV κ1.S κ1.w x u)∧
   ∀cells:Array Value,cells.size=n * sz→Instr.fill (fun i=> some (i * sz,sz)) cells (parts.map fun p=> (p.1,a.eval p.2))=some (cells.toList.take (i * sz) ++ xs).toArray
 | [],i,k,m,κ0,v,m',hs,hle,hw,h=> by
  simp only [List.map_nil,nZ] at h
  cases hb:Nat.beq i n
  ·rw [hb] at h;cases h
  ·rw [hb] at h
   have hb:=Nat.eq_of_beq_eq_true hb
   subst hb
   refine ⟨m,κ0,[],[],hs,.refl _,hw,h,by simp,rfl,by simp,by simp,by simp,fun cells hc=> ?_⟩
   simp only [List.map_nil,Instr.fill,List.append_nil]
   rw [List.take_of_length_le (by simp [hc])]
 | (j,x)::parts,i,k,m,κ0,v,m',hs,hle,hw,h=> by
  simp only [List.map_cons] at h
  cases hx:aJ env x with
  | none=> rw [hx] at h;cases h
  | some c=>
   rw [hx] at h
   simp only [nZ] at h
   cases hb:(Nat.beq i j && Nat.beq (cellsOf c).length sz && (cellsOf c).all jX)
   ·rw [hb] at h;cases h
   ·rw [hb] at h
    simp only [Bool.and_eq_true] at hb
    obtain ⟨⟨h1,h2⟩,h3⟩:=hb
    have h1:=Nat.eq_of_beq_eq_true h1
    have h2:=Nat.eq_of_beq_eq_true h2
    subst h1
    obtain ⟨hcs,hone⟩:=(bI he hx).cells h3
    obtain ⟨m1,κ1,ds,g1,g2,g3,g4,g5⟩:=oI (cellsOf c) _ m κ0 _ v m' hs (hcs.mono hle) h
    obtain ⟨m2,κ2,es,xs,q1,q2,q3,q4,q5,q6,q7,q8,q9,q10⟩:=wB he sz n parts (i + 1) _ m1 κ1 v m' g1 (hle.trans g2) (g3.trans hw) g5
    have hsz:(a.eval x).cells.size=sz:=by have:=hcs.1;simp only [Array.length_toList] at this;omega
    have hds:ds.length=sz:=by rw [g4.1];simpa using hsz
    refine ⟨m2,κ2,ds::es,(a.eval x).cells.toList ++ xs,q1,g2.trans q2,q3,q4,by simp;omega,by simp [q6],fun e he'=> ?_,?_,fun i' j' e y hi' hj'=> ?_,fun cells hc=> ?_⟩
    ·rcases List.mem_cons.1 he' with rfl | he'
     ·exact hds
     ·exact q7 e he'
    ·simp [q8,hsz,Nat.add_mul]
     omega
    ·cases i' with
     | zero=>
      simp at hi'
      subst hi'
      have hj2:j' < sz:=by rw [←hds];exact (List.getElem?_eq_some_iff.1 hj').1
      have hlt:j' < (a.eval x).cells.toList.length:=by simp;omega
      refine ⟨(a.eval x).cells.toList[j'],?_,q2.BG (g4.2 j' y _ hj' (List.getElem?_eq_getElem hlt))⟩
      rw [Nat.zero_mul,Nat.zero_add,List.getElem?_append_left hlt,List.getElem?_eq_getElem hlt]
     | succ i'=>
      obtain ⟨u,hu,hd⟩:=q9 i' j' e y (by simpa using hi') hj'
      refine ⟨u,?_,hd⟩
      rw [List.getElem?_append_right (by simp [hsz,Nat.add_mul];omega)]
      have:(i' + 1) * sz + j' - (a.eval x).cells.toList.length=i' * sz + j':=by simp [hsz,Nat.add_mul];omega
      rw [this]
      exact hu
    ·have hfit:i * sz + sz≤cells.size:=by
      rw [hc]
      have:(i + 1) * sz≤n * sz:=Nat.mul_le_mul_right _ (by omega)
      rw [Nat.add_mul] at this
      omega
     rw [List.map_cons,yK _ cells i (a.eval x) _ rfl hsz hfit,q10 _ (by rw [List.size_toArray,dX _ _ _ (by simp;omega)];simpa using hc)]
     congr 2
     have:(over cells.toList (i * sz) (a.eval x).cells.toList).take ((i + 1) * sz)=cells.toList.take (i * sz) ++ (a.eval x).cells.toList:=by
      unfold over
      rw [List.take_append_of_le_length (by simp [hsz,Nat.add_mul];omega),List.take_of_length_le (by simp [hsz,Nat.add_mul];omega)]
     rw [this,List.append_assoc]
theorem SC (hT:zy P T) (hs:gG w0 A m κ) (he:bM κ env a.tmps) {t e z n s:Nat} {parts:Array (Nat×Operand)} (ho:o.op= .buildSlice t n parts) (hk:(T t).k= .slice e z) (h:(vU (T e) s n (parts.toList.map fun p=> (p.1,aJ env p.2))).Runs F m v m'):
  o.wp P a κ.w (fun a' w'=> After w0 A κ o v m' a a' w') Q:=by
 unfold vU at h
 cases hb:((T e).known && Nat.ble (n * (T e).size) 1000000 && Nat.blt 0 (T e).size)
 ·rw [hb] at h;cases h
 ·rw [hb] at h
  simp only [Bool.and_eq_true] at hb
  obtain ⟨⟨hkn,hn⟩,hpos⟩:=hb
  have hn:=Nat.le_of_ble_eq_true hn
  have hpos:0 < (T e).size:=Nat.lt_of_succ_le (Nat.le_of_ble_eq_true hpos)
  have ht:=hT e hkn
  obtain ⟨it,hit,hsz,hby,hz⟩:=ht.info
  obtain ⟨dd,hu,hd,_⟩:=hT.kok hk (by simp)
  have hd:dd=_:=hd
  subst hd
  obtain ⟨m1,κ1,es,xs,q1,q2,q3,q4,q5,q6,q7,q8,q9,q10⟩:=wB he (T e).size n parts.toList 0 _ m κ v m' hs (.refl κ) rfl h
  cases q4 with
  | new q4=>
   obtain ⟨rfl,rfl⟩:=bQ q4
   have hpl:parts.toList.length=n:=(Nat.zero_add _).symm.trans q5
   have hnl:es.length=n:=q6.trans hpl
   have hrun:(execOp a.eval o).run P κ.w= .ok (.value (.slice (some ⟨κ.w.heap.size,0,none⟩) n n)) (κ.w.alloc (.cells xs.toArray e)):=by
    have ahW:∀(cells:Array Value),cells.size=n * (T e).size→Instr.fill (fun i=> some (i * (T e).size,(T e).size)) cells (parts.map fun p=> (p.1,a.eval p.2)).toList=some xs.toArray:=by
     intro cells hc
     have:=q10 cells hc
     simpa using this
    have hsm:¬(n * (T e).size > 16777216):=by omega
    unfold execOp
    rw [ho]
    by_cases h0:n * (T e).size=0
    ·have:=ahW ((Array.range (n * (T e).size)).map (#[][· % (#[]:Array Value).size]!)) (by simp)
     simp [Instr.buildSlice,run_underlying hu,sizeOf,typeInfo,hit,hsz,h0] at this ⊢
     rw [this]
     rfl
    ·have:=ahW ((Array.range (n * (T e).size)).map ((T e).zero.cells[· % (T e).zero.cells.size]!)) (by simp)
     simp [Instr.buildSlice,run_underlying hu,sizeOf,typeInfo,hit,hsz,h0,hsm,zeroValue,hz] at this ⊢
     rw [this]
     rfl
   refine iU hrun ?_
   have hw:κ1.w=κ.w:=q3
   obtain ⟨r1,r2⟩:=q1.add (vS κ1.w (.cells xs.toArray e)) s (.rows (T e).size es false) ⟨some κ1.w.heap.size,n,(T e).size,n⟩ (fun b hb=> by injection hb with hb;subst hb;exact q1.fresh (Nat.le_refl _) (by simp)) rfl
    (fun hle=> ⟨hnl,q7,Or.inr ⟨_,e,xs.toArray,rfl,rfl,heap_alloc_new _ _,Nat.le_refl _,by
      have:n≤n * (T e).size:=Nat.le_mul_of_pos_right _ hpos
      simp only [maxLen];omega,by rw [List.size_toArray,q8,hpl],fun i j e' x' h1 h2=> let ⟨u,h3,h4⟩:=q9 i j e' x' h1 h2;⟨u,by simpa using h3,hle.BG h4⟩⟩⟩)
   refine ⟨_,by show κ1.w.alloc _=_;rw [hw],r1,q2.trans r2,_,rfl,?_⟩
   rw [←q1.gn,←hw]
   have:=Rel.row (κ:=κ1.put s ⟨some κ1.w.heap.size,n,(T e).size,n⟩ (κ1.w.alloc (.cells xs.toArray e))) (s:=s) (g:=κ1.gn s + 1) (b:=κ1.w.heap.size) (by rw [Cx.yG];exact Nat.le_refl _) (by rw [Cx.gJ])
   rw [Cx.gJ] at this
   exact this
end
end
section
open Go.RowKit
section
variable {P : Program} {T : Nat → TI} {F : FuncId → List AV → AV → Prop} {w0 : Start} {A : Nat → Prop} {o : Oper} {a : Act} {κ : Cx} {m m' : Mem} {v : AV} {Q : Exit → Act → World → Prop} {env : Nat → Option AV}
theorem aaX (hF:∀f args r,F f args r→vM w0.dr P f args r) (hs:gG w0 A m κ) (he:bM κ env a.tmps) {fv:Operand} {xs:Array Operand} {ts:Array TypeId} {s:Nat} (ho:o.op= .call {callee:= .value fv,args:=xs,argTypes:=ts}) (h:(uP s (aJ env fv) (xs.toList.map (aJ env))).Runs F m v m'):
  o.wp P a κ.w (fun a' w'=> After w0 A κ o v m' a a' w') Q:=by
 generalize hfv:aJ env fv=c at h
 unfold uP at h
 split at h
 ·rename_i f cs
  cases hcap:cs.all cap1
  ·rw [hcap] at h;cases h
  rw [hcap] at h
  simp only [cond_true] at h
  have hrf:=bI he hfv
  obtain ⟨us,hfe,hus⟩:∃us:Array Value,a.eval fv= .func (.func f) #[] us∧bT κ cs us.toList:=by
   generalize a.eval fv=y at hrf
   cases hrf with
   | @fn _ _ vs hl hh=> exact ⟨vs,rfl,by simpa using hl,fun j c y hc hy=> hh j c y hc (by simpa using hy)⟩
  obtain ⟨ys,l,h,hr,hrows⟩:=Iq (xs.toList.map (aJ env) ++ cs.map some) _ m κ (xs.toList.map a.eval ++ us.toList) v m' hs (by have:=hus.1;simp at this;simp [this]) (fun j c u hc hu=> by
   rw [List.getElem?_append] at hc hu
   split at hc
   ·rename_i hlt
    rw [if_pos (by simpa using hlt)] at hu
    rw [List.getElem?_map] at hc hu
    cases hq:xs.toList[j]? with
    | none=> rw [hq] at hc;simp at hc
    | some q=>
     rw [hq] at hc hu
     simp at hc hu
     subst hu
     exact bI he hc
   ·rename_i hge
    rw [if_neg (by simpa using hge)] at hu
    rw [List.getElem?_map] at hc
    simp only [List.length_map] at hc hu
    cases hq:cs[j - xs.toList.length]? with
    | none=> rw [hq] at hc;simp at hc
    | some q=>
     rw [hq] at hc
     simp at hc
     subst hc
     exact hus.2 _ _ u hq hu) h
  cases h with
  | call hf h=>
   rename_i x
   have hfn:=(hF f ys x hf)
   have hrun:(execOp a.eval o).run P κ.w= .ok (.enter f (xs.map a.eval ++ us)) κ.w:=by
    unfold execOp
    rw [ho]
    simp [resolve,hfe,Deferred.ofValue,invoke,hfn.1]
   have hc:=hfn.2 κ.w (fun b=> κ.S b∨jR κ l b) (xs.map a.eval ++ us) hs.inv (fun b hb=> by
    rcases hb with hb | ⟨p,hp,hb⟩
    ·exact (hs.st b hb).1
    ·obtain ⟨i,hi⟩:=hrows p hp
     exact (hs.own p.1 p.2 _ b hi hb).2) (by simpa using hr)
   unfold Oper.wp
   rw [hrun]
   refine Calls.mono hc ?_
   rintro e w' ⟨y,S',bs,rfl,hbel,hS',hres,hap,hown⟩
   show After w0 A κ o v m' a (a.put o.dst y) w'
   have hz:=hbel.size
   dsimp only at h
   cases hsc:scalar x
   ·rw [hsc] at h
    simp only [cond_false] at h
    obtain ⟨q1,q2⟩:=hs.grow hbel (S':=fun b=> κ.S b∨(S' b∧κ.w.heap.size≤b)) (fun b hb=> Or.inl hb) (fun b hb=> by
     rcases hb with hb | ⟨hb,hge⟩
     ·exact Or.inl hb
     ·exact Or.inr ⟨hge,(hS' b hb).1⟩)
    obtain ⟨m1,S1,r1,r2,r3,r4,r5⟩:=Ir l _ m _ v m' q1 h
    have hsub:∀b,S' b→S1 b:=by
     intro b hb
     rw [r3 b]
     rcases (hS' b hb).2 with (hS | hS) | hge
     ·exact Or.inl (Or.inl hS)
     ·exact Or.inr hS
     ·exact Or.inl (Or.inr ⟨hb,hge⟩)
    obtain ⟨m2,κ2,yy,t1,t2,t3,t4,t5⟩:=Iu r1 (hres.mono hsub) hap (fun c hc=> by
     obtain ⟨o1,o2,o3⟩:=hown c hc
     refine ⟨Or.inl (Nat.le_trans hs.below.size o1),o2,fun hS=> ?_,fun s g i hi hb=> ?_⟩
     ·have hS:=(r3 c).1 hS
      rcases hS with (hS | ⟨hS,_⟩) | ⟨p,hp,hS⟩
      ·have:=(hs.st c hS).1;omega
      ·exact o3 hS
      ·obtain ⟨i,hi⟩:=hrows p hp
       have:=(hs.own p.1 p.2 _ c hi hS).2
       omega
     ·obtain ⟨i',hi'⟩:=r4 s g i hi
      have:=(hs.own s g i' c hi' hb).2
      omega) r5
    obtain ⟨rfl,rfl⟩:=bQ t5
    exact ⟨κ2,t3,t1,q2.trans (r2.trans t2),y,rfl,t4⟩
   ·rw [hsc] at h
    simp only [cond_true] at h
    obtain ⟨q1,q2⟩:=hs.grow hbel (S':=κ.S) (fun b hb=> hb) (fun b hb=> Or.inl hb)
    obtain ⟨m2,κ2,yy,t1,t2,t3,t4,t5⟩:=Iu q1 (Sr hsc hres) hap (fun c hc=> by
     obtain ⟨o1,o2,o3⟩:=hown c hc
     refine ⟨Or.inl (Nat.le_trans hs.below.size o1),o2,fun hS=> ?_,fun s g i hi hb=> ?_⟩
     ·have:=(hs.st c hS).1;omega
     ·have:=(hs.own s g i c hi hb).2
      omega) h
    obtain ⟨rfl,rfl⟩:=bQ t5
    exact ⟨κ2,t3,t1,q2.trans t2,y,rfl,t4⟩
 ·cases h
theorem aaY (hT:zy P T) (heq:∀t,(T t).eqs=true→(T t).known=true) (hF:∀f args r,F f args r→vM w0.dr P f args r) {base:Nat} (hs:gG w0 A m κ) (he:bM κ env a.tmps) (h:(iL T base env o).Runs F m v m'):
  o.wp P a κ.w (fun a' w'=> After w0 A κ o v m' a a' w') Q:=by
 unfold iL at h
 split at h
 ·rename_i x ho
  exact O4 hs he (by unfold execOp;rw [ho];rfl) h
 ·rename_i x ho
  exact O4 hs he (by unfold execOp;rw [ho];rfl) h
 ·rename_i ho;exact aaU hs he ho h
 ·rename_i ho;exact XD hT hs ho h
 ·rename_i ho;exact aeV hs he ho h
 ·rename_i ho
  split at h
  ·rename_i hk;exact SC hT hs he ho hk h
  ·cases h
 ·rename_i ho;exact aaV hT hs he ho h
 ·rename_i ho;exact XF hT hs he ho h
 ·rename_i op t x y yt ho
  exact aeW hT hs he ho h (heq _)
 ·rename_i ho;exact ajD hs he ho h
 ·rename_i ho;exact XH hT hs he ho h
 ·rename_i ho;exact XI hT hs he ho h
 ·rename_i ho;exact O5 hs he ho h
 ·rename_i ho;exact aeX hT hs he ho h
 ·rename_i fv xs ts ho
  cases hb:Nat.beq (qI T fv) 0
  ·rw [hb] at h;cases h
  ·rw [hb] at h;exact aaX (fun f args r q=> hF f args r q) hs he ho h
 ·cases h
end
end
section
open Go.RowKit
def Holds (w0:Start) (A:Nat→Prop) (nt:Nat) (R:fJ→Prop) (a:Act) (w:World):Prop:=∃st κ,κ.w=w∧gG w0 A st.m κ∧bM κ st.env a.tmps∧a.tmps.size=nt∧a.defers= []∧R st
theorem Holds.mono {w0:Start} {A:Nat→Prop} {nt:Nat} {R R':fJ→Prop} {a:Act} {w:World} (h:Holds w0 A nt R a w) (hr:∀st,R st→R' st):Holds w0 A nt R' a w:=
 let ⟨st,κ,h1,h2,h3,h4,h5,h6⟩:=h
 ⟨st,κ,h1,h2,h3,h4,h5,hr st h6⟩
def Lift (w0:Start) (A:Nat→Prop) (nt:Nat) (Q:Ex→fJ→Prop):Exit→Act→World→Prop
 | .normal,a,w=> Holds w0 A nt (Q .normal) a w
 | .exit i,a,w=> Holds w0 A nt (Q (.exit i)) a w
 | .ret,a,w=> Holds w0 A nt (Q .ret) a w
 | _,_,_=> False
theorem iW (a:Act) (dst:Option Tmp) (x:Value):(a.put dst x).tmps.size=a.tmps.size:=by
 cases dst <;> simp [Act.put]
theorem put_defers (a:Act) (dst:Option Tmp) (x:Value):(a.put dst x).defers=a.defers:=by
 cases dst <;> rfl
theorem bM.put {κ:Cx} {env:Nat→Option AV} {a:Act} {o:Oper} {v:AV} {x:Value} {nt:Nat} (h:bM κ env a.tmps) (hn:a.tmps.size=nt) (hd:jw nt o=true) (hx:Rel κ v x):bM κ (aZ env o.dst v) (a.put o.dst x).tmps:=by
 unfold jw at hd
 cases hdst:o.dst with
 | none=> exact h
 | some d=>
  rw [hdst] at hd
  have hd:d < nt:=Nat.lt_of_succ_le (Nat.le_of_ble_eq_true hd)
  intro t u ht
  simp only [aZ,jI,dP] at ht
  by_cases htd:t=d
  ·subst htd
   simp at ht
   subst ht
   exact ⟨x,by simp [Act.put,hn,hd],hx⟩
  ·simp [htd] at ht
   obtain ⟨y,hy,hr⟩:=h t u ht
   refine ⟨y,?_,hr⟩
   simp only [Act.put]
   rw [Array.getElem?_setIfInBounds_ne (Ne.symm htd)]
   exact hy
section
variable {P : Program} {T : Nat → TI} {base nt : Nat} {F : FuncId → List AV → AV → Prop} {w0 : Start} {A : Nat → Prop}
theorem IB (κ:Cx):Rel κ (.bH []) undef:= .bH rfl fun j c v hc=> by simp at hc
theorem XJ {κ:Cx} {env:Nat→Option AV} {tmps:Array Value} {t:Nat} {b:Bool} (he:bM κ env tmps) (ht:env t=some (.d (.v (.bool b)))):bM κ (jI env t (some (.kb b))) tmps:=by
 intro x v hx
 simp only [jI,dP] at hx
 by_cases h:x=t
 ·subst h
  simp at hx
  subst hx
  obtain ⟨y,hy,hr⟩:=he x _ ht
  have:=hr.val
  subst this
  exact ⟨_,hy,.kb b⟩
 ·simp [h] at hx
  exact he x v hx
theorem XK (hT:zy P T) (heq:∀t,(T t).eqs=true→(T t).known=true) (hF:∀f args r,F f args r→vM w0.dr P f args r) {ops:Array Oper} {o:Oper} {r:List Oper} {K:fJ→Prop} {N:Act→World→Prop} {Q:Exit→Act→World→Prop} {st:fJ} {κ:Cx} {a:Act}
  (hs:gG w0 A st.m κ) (he:bM κ st.env a.tmps) (hn:a.tmps.size=nt) (hd:a.defers= []) (h:bF T base nt F ops.toList (o::r) st K)
  (hN:∀st' κ' a',gG w0 A st'.m κ'→bM κ' st'.env a'.tmps→a'.tmps.size=nt→a'.defers= []→bF T base nt F ops.toList r st' K→N a' κ'.w):
  if Region.wanted o (yielded ops a.tmps) then o.wp P a κ.w N Q else N (a.put o.dst undef) κ.w:=by
 unfold bF at h
 cases hdo:jw nt o
 ·rw [hdo] at h;exact h.elim
 ·rw [hdo] at h
  simp only [Bool.not_true,cond_false] at h
  have exec:∀env,bM κ env a.tmps→(iL T base env o).wp F st.m (fun v m=> bF T base nt F ops.toList r ⟨aZ env o.dst v,m⟩ K)→o.wp P a κ.w N Q:=by
   intro env he h
   obtain ⟨v,m',hr,hk⟩:=Step.Vz _ _ _ h
   refine Oper.wp_mono ?_ (aaY hT heq hF hs he hr)
   rintro a' w' ⟨κ',rfl,h1,h2,x,rfl,hx⟩
   exact hN ⟨aZ env o.dst v,m'⟩ κ' _ h1 ((he.mono h2).put hn hdo hx) (by rw [iW,hn]) (by rw [put_defers,hd]) hk
  have skip:∀env,bM κ env a.tmps→bF T base nt F ops.toList r ⟨aZ env o.dst (.bH []),st.m⟩ K→N (a.put o.dst undef) κ.w:=fun env he h=>
   hN ⟨aZ env o.dst (.bH []),st.m⟩ κ _ hs (he.put hn hdo (IB κ)) (by rw [iW,hn]) (by rw [put_defers,hd]) h
  cases hg:o.guard with
  | none=>
   rw [hg] at h
   have:Region.wanted o (yielded ops a.tmps)=true:=by simp [Region.wanted,hg]
   rw [if_pos this]
   exact exec _ he h
  | some p=>
   obtain ⟨j,want⟩:=p
   rw [hg] at h
   dsimp only at h
   cases hj:oN ops.toList j with
   | none=> rw [hj] at h;exact h.elim
   | some t=>
    rw [hj] at h
    dsimp only at h
    have hy:∀x,a.tmps[t]? =some x→yielded ops a.tmps j=match x with | .bool b=> some b | _=> none:=by
     intro x hx
     unfold yielded
     have hb:(ops[j]?).bind (·.dst)=some t:=by
      unfold oN at hj
      rw [←Array.getElem?_toList]
      cases hq:ops.toList[j]? with
      | none=> rw [hq] at hj;cases hj
      | some q=> rw [hq] at hj;exact hj
     rw [hb]
     simp only [Option.bind_some,hx]
     cases x <;> rfl
    have go:∀(b:Bool) (env:Nat→Option AV),bM κ env a.tmps→a.tmps[t]? =some (.bool b)→(bif want then (bif b then (iL T base env o).wp F st.m (fun v m=> bF T base nt F ops.toList r ⟨aZ env o.dst v,m⟩ K) else bF T base nt F ops.toList r ⟨aZ env o.dst (.bH []),st.m⟩ K)
      else (bif b then bF T base nt F ops.toList r ⟨aZ env o.dst (.bH []),st.m⟩ K else (iL T base env o).wp F st.m (fun v m=> bF T base nt F ops.toList r ⟨aZ env o.dst v,m⟩ K)))→
      if Region.wanted o (yielded ops a.tmps) then o.wp P a κ.w N Q else N (a.put o.dst undef) κ.w:=by
     intro b env he hx h
     have hy:=hy _ hx
     dsimp only at hy
     cases want <;> cases b
     ·have:Region.wanted o (yielded ops a.tmps)=true:=by simp [Region.wanted,hg,hy]
      rw [if_pos this]
      exact exec env he h
     ·have:Region.wanted o (yielded ops a.tmps)=false:=by simp [Region.wanted,hg,hy]
      rw [this]
      exact skip env he h
     ·have:Region.wanted o (yielded ops a.tmps)=false:=by simp [Region.wanted,hg,hy]
      rw [this]
      exact skip env he h
     ·have:Region.wanted o (yielded ops a.tmps)=true:=by simp [Region.wanted,hg,hy]
      rw [if_pos this]
      exact exec env he h
    split at h
    ·rename_i hb
     obtain ⟨x,hx,hr⟩:=he t _ hb
     cases hr
     exact go true _ he hx (by cases want <;> exact h)
    ·rename_i hb
     obtain ⟨x,hx,hr⟩:=he t _ hb
     cases hr
     exact go false _ he hx (by cases want <;> exact h)
    ·rename_i b hb
     obtain ⟨x,hx,hr⟩:=he t _ hb
     have:=hr.val
     subst this
     have he':=XJ he hb
     cases b
     ·exact go false _ he' hx (by cases want <;> exact h.2 rfl)
     ·exact go true _ he' hx (by cases want <;> exact h.1 rfl)
    ·rename_i hb
     obtain ⟨x,hx,hr⟩:=he t _ hb
     obtain ⟨vs,rfl,_⟩:=hr.Kt
     have hy:=hy _ hx
     dsimp only at hy
     have:Region.wanted o (yielded ops a.tmps)=false:=by simp [Region.wanted,hg,hy]
     rw [this]
     exact skip _ he h
    ·exact h.elim
theorem BQ (hT:zy P T) (heq:∀t,(T t).eqs=true→(T t).known=true) (hF:∀f args r,F f args r→vM w0.dr P f args r) {ops:Array Oper} {K:fJ→Prop} {Q:Exit→Act→World→Prop} (hQ:∀a w,Holds w0 A nt K a w→Q .normal a w):
  ∀(l:List Oper) (st:fJ) (κ:Cx) (a:Act),gG w0 A st.m κ→bM κ st.env a.tmps→a.tmps.size=nt→a.defers= []→bF T base nt F ops.toList l st K→wpList P ops Q l a κ.w
 | [],st,κ,a,hs,he,hn,hd,h=> hQ a κ.w ⟨st,κ,rfl,hs,he,hn,hd,h⟩
 | o::r,st,κ,a,hs,he,hn,hd,h=> by
  refine wpList_step fun K' hK'=> ?_
  exact XK hT heq hF hs he hn hd h fun st' κ' a' h1 h2 h3 h4 h5=> hK' _ _ (BQ hT heq hF hQ r st' κ' a' h1 h2 h3 h4 h5)
end
def Cx.ren (κ:Cx) (σ:List (Nat×Nat×Nat)):Cx:=⟨fun s _=> κ.φ (sig σ s).1 (sig σ s).2,fun _=> 1,κ.S,κ.w⟩
theorem BR {κ:Cx} {σ:List (Nat×Nat×Nat)} {v:AV} {x:Value} (hl:OV v=true) (h:Rel κ (Ap σ v) x):Rel (κ.ren σ) v x:=by
 have one:∀{g:Nat},Nat.beq g 1=true→g≤1:=fun hg=> by rw [Nat.eq_of_beq_eq_true hg];exact Nat.le_refl _
 cases v with
 | lp s g o=> cases h with | lp hg hb=> exact .lp (one hl) hb
 | rp s g i o=>
  cases h with
  | rp hg hb=> exact Rel.rp (κ:=κ.ren σ) (s:=s) (g:=g) (i:=i) (o:=o) (one hl) hb
 | row s g n=>
  cases h with
  | row0 A' hg hb hz=> exact .row0 A' (one hl) hb hz
  | row hg hb=> exact Rel.row (κ:=κ.ren σ) (s:=s) (g:=g) (one hl) hb
 | sub s g o n=>
  cases h with
  | BF A' hg hb hz=> exact .BF A' (one hl) hb hz
  | sub A' hg hb hA hn=> exact Rel.sub (κ:=κ.ren σ) (s:=s) (g:=g) A' (one hl) hb hA hn
 | d y=> cases h with | d h=> exact .d h
 | nl=> cases h with | nl A'=> exact .nl A'
 | fp cs=> cases h with | fp vs hb hc hr=> exact .fp vs hb hc hr
 | mp s g=> cases h with | mp hg hb=> exact .mp (one hl) hb
 | _=> cases hl
theorem BU {κ:Cx} {σ:List (Nat×Nat×Nat)} {cs:List AV} {vs:Array Value} (hl:cs.all OV=true) (hn:vs.size=(cs.map (Ap σ)).length) (h:∀(j:Nat) (c:AV) (v:Value),(cs.map (Ap σ))[j]? =some c→vs[j]? =some v→Rel κ c v):
  vs.size=cs.length∧∀(j:Nat) (c:AV) (v:Value),cs[j]? =some c→vs[j]? =some v→Rel (κ.ren σ) c v:=
 ⟨by simpa using hn,fun j c v hc hv=> BR (List.all_eq_true.1 hl c (List.mem_of_getElem? hc)) (h j _ v (by rw [List.getElem?_map,hc];rfl) hv)⟩
theorem aaZ {κ:Cx} {σ:List (Nat×Nat×Nat)} {v:AV} {x:Value} (hl:Xw v=true) (h:Rel κ (aaM σ v) x):Rel (κ.ren σ) v x:=by
 have h1:= @BR κ σ v x
 cases v with
 | agg cs=> cases h with | agg hn h=> exact let ⟨q1,q2⟩:=BU hl hn h;.agg q1 q2
 | bH cs=> cases h with | bH hn h=> exact let ⟨q1,q2⟩:=BU hl hn h;.bH q1 q2
 | fn f cs=> cases h with | fn hn h=> exact let ⟨q1,q2⟩:=BU hl hn h;.fn q1 q2
 | _=> exact h1 hl h
theorem IC {α β:Type} {f:α→β} {o:Option α} {y:β} (h:G9 f o=some y):∃x,o=some x∧f x=y:=by
 cases o with
 | none=> cases h
 | some x=> exact ⟨x,rfl,by injection h⟩
theorem O6 {w0:Start} {A:Nat→Prop}:∀(fl:List (Nat×Nat)) (m:Mem) (κ:Cx) (m':Mem),gG w0 A m κ→Sl m fl=some m'→∃κ',gG w0 A m' κ'∧κ.Le κ'∧κ'.w=κ.w
 | [],m,κ,m',hs,h=> by
  injection h with h
  subst h
  exact ⟨κ,hs,.refl κ,rfl⟩
 | (s,g)::r,m,κ,m',hs,h=> by
  simp only [Sl] at h
  split at h
  ·rename_i sz es ro hi
   obtain ⟨q1,q2⟩:=hs.nV hi
   obtain ⟨κ',r1,r2,r3⟩:=O6 r _ _ m' q1 h
   exact ⟨κ',r1,q2.trans r2,r3.trans rfl⟩
  ·cases h
theorem O7 {σ:List (Nat×Nat×Nat)}:∀{M:List (Nat×Inst)},Kr σ M=true→∀s s' i i',og M s=some i→og M s'=some i'→(sig σ s).1=(sig σ s').1→(sig σ s).2=(sig σ s').2→s=s'
 | [],_,s,s',i,i',h,_,_,_=> by cases h
 | (l,q)::M,hs,s,s',i,i',h,h',e1,e2=> by
  simp only [Kr,Bool.and_eq_true] at hs
  have mem:∀{M:List (Nat×Inst)} {t:Nat} {j:Inst},og M t=some j→∃p∈M,p.1=t:=by
   intro M
   induction M with
   | nil=> intro t j h;cases h
   | cons p M ih=>
    obtain ⟨pl,pi⟩:=p
    intro t j h
    simp only [og,dP] at h
    by_cases ht:t=pl
    ·exact ⟨(pl,pi),by simp,ht.symm⟩
    ·simp [ht] at h
     obtain ⟨p,hp,e⟩:=ih h
     exact ⟨p,by simp [hp],e⟩
  have far:∀{t:Nat} {j:Inst},og M t=some j→¬((sig σ l).1=(sig σ t).1∧(sig σ l).2=(sig σ t).2):=by
   intro t j h
   obtain ⟨p,hp,rfl⟩:=mem h
   have:=List.all_eq_true.1 hs.1 p hp
   simp only [dP,Bool.not_eq_true',Bool.and_eq_false_imp,decide_eq_true_eq,decide_eq_false_iff_not] at this
   exact fun h=> this h.1 h.2
  simp only [og,dP] at h h'
  by_cases hl:s=l <;> by_cases hl':s'=l
  ·rw [hl,hl']
  ·simp [hl'] at h'
   subst hl
   exact absurd ⟨e1,e2⟩ (far h')
  ·simp [hl] at h
   subst hl'
   exact absurd ⟨e1.symm,e2.symm⟩ (far h)
  ·simp [hl] at h
   simp [hl'] at h'
   exact O7 hs.2 s s' i i' h h' e1 e2
theorem O8 {σ:List (Nat×Nat×Nat)}:∀{M:List (Nat×Inst)},Kr σ M=true→aeP σ=true
 | [],h=> h
 | (l,q)::M,h=> by
  simp only [Kr,Bool.and_eq_true] at h
  exact O8 h.2
theorem VD:∀{σ:List (Nat×Nat×Nat)},aeP σ=true→∀x,1000000 < x→sig σ x=(x,1)
 | [],_,x,_=> rfl
 | (l,p)::r,h,x,hx=> by
  unfold aeP at h
  rw [List.all_cons,Bool.and_eq_true] at h
  have h1:=Nat.le_of_ble_eq_true h.1
  have hne:x≠l:=by
   have h1:l≤1000000:=h1
   omega
  simp only [sig,dP,hne,decide_false,cond_false]
  exact VD h.2 x hx
section
variable {w0 : Start} {A : Nat → Prop} {m : Mem} {κ : Cx}
theorem IE (hs:gG w0 A m κ) {v x:AV} {y:Value} (h:Rel κ x y):Rel κ (Vx m v x) y:=by
 unfold Vx
 split
 ·split
  ·rename_i s g n
   cases h with
   | row0 A' hg hb hz=> exact .BF A' hg hb hz
   | row hg hb=> exact Rel.sub (κ:=κ) (s:=s) (g:=g) (o:=0) _ hg hb (Or.inr (by simp)) (by omega)
  ·exact h
 ·split
  ·rename_i s g n
   split
   ·rename_i sz es hi
    exact .d (oP hs hi h (fun _ h=> h) fun b hb=> hs.isS s g _ b hi hb rfl).1
   ·exact h
  ·rename_i s g o n
   split
   ·rename_i sz es hi
    exact .d (wo hs hi h (fun _ h=> h) fun b hb=> hs.isS s g _ b hi hb rfl).1
   ·exact h
  ·cases h with
   | nl A'=> exact .d (.fz0 A' 0 fun _=> rfl)
  ·exact h
 ·exact h
theorem sU (hs:gG w0 A m κ):∀(vs xs:List AV) (ys:List Value),(∀(j:Nat) (c:AV) (y:Value),xs[j]? =some c→ys[j]? =some y→Rel κ c y)→(qR m vs xs).length=xs.length∧∀(j:Nat) (c:AV) (y:Value),(qR m vs xs)[j]? =some c→ys[j]? =some y→Rel κ c y
 | [],xs,ys,h=> ⟨by cases xs <;> rfl,fun j c y hc hy=> h j c y (by cases xs <;> exact hc) hy⟩
 | v::vs,[],ys,h=> ⟨rfl,fun j c y hc hy=> by simp [qR] at hc⟩
 | v::vs,x::xs,ys,h=> by
  cases ys with
  | nil=> exact ⟨by simp [qR,(sU hs vs xs [] (fun j c y _ hy=> by simp at hy)).1],fun j c y _ hy=> by simp at hy⟩
  | cons y0 ys=>
   obtain ⟨q1,q2⟩:=sU hs vs xs ys fun j c y hc hy=> h (j + 1) c y (by simpa using hc) (by simpa using hy)
   refine ⟨by simp [qR,q1],fun j c y hc hy=> ?_⟩
   cases j with
   | zero=>
    simp [qR] at hc hy
    subst hc hy
    exact IE hs (h 0 x _ rfl rfl)
   | succ j=> exact q2 j c y (by simpa [qR] using hc) (by simpa using hy)
theorem XL (hs:gG w0 A m κ) {v x:AV} {y:Value} (h:Rel κ x y):Rel κ (BA m v x) y:=by
 unfold BA
 split
 ·rename_i vs
  split
  ·rename_i xs
   cases h with
   | @agg _ ys hl h=>
    obtain ⟨q1,q2⟩:=sU hs vs xs ys.toList fun j c y hc hy=> h j c y hc (by simpa using hy)
    exact .agg (by rw [hl,q1]) fun j c y hc hy=> q2 j c y hc (by simpa using hy)
  ·exact h
 ·exact IE hs h
end
theorem O9 {σ:List (Nat×Nat×Nat)} {st:fJ}:∀{E:List (Nat×AV)},oO σ st E→∀t v,Vw E t=some v→Xw v=true∧G9 (BA st.m v) (iD (st.env t))=some (aaM σ v)
 | [],_,t,v,h=> by cases h
 | (t',v')::E,hc,t,v,h=> by
  simp only [oO] at hc
  simp only [Vw,dP] at h
  cases hl:Xw v'
  ·rw [hl] at hc;exact hc.elim
  ·rw [hl] at hc
   by_cases ht:t=t'
   ·subst ht
    simp at h
    subst h
    exact ⟨hl,hc.1⟩
   ·simp [ht] at h
    exact O9 hc.2 t v h
theorem Pg {σ:List (Nat×Nat×Nat)} {st:fJ}:∀{M:List (Nat×Inst)},vY σ st M→∀s i,og M s=some i→Xx i=true∧G9 (BD st.m i) (st.m.at_ (sig σ s).1 (sig σ s).2)=some (Sj σ i)
 | [],_,t,v,h=> by cases h
 | (t',v')::E,hc,t,v,h=> by
  simp only [vY] at hc
  simp only [og,dP] at h
  cases hl:Xx v'
  ·rw [hl] at hc;exact hc.elim
  ·rw [hl] at hc
   by_cases ht:t=t'
   ·subst ht
    simp at h
    subst h
    exact ⟨hl,hc.1⟩
   ·simp [ht] at h
    exact Pg hc.2 t v h
theorem BX {w0:Start} {A:Nat→Prop} {st:fJ} {κ:Cx} {tmps:Array Value} {E:List (Nat×AV)} {M:List (Nat×Inst)} (hs:gG w0 A st.m κ) (he:bM κ st.env tmps) (h:Enters st E M):
  ∃κ',κ'.w=κ.w∧gG w0 A (uh E M).m κ'∧bM κ' (uh E M).env tmps:=by
 obtain ⟨fl,σ,h⟩:=h
 split at h
 rotate_left
 ·exact h.elim
 rename_i mf hfl
 obtain ⟨κ1,hs1,hle1,hw1⟩:=O6 fl _ κ mf hs hfl
 have he1:=he.mono hle1
 rw [←hw1]
 obtain ⟨hsep,hE,hM⟩:=h
 have inst:∀s g i,(uh E M).m.at_ s g=some i→og M s=some i:=by
  intro s g i hi
  simp only [uh,dP] at hi
  by_cases hg:g=1
  ·simpa [hg] using hi
  ·simp [hg] at hi
 have mem:∀s g i,(uh E M).m.at_ s g=some i→g=1∧Xx i=true∧∃j,mf.at_ (sig σ s).1 (sig σ s).2=some j∧BD mf i j=Sj σ i:=by
  intro s g i hi
  have hg:g=1:=by
   simp only [uh,dP] at hi
   by_cases hg:g=1
   ·exact hg
   ·simp [hg] at hi
  obtain ⟨q1,q2⟩:=Pg hM s i (inst s g i hi)
  exact ⟨hg,q1,IC q2⟩
 have rwi:∀i:Inst,(Sj σ i).Xy=i.Xy:=fun i=> by cases i <;> rfl
 have rwv:∀i j:Inst,(BD mf i j).Xy=j.Xy:=fun i j=> by cases i <;> cases j <;> rfl
 have rwj:∀i j:Inst,BD mf i j=Sj σ i→j.Xy=i.Xy:=fun i j h=> by rw [←rwv i j,h,rwi]
 refine ⟨κ1.ren σ,rfl,⟨hs1.below,rfl,?_,?_,?_,?_,?_,?_,hs1.st,hs1.args,fun i hi=> ⟨by
  show κ1.φ (sig σ (1000001 + i)).1 (sig σ (1000001 + i)).2=_
  rw [VD (O8 hsep) _ (by omega)]
  exact (hs1.pin i hi).1,Nat.le_refl 1⟩⟩,fun t v ht=> ?_⟩
 ·intro s g i hi
  obtain ⟨rfl,hl,j,h1,h2⟩:=mem s g i hi
  have hok:=hs1.ok _ _ _ h1
  show qU (κ1.ren σ) (κ1.φ (sig σ s).1 (sig σ s).2) i
  cases i with
  | box cs=>
   cases j with
   | rows=> cases h2
   | qP=> cases h2
   | box xs=>
    obtain ⟨b,T,vs,hb,hh,hn,hr⟩:=hok
    have h2:Inst.box (qR mf cs xs)= .box (cs.map (Ap σ)):=h2
    injection h2 with h2
    obtain ⟨q1,q2⟩:=sU hs1 cs xs vs.toList fun j c y hc hy=> (hr j c y hc (by simpa using hy)).1
    have hlen:xs.length=cs.length:=by rw [←q1,h2,List.length_map]
    refine ⟨b,T,vs,hb,hh,by rw [hn,hlen],fun j c v hc hv=> ?_⟩
    have hj:j < xs.length:=by rw [hlen];exact (List.getElem?_eq_some_iff.1 hc).1
    refine ⟨BR (List.all_eq_true.1 hl c (List.mem_of_getElem? hc)) (q2 j _ v (by rw [h2,List.getElem?_map,hc];rfl) (by simpa using hv)),(hr j xs[j] v (List.getElem?_eq_getElem hj) hv).2⟩
  | rows sz es ro=>
   cases j with
   | box=> cases h2
   | qP=> cases h2
   | rows sz' es' ro'=>
    have h2:Inst.rows sz' es' ro'= .rows sz es ro:=h2
    rw [h2] at hok
    exact hok
  | qP ck es=>
   cases j with
   | box=> cases h2
   | rows=> cases h2
   | qP ck' es'=>
    have h2:Inst.qP ck' es'= .qP ck es:=h2
    rw [h2] at hok
    exact hok
 ·intro s g i hi
  obtain ⟨rfl,_,_⟩:=mem s g i hi
  exact Nat.le_refl _
 ·intro s g i b hi hb
  obtain ⟨rfl,_,j,h1,h2⟩:=mem s g i hi
  exact hs1.own _ _ _ b h1 hb
 ·intro s g i b hi hb hr
  obtain ⟨rfl,_,j,h1,h2⟩:=mem s g i hi
  exact hs1.notS _ _ _ b h1 hb (by rw [rwj i j h2];exact hr)
 ·intro s g i b hi hb hr
  obtain ⟨rfl,_,j,h1,h2⟩:=mem s g i hi
  exact hs1.isS _ _ _ b h1 hb (by rw [rwj i j h2];exact hr)
 ·intro s g i s' g' i' b hi hi' hb hb' hr
  obtain ⟨rfl,_,j,h1,h2⟩:=mem s g i hi
  obtain ⟨rfl,_,j',h1',h2'⟩:=mem s' g' i' hi'
  have:=hs1.sep _ _ _ _ _ _ b h1 h1' hb hb' (by rw [rwj i j h2];exact hr)
  exact ⟨O7 hsep s s' i i' (inst _ _ _ hi) (inst _ _ _ hi') this.1 this.2,rfl⟩
 ·obtain ⟨hl,h1⟩:=O9 hE t v ht
  obtain ⟨q,hq,h1⟩:=IC h1
  dsimp only at hq h1
  cases hq':st.env t with
  | none=> rw [hq'] at hq;cases hq
  | some q'=>
   rw [hq'] at hq
   injection hq with hq
   obtain ⟨x,hx,hr⟩:=he1 t _ hq'
   refine ⟨x,hx,aaZ hl ?_⟩
   rw [←h1,←hq]
   exact XL hs1 hr.unk
end
section
open Go.RowKit
def aX:AV→List (Nat×Nat)
 | .lp s g _=> [(s,g)]
 | .rp s g _ _=> [(s,g)]
 | .row s g _=> [(s,g)]
 | .sub s g _ _=> [(s,g)]
 | .mp s g=> [(s,g)]
 | _=> []
def Step.Fits (R:Nat→Nat→Prop) (Z:Nat→Prop):Step→Prop
 | .ret _=> True
 | .Am s g k=> R s g∧∀c:List AV,(∀p∈c.flatMap aX,R p.1 p.2)→(k c).Fits R Z
 | .yC s g k=> R s g∧∀c,(k c).Fits R Z
 | .OO s g k=> R s g∧∀c e,(k c e).Fits R Z
 | .RZ _ _ _=> False
 | .OQ s g _ k=> R s g∧k.Fits R Z
 | .wr _ _ _ _=> False
 | .new s _ k=> Z s∧∀g,(k g).Fits R Z
 | .app _ _ _ _ _=> False
 | .nV s g k=> R s g∧k.Fits R Z
 | .elem _ _ k=> ∀c,(k c).Fits R Z
 | .call _ _ k=> ∀r,(k r).Fits R Z
 | .chk _ k=> k.Fits R Z
 | .br _ x y=> x.Fits R Z∧y.Fits R Z
 | .fail=> True
inductive Eff where
 | add (s:Nat) (i:Inst)
 | nV (s g:Nat)
def kK:Option Inst→Option Inst
 | some (.rows sz es _)=> some (.rows sz es true)
 | i=> i
def Eff.ap:Eff→Mem→Mem
 | .add s i,m=> m.add s i
 | .nV s g,m=> {m with at_:=fun x y=> if x=s∧y=g then kK (m.at_ x y) else m.at_ x y}
def Ho:List Eff→Mem→Mem
 | [],m=> m
 | e::es,m=> Ho es (e.ap m)
def Eff.In (G:Nat→Nat) (Z:Nat→Prop):Eff→Prop
 | .add s _=> Z s
 | .nV s g=> g≤G s∨Z s
theorem wC {m m':Mem} (h:∀x y,m.at_ x y=m'.at_ x y) (hg:∀x,m.gen x=m'.gen x):m=m':=by
 cases m;cases m'
 simp only [Mem.mk.injEq]
 exact ⟨funext fun x=> funext fun y=> h x y,funext hg⟩
theorem VE {m:Mem} {s g sz:Nat} {es:List (List D)} {ro:Bool} (h:m.at_ s g=some (.rows sz es ro)):m.set s g (some (.rows sz es true))=(Eff.nV s g).ap m:=by
 refine wC (fun x y=> ?_) (fun x=> rfl)
 rw [setAt]
 show _=if x=s∧y=g then kK (m.at_ x y) else m.at_ x y
 split
 ·rename_i hxy
  rw [hxy.1,hxy.2,h]
  rfl
 ·rfl
theorem am7 (e:Eff) (m:Mem) (x y:Nat) (hy:y≤m.gen x):(e.ap m).at_ x y=m.at_ x y∨(e.ap m).at_ x y=kK (m.at_ x y):=by
 cases e with
 | add s i=>
  left
  show (m.add s i).at_ x y=_
  rw [kM,if_neg]
  rintro ⟨rfl,rfl⟩
  omega
 | nV s g=>
  show (if x=s∧y=g then kK (m.at_ x y) else m.at_ x y)=_∨_=kK (m.at_ x y)
  split
  ·right;show (if x=s∧y=g then kK (m.at_ x y) else m.at_ x y)=_;rw [if_pos (by assumption)]
  ·left;rfl
theorem Kw (e:Eff) (m:Mem) (x:Nat):m.gen x≤(e.ap m).gen x:=by
 cases e with
 | add s i=>
  show m.gen x≤(m.add s i).gen x
  rw [jJ]
  split
  ·rename_i h;subst h;omega
  ·exact Nat.le_refl _
 | nV s g=> exact Nat.le_refl _
theorem XM (i:Option Inst):kK (kK i)=kK i:=by
 cases i with
 | none=> rfl
 | some i=> cases i <;> rfl
theorem Ky:∀(es:List Eff) (m:Mem) (x:Nat),m.gen x≤(Ho es m).gen x
 | [],_,_=> Nat.le_refl _
 | e::es,m,x=> Nat.le_trans (Kw e m x) (Ky es (e.ap m) x)
theorem BZ:∀(es:List Eff) (m:Mem) (x y:Nat),y≤m.gen x→kK ((Ho es m).at_ x y)=kK (m.at_ x y)
 | [],_,_,_,_=> rfl
 | e::es,m,x,y,h=> by
  rw [Ho,BZ es (e.ap m) x y (Nat.le_trans h (Kw e m x))]
  rcases am7 e m x y h with h1 | h1
  ·rw [h1]
  ·rw [h1,XM]
theorem qW {G:Nat→Nat} {Z:Nat→Prop}:∀(es:List Eff),(∀e∈es,e.In G Z)→∀(m:Mem) (x:Nat),¬Z x→(Ho es m).gen x=m.gen x
 | [],_,_,_,_=> rfl
 | e::es,h,m,x,hx=> by
  rw [Ho,qW es (fun e' he'=> h e' (by simp [he'])) (e.ap m) x hx]
  have he:=h e (by simp)
  cases e with
  | add s i=>
   show (m.add s i).gen x=_
   rw [jJ,if_neg]
   rintro rfl
   exact hx he
  | nV s g=> rfl
theorem aeY {e f:Eff} {m:Mem} (h:∀s i t j,e= .add s i→f= .add t j→s≠t) (h1:∀s g t j,e= .nV s g→f= .add t j→¬(s=t∧g=m.gen t + 1)) (h2:∀s g t j,f= .nV s g→e= .add t j→¬(s=t∧g=m.gen t + 1)):e.ap (f.ap m)=f.ap (e.ap m):=by
 have aa0:∀(s g t:Nat) (j:Inst),¬(s=t∧g=m.gen t + 1)→(Eff.nV s g).ap ((Eff.add t j).ap m)=(Eff.add t j).ap ((Eff.nV s g).ap m):=by
  intro s g t j hne
  refine wC (fun x y=> ?_) (fun x=> rfl)
  show (if x=s∧y=g then kK ((m.add t j).at_ x y) else (m.add t j).at_ x y)=(((Eff.nV s g).ap m).add t j).at_ x y
  rw [kM,kM]
  show _=(if x=t∧y=m.gen t + 1 then some j else if x=s∧y=g then kK (m.at_ x y) else m.at_ x y)
  by_cases hx:x=s∧y=g
  ·obtain ⟨rfl,rfl⟩:=hx
   rw [if_pos ⟨rfl,rfl⟩,if_neg hne,if_neg hne,if_pos ⟨rfl,rfl⟩]
  ·rw [if_neg hx]
   split
   ·rfl
   ·rfl
 cases e with
 | add s i=>
  cases f with
  | add t j=>
   have hne:=h s i t j rfl rfl
   have g1:(m.add t j).gen s=m.gen s:=by rw [jJ,if_neg hne]
   have g2:(m.add s i).gen t=m.gen t:=by rw [jJ,if_neg (Ne.symm hne)]
   refine wC (fun x y=> ?_) (fun x=> ?_)
   ·show ((m.add t j).add s i).at_ x y=((m.add s i).add t j).at_ x y
    rw [kM,kM,kM,kM,g1,g2]
    by_cases hx:x=s
    ·subst hx
     simp [hne]
    ·simp [hx]
   ·show ((m.add t j).add s i).gen x=((m.add s i).add t j).gen x
    rw [jJ (m:=m.add t j),jJ (m:=m.add s i),g1,g2,jJ,jJ]
    by_cases hx:x=s
    ·subst hx
     simp [hne]
    ·simp [hx]
  | nV t g=> exact (aa0 t g s i (h2 t g s i rfl rfl)).symm
 | nV s g=>
  cases f with
  | add t j=> exact aa0 s g t j (h1 s g t j rfl rfl)
  | nV t q=>
   refine wC (fun x y=> ?_) (fun x=> rfl)
   show (if x=s∧y=g then kK (if x=t∧y=q then kK (m.at_ x y) else m.at_ x y) else if x=t∧y=q then kK (m.at_ x y) else m.at_ x y)=(if x=t∧y=q then kK (if x=s∧y=g then kK (m.at_ x y) else m.at_ x y) else if x=s∧y=g then kK (m.at_ x y) else m.at_ x y)
   by_cases h1:x=s∧y=g
   ·by_cases h2:x=t∧y=q
    ·rw [if_pos h1,if_pos h2,if_pos h2,if_pos h1]
    ·rw [if_pos h1,if_neg h2,if_neg h2,if_pos h1]
   ·by_cases h2:x=t∧y=q
    ·rw [if_neg h1,if_pos h2,if_pos h2,if_neg h1]
    ·rw [if_neg h1,if_neg h2,if_neg h2,if_neg h1]
theorem aeZ {G:Nat→Nat} {Z Z':Nat→Prop} (hd:∀s,Z s→Z' s→False) {e f:Eff} {m:Mem} (hg:∀s,G s≤m.gen s) (he:e.In G Z) (hf:f.In G Z'):e.ap (f.ap m)=f.ap (e.ap m):=by
 refine aeY ?_ ?_ ?_
 ·rintro s i t j rfl rfl rfl
  exact hd s he hf
 ·rintro s g t j rfl rfl ⟨rfl,rfl⟩
  rcases he with he | he
  ·have:=hg s;omega
  ·exact hd s he hf
 ·rintro s g t j rfl rfl ⟨rfl,rfl⟩
  rcases hf with hf | hf
  ·have:=hg s;omega
  ·exact hd s he hf
theorem zB {G:Nat→Nat} {Z Z':Nat→Prop} (hd:∀s,Z s→Z' s→False) (e:Eff) (he:e.In G Z):∀(es:List Eff) (m:Mem),(∀f∈es,f.In G Z')→(∀s,G s≤m.gen s)→Ho es (e.ap m)=e.ap (Ho es m)
 | [],_,_,_=> rfl
 | f::es,m,h,hg=> by
  rw [Ho,Ho,←aeZ hd hg he (h f (by simp))]
  exact zB hd e he es (f.ap m) (fun f' hf'=> h f' (by simp [hf'])) (fun s=> Nat.le_trans (hg s) (Kw f m s))
theorem Ph {G:Nat→Nat} {Z Z':Nat→Prop} (hd:∀s,Z s→Z' s→False):∀(a b:List Eff) (m:Mem),(∀f∈a,f.In G Z)→(∀f∈b,f.In G Z')→(∀s,G s≤m.gen s)→Ho b (Ho a m)=Ho a (Ho b m)
 | [],b,m,_,_,_=> rfl
 | e::a,b,m,ha,hb,hg=> by
  rw [Ho,Ho,Ph hd a b (e.ap m) (fun f hf=> ha f (by simp [hf])) hb (fun s=> Nat.le_trans (hg s) (Kw e m s)),zB hd e (ha e (by simp)) b m hb hg]
def qX (m:Mem):Prop:=∀s g i,m.at_ s g=some i→g≤m.gen s
theorem qX.add {m:Mem} (h:qX m) (s:Nat) (i:Inst):qX (m.add s i):=by
 intro x y j hj
 rw [kM] at hj
 rw [jJ]
 split at hj
 ·rename_i hxy
  rw [if_pos hxy.1,hxy.2]
  exact Nat.le_refl _
 ·have:=h x y j hj
  split
  ·rename_i hx;subst hx;omega
  ·exact this
theorem qX.set {m:Mem} (h:qX m) {s g:Nat} {i:Inst} (hi:m.at_ s g=some i) (j:Option Inst):qX (m.set s g j):=by
 intro x y k hk
 rw [setAt] at hk
 split at hk
 ·rename_i hxy
  rw [hxy.1,hxy.2]
  exact h s g i hi
 ·exact h x y k hk
theorem Cb {i:Option Inst} {cs:List AV} (h:kK i=kK (some (.box cs))):i=some (.box cs):=by
 cases i with
 | none=> cases h
 | some i=> cases i with
  | rows=> cases h
  | _=> exact h
theorem aa1 {i:Option Inst} {ck:CK} {es:List (Value×D)} (h:kK i=kK (some (.qP ck es))):i=some (.qP ck es):=by
 cases i with
 | none=> cases h
 | some i=>
  cases i with
  | rows sz es ro=> cases h
  | _=> exact h
theorem yL {i:Option Inst} {sz:Nat} {es:List (List D)} {ro:Bool} (h:kK i=kK (some (.rows sz es ro))):∃ro',i=some (.rows sz es ro'):=by
 cases i with
 | none=> cases h
 | some i=> cases i with
  | box=> cases h
  | qP=> cases h
  | rows sz' es' ro'=>
   simp only [kK,Option.some.injEq,Inst.rows.injEq,and_true] at h
   obtain ⟨rfl,rfl⟩:=h
   exact ⟨ro',rfl⟩
def RCl (R:Nat→Nat→Prop) (m:Mem):Prop:=(∀s g,R s g)∨((∀s g,R s g→g≤m.gen s)∧∀s g cs,R s g→m.at_ s g=some (.box cs)→∀p∈cs.flatMap aX,R p.1 p.2)
theorem RCl.box {R:Nat→Nat→Prop} {m:Mem} (h:RCl R m) {s g:Nat} {cs:List AV} (hr:R s g) (hi:m.at_ s g=some (.box cs)):∀p∈cs.flatMap aX,R p.1 p.2:=fun p hp=> h.elim (fun h=> h _ _) fun h=> h.2 s g cs hr hi p hp
theorem RCl.add {R:Nat→Nat→Prop} {m:Mem} (h:RCl R m) (s:Nat) (i:Inst):RCl R (m.add s i):=h.imp id fun ⟨h1,h2⟩=> ⟨fun x y hr=> Nat.le_trans (h1 x y hr) (by rw [jJ];split <;> rename_i hx <;> first | (subst hx;omega) | exact Nat.le_refl _),fun x y cs hr hi=> h2 x y cs hr (by
 rw [kM,if_neg] at hi
 ·exact hi
 ·rintro ⟨rfl,rfl⟩
  have:=h1 _ _ hr
  omega)⟩
theorem RCl.set {R:Nat→Nat→Prop} {m:Mem} (h:RCl R m) (s g sz:Nat) (es:List (List D)) (ro:Bool):RCl R (m.set s g (some (.rows sz es ro))):=h.imp id fun ⟨h1,h2⟩=> ⟨h1,fun x y cs hr hi=> h2 x y cs hr (by
 rw [setAt] at hi
 split at hi
 ·cases hi
 ·exact hi)⟩
theorem Step.Fits.runs {F:FuncId→List AV→AV→Prop} {R:Nat→Nat→Prop} {Z:Nat→Prop} {x:Step} {m m':Mem} {v:AV} (hr:x.Runs F m v m'):x.Fits R Z→RCl R m→qX m→
  ∃es,m'=Ho es m∧((∀e∈es,e.In m.gen Z)∧∀s g,Eff.nV s g∈es→R s g∧(Z s∨∃i,m.at_ s g=some i))∧qX m'∧∀q:Mem,(∀s,Z s→q.gen s=m.gen s)→(∀s g,R s g→(∃i,m.at_ s g=some i)→kK (q.at_ s g)=kK (m.at_ s g))→x.Runs F q v (Ho es q):=by
 induction hr with
 | ret=> exact fun _ _ hw=> ⟨[],rfl,⟨by simp,by simp⟩,hw,fun q _ _=> .ret⟩
 | Am h r ih=>
  intro hf hc hw
  obtain ⟨es,h1,h2,h3,h4⟩:=ih (hf.2 _ (hc.box hf.1 h)) hc hw
  refine ⟨es,h1,h2,h3,fun q hz hq=> ?_⟩
  have:=hq _ _ hf.1 ⟨_,h⟩
  rw [h] at this
  exact .Am (Cb this) (h4 q hz hq)
 | yC h r ih=>
  intro hf hc hw
  obtain ⟨es,h1,h2,h3,h4⟩:=ih (hf.2 _) hc hw
  refine ⟨es,h1,h2,h3,fun q hz hq=> ?_⟩
  have:=hq _ _ hf.1 ⟨_,h⟩
  rw [h] at this
  obtain ⟨ro',h5⟩:=yL this
  exact .yC h5 (h4 q hz hq)
 | OO h r ih=>
  intro hf hc hw
  obtain ⟨es,h1,h2,h3,h4⟩:=ih (hf.2 _ _) hc hw
  refine ⟨es,h1,h2,h3,fun q hz hq=> ?_⟩
  have:=hq _ _ hf.1 ⟨_,h⟩
  rw [h] at this
  exact .OO (aa1 this) (h4 q hz hq)
 | RZ=> exact fun hf=> hf.elim
 | OQ h r ih=>
  intro hf hc hw
  obtain ⟨es,h1,h2,h3,h4⟩:=ih hf.2 hc hw
  refine ⟨es,h1,h2,h3,fun q hz hq=> ?_⟩
  have:=hq _ _ hf.1 ⟨_,h⟩
  rw [h] at this
  obtain ⟨ro',h5⟩:=yL this
  exact .OQ h5 (h4 q hz hq)
 | wr=> exact fun hf=> hf.elim
 | @new s i k m m' v r ih=>
  intro hf hc hw
  obtain ⟨es,h1,h2,h3,h4⟩:=ih (hf.2 _) (hc.add s i) (hw.add s i)
  refine ⟨.add s i::es,h1,⟨fun e he=> ?_,fun s' g' he=> ?_⟩,h3,fun q hz hq=> ?_⟩
  ·rcases List.mem_cons.1 he with rfl | he
   ·exact hf.1
   ·have:=h2.1 e he
    cases e with
    | add=> exact this
    | nV s' g'=>
     rcases this with this | this
     ·rw [jJ] at this
      split at this
      ·rename_i hs;subst hs;exact Or.inr hf.1
      ·exact Or.inl this
     ·exact Or.inr this
  ·obtain ⟨k1,k2⟩:=h2.2 s' g' (by simpa using he)
   refine ⟨k1,?_⟩
   rcases k2 with k2 | ⟨i',k2⟩
   ·exact Or.inl k2
   ·rw [kM] at k2
    split at k2
    ·rename_i hx
     exact Or.inl (hx.1 ▸ hf.1)
    ·exact Or.inr ⟨i',k2⟩
  ·refine .new ?_
   rw [hz s hf.1]
   refine h4 (q.add s i) (fun s' hs'=> ?_) (fun s' g' hr' hi'=> ?_)
   ·rw [jJ,jJ,hz s hf.1,hz s' hs']
   ·rw [kM,kM,hz s hf.1]
    split
    ·rfl
    ·refine hq s' g' hr' ?_
     obtain ⟨i',hi'⟩:=hi'
     rw [kM,if_neg (by assumption)] at hi'
     exact ⟨i',hi'⟩
 | app=> exact fun hf=> hf.elim
 | @nV s g sz es0 ro k m m' v h r ih=>
  intro hf hc hw
  obtain ⟨es,h1,h2,h3,h4⟩:=ih hf.2 (hc.set _ _ _ _ _) (hw.set h _)
  refine ⟨.nV s g::es,by rw [h1,VE h];rfl,⟨fun e he=> ?_,fun s' g' he=> ?_⟩,h3,fun q hz hq=> ?_⟩
  ·rcases List.mem_cons.1 he with rfl | he
   ·exact Or.inl (hw s g _ h)
   ·exact h2.1 e he
  ·rcases List.mem_cons.1 he with he | he
   ·injection he with q1 q2
    subst q1 q2
    exact ⟨hf.1,Or.inr ⟨_,h⟩⟩
   ·obtain ⟨k1,k2⟩:=h2.2 s' g' he
    refine ⟨k1,?_⟩
    rcases k2 with k2 | ⟨i',k2⟩
    ·exact Or.inl k2
    ·rw [setAt] at k2
     split at k2
     ·rename_i hx
      obtain ⟨rfl,rfl⟩:=hx
      exact Or.inr ⟨_,h⟩
     ·exact Or.inr ⟨i',k2⟩
  ·have:=hq _ _ hf.1 ⟨_,h⟩
   rw [h] at this
   obtain ⟨ro',h5⟩:=yL this
   refine .nV h5 ?_
   have:=h4 (q.set s g (some (.rows sz es0 true))) hz (fun s' g' hr' hi'=> ?_)
   ·rw [VE h5] at this ⊢
    exact this
   ·rw [setAt,setAt]
    split
    ·rfl
    ·refine hq s' g' hr' ?_
     obtain ⟨i',hi'⟩:=hi'
     rw [setAt,if_neg (by assumption)] at hi'
     exact ⟨i',hi'⟩
 | elem h r ih=>
  intro hf hc hw
  obtain ⟨es,h1,h2,h3,h4⟩:=ih (hf _) hc hw
  exact ⟨es,h1,h2,h3,fun q hz hq=> .elem h (h4 q hz hq)⟩
 | call h r ih=>
  intro hf hc hw
  obtain ⟨es,h1,h2,h3,h4⟩:=ih (hf _) hc hw
  exact ⟨es,h1,h2,h3,fun q hz hq=> .call h (h4 q hz hq)⟩
 | chk h r ih=>
  intro hf hc hw
  obtain ⟨es,h1,h2,h3,h4⟩:=ih hf hc hw
  exact ⟨es,h1,h2,h3,fun q hz hq=> .chk h (h4 q hz hq)⟩
 | @br b x y m m' v r ih=>
  intro hf hc hw
  obtain ⟨es,h1,h2,h3,h4⟩:=ih (by cases b;exact hf.2;exact hf.1) hc hw
  exact ⟨es,h1,h2,h3,fun q hz hq=> .br (h4 q hz hq)⟩
theorem XO {F:FuncId→List AV→AV→Prop} {G:Nat→Nat} {Z Z':Nat→Prop} {x y:Step} (hx:x.Fits (fun _ _=> True) Z) (hy:y.Fits (fun s g=> g≤G s) Z') (hd:∀s,Z s→Z' s→False) {m m1 m2:Mem} {v u:AV} (hw:qX m) (hG:∀s,G s≤m.gen s) (hbox:∀s g cs,g≤G s→m.at_ s g=some (.box cs)→∀p∈cs.flatMap aX,p.2≤G p.1) (h1:x.Runs F m v m1) (h2:y.Runs F m1 u m2):
  ∃GU,y.Runs F m u GU∧x.Runs F GU v m2:=by
 have hold:∀s g,g≤G s→g≤m.gen s:=fun s g h=> Nat.le_trans h (hG s)
 obtain ⟨ex,e1,⟨e2,_⟩,e3,e4⟩:=Step.Fits.runs h1 hx (Or.inl fun _ _=> trivial) hw
 subst e1
 obtain ⟨ey,f1,⟨f2,f2'⟩,f3,f4⟩:=Step.Fits.runs h2 hy (Or.inr ⟨fun s g h=> Nat.le_trans (hold s g h) (Ky ex m s),fun s g cs hr hi=> hbox s g cs hr (Cb (by rw [←BZ ex m s g (hold s g hr),hi]))⟩) e3
 have hgy:∀s,Z' s→m.gen s=(Ho ex m).gen s:=fun s hs=> (qW ex e2 m s fun hz=> hd s hz hs).symm
 have r1:=f4 m hgy (fun s g hr hi=> (BZ ex m s g (hold s g hr)).symm)
 refine ⟨Ho ey m,r1,?_⟩
 have fy:∀f∈ey,f.In m.gen Z':=by
  intro f hf
  have:=f2 f hf
  cases f with
  | add=> exact this
  | nV s g=> exact Or.inl (hold s g (f2' s g hf).1)
 have r2:=e4 (Ho ey m) (fun s hs=> qW ey fy m s fun hz=> hd s hs hz) (fun s g hr hi=> by
  obtain ⟨i,hi⟩:=hi
  exact BZ ey m s g (hw s g i hi))
 rw [Ph hd ex ey m e2 fy (fun s=> Nat.le_refl _)] at f1
 rw [f1]
 exact r2
def refsOf:AV→List (Nat×Nat)
 | .agg cs=> cs.flatMap aX
 | .bH cs=> cs.flatMap aX
 | .fn _ cs=> cs.flatMap aX
 | v=> aX v
theorem yM {κ:Cx} {v:AV} {x:Value} (h:Rel κ v x):∀p∈aX v,p.2≤κ.gn p.1:=by
 cases h with
 | lp hg hb=> simpa [aX] using hg
 | rp hg hb=> simpa [aX] using hg
 | row0 A hg=> simpa [aX] using hg
 | row hg=> simpa [aX] using hg
 | BF A hg=> simpa [aX] using hg
 | sub A hg=> simpa [aX] using hg
 | mp hg=> simpa [aX] using hg
 | _=> simp [aX]
theorem Cc {κ:Cx} {v:AV} {x:Value} (h:Rel κ v x):∀p∈refsOf v,p.2≤κ.gn p.1:=by
 have many:∀{cs:List AV} {vs:Array Value},vs.size=cs.length→(∀(j:Nat) (c:AV) (v:Value),cs[j]? =some c→vs[j]? =some v→Rel κ c v)→∀p∈cs.flatMap aX,p.2≤κ.gn p.1:=by
  intro cs vs hl h p hp
  obtain ⟨c,hc,hp⟩:=List.mem_flatMap.1 hp
  obtain ⟨j,hj,rfl⟩:=List.getElem_of_mem hc
  exact yM (h j cs[j] _ (List.getElem?_eq_getElem hj) (Array.getElem?_eq_getElem (by omega))) p hp
 have h1:=yM h
 cases h with
 | agg hl h=> exact many hl h
 | bH hl h=> exact many hl h
 | fn hl h=> exact many hl h
 | _=> exact h1
theorem XP (v:AV):aX (uJ v)=aX v:=by cases v <;> rfl
theorem SE (v:AV):refsOf (unk v)=refsOf v:=by
 cases v with
 | agg cs=>
  simp only [unk,refsOf,List.flatMap_map]
  congr 1
  funext x
  exact XP x
 | _=> rfl
section
variable {R : Nat → Nat → Prop} {Z : Nat → Prop}
theorem qY {s:Nat} (hz:∀k,Z (s + 65536 * k)) (cz:List Nat):∀(cs:List AV) (j:Nat) (k:List AV→Step),(∀r,(k r).Fits R Z)→(settle s cz j cs k).Fits R Z
 | [],j,k,h=> h []
 | c::cs,j,k,h=> by
  have gen:(settle s cz (j + 1) cs fun r=> k (c::r)).Fits R Z:=qY hz cz cs (j + 1) _ fun r=> h _
  cases c with
  | nl=> exact ⟨hz (j + 1),fun g=> qY hz cz cs (j + 1) _ fun r=> h _⟩
  | _=> exact gen
theorem Pj {v:AV} (hr:∀p∈aX v,R p.1 p.2) {k:D→Step} (h:∀x,(k x).Fits R Z):(dataOf v k).Fits R Z:=by
 cases v with
 | d x=> exact h x
 | nl=> exact h _
 | row s g n=> exact ⟨hr (s,g) (by simp [aX]),fun c=> ⟨hr (s,g) (by simp [aX]),h _⟩⟩
 | sub s g o n=> exact ⟨hr (s,g) (by simp [aX]),fun c=> ⟨hr (s,g) (by simp [aX]),h _⟩⟩
 | _=> exact trivial
theorem uD:∀(vs:List AV),(∀p∈vs.flatMap aX,R p.1 p.2)→∀(k:List D→Step),(∀x,(k x).Fits R Z)→(lI vs k).Fits R Z
 | [],_,k,h=> h []
 | v::vs,hr,k,h=> Pj (fun p hp=> hr p (by simp [hp])) fun x=> uD vs (fun p hp=> hr p (by
   rw [List.flatMap_cons];exact List.mem_append_right _ hp)) _ fun xs=> h _
theorem IG (cs:List AV) (o:Nat):∀p∈(cs.drop o).flatMap aX,p∈cs.flatMap aX:=by
 intro p hp
 obtain ⟨c,hc,hp⟩:=List.mem_flatMap.1 hp
 exact List.mem_flatMap.2 ⟨c,List.mem_of_mem_drop hc,hp⟩
theorem qZ:∀(cs:List AV),(∀p∈cs.flatMap aX,R p.1 p.2)→∀(k:List D→List (Nat×Nat)→Step),(∀ds l,(∀p∈l,R p.1 p.2)→(k ds l).Fits R Z)→(uM cs k).Fits R Z
 | [],_,k,h=> h [] [] (by simp)
 | c::cs,hr,k,h=> by
  have hr':∀p∈cs.flatMap aX,R p.1 p.2:=fun p hp=> hr p (by rw [List.flatMap_cons];exact List.mem_append_right _ hp)
  have hc:∀p∈aX c,R p.1 p.2:=fun p hp=> hr p (by rw [List.flatMap_cons];exact List.mem_append_left _ hp)
  have more:∀(q:Nat×Nat),R q.1 q.2→∀(x:D),(uM cs fun ds l=> k (x::ds) (q::l)).Fits R Z:=fun q hq x=> qZ cs hr' _ fun ds l hl=> h _ _ fun p hp=> by
   rcases List.mem_cons.1 hp with rfl | hp
   ·exact hq
   ·exact hl p hp
  cases c with
  | d x=> exact qZ cs hr' _ fun ds l hl=> h _ _ hl
  | mp s g=> exact ⟨hc (s,g) (by simp [aX]),fun ck es=> more (s,g) (hc (s,g) (by simp [aX])) _⟩
  | row s g n=> exact ⟨hc (s,g) (by simp [aX]),fun es=> more (s,g) (hc (s,g) (by simp [aX])) _⟩
  | _=> exact trivial
theorem mV:∀(cs:List AV),(∀p∈cs.flatMap aX,R p.1 p.2)→∀(k:List D→List (Nat×Nat)→Step),(∀ds l,(∀p∈l,R p.1 p.2)→(k ds l).Fits R Z)→(cellL cs k).Fits R Z
 | [],_,k,h=> h [] [] (by simp)
 | c::cs,hr,k,h=> by
  have hr':∀p∈cs.flatMap aX,R p.1 p.2:=fun p hp=> hr p (by rw [List.flatMap_cons];exact List.mem_append_right _ hp)
  have hc:∀p∈aX c,R p.1 p.2:=fun p hp=> hr p (by rw [List.flatMap_cons];exact List.mem_append_left _ hp)
  have more:∀(q:Nat×Nat),R q.1 q.2→∀(x:D),(cellL cs fun ds l=> k (x::ds) (q::l)).Fits R Z:=fun q hq x=> mV cs hr' _ fun ds l hl=> h _ _ fun p hp=> by
   rcases List.mem_cons.1 hp with rfl | hp
   ·exact hq
   ·exact hl p hp
  cases c with
  | d x=> exact mV cs hr' _ fun ds l hl=> h _ _ hl
  | fp ds0=> exact mV cs hr' _ fun ds l hl=> h _ _ hl
  | mp s g=> exact ⟨hc (s,g) (by simp [aX]),fun ck es=> more (s,g) (hc (s,g) (by simp [aX])) _⟩
  | row s g n=> exact ⟨hc (s,g) (by simp [aX]),fun es=> more (s,g) (hc (s,g) (by simp [aX])) _⟩
  | lp s g o=> exact ⟨hc (s,g) (by simp [aX]),fun c0 hc0=> qZ _ (fun p hp=> hc0 p (IG _ _ p hp)) _ fun ds0 l0 hl0=> mV cs hr' _ fun ds l hl=> h _ _ fun p hp=> by
    rcases List.mem_cons.1 hp with rfl | hp
    ·exact hc (s,g) (by simp [aX])
    ·rcases List.mem_append.1 hp with hp | hp
     ·exact hl0 p hp
     ·exact hl p hp⟩
  | _=> exact trivial
theorem II {v:AV} (hr:∀p∈aX v,R p.1 p.2) {k:AV→List (Nat×Nat)→Step} (h:∀x l,(∀p∈l,R p.1 p.2)→(k x l).Fits R Z):(arg0 v k).Fits R Z:=by
 cases v with
 | d x=> exact h _ [] (by simp)
 | nl=> exact h _ [] (by simp)
 | row s g n=> exact ⟨hr (s,g) (by simp [aX]),fun c=> h _ [(s,g)] (by simpa using hr (s,g) (by simp [aX]))⟩
 | sub s g o n=> exact ⟨hr (s,g) (by simp [aX]),fun c=> h _ [(s,g)] (by simpa using hr (s,g) (by simp [aX]))⟩
 | lp s g o=>
  refine ⟨hr (s,g) (by simp [aX]),fun c hc=> mV _ (fun p hp=> hc p (IG _ _ p hp)) _ fun ds l hl=> h _ _ fun p hp=> ?_⟩
  rcases List.mem_cons.1 hp with rfl | hp
  ·exact hr (s,g) (by simp [aX])
  ·exact hl p hp
 | fp ds=> exact h _ [] (by simp)
 | _=> exact trivial
theorem yN:∀(vs:List AV),(∀p∈vs.flatMap aX,R p.1 p.2)→∀(k:List AV→List (Nat×Nat)→Step),(∀x l,(∀p∈l,R p.1 p.2)→(k x l).Fits R Z)→(OU vs k).Fits R Z
 | [],_,k,h=> h [] [] (by simp)
 | v::vs,hr,k,h=> II (fun p hp=> hr p (by simp [hp])) fun x l hl=> yN vs (fun p hp=> hr p (by
   rw [List.flatMap_cons];exact List.mem_append_right _ hp)) _ fun xs l' hl'=> h _ _ fun p hp=> by
   rcases List.mem_append.1 hp with hp | hp
   ·exact hl p hp
   ·exact hl' p hp
theorem XQ {v:AV} (hr:∀p∈refsOf v,R p.1 p.2) {k:AV→List (Nat×Nat)→Step} (h:∀x l,(∀p∈l,R p.1 p.2)→(k x l).Fits R Z):(arg1 v k).Fits R Z:=by
 cases v with
 | fn f cs=> exact yN cs hr _ fun x l hl=> h _ l hl
 | agg cs=> exact trivial
 | bH cs=> exact trivial
 | _=> exact II (v:=_) (by simpa [refsOf] using hr) h
theorem IJ:∀(vs:List (Option AV)),(∀v,some v∈vs→∀p∈refsOf v,R p.1 p.2)→∀(k:List AV→List (Nat×Nat)→Step),(∀x l,(∀p∈l,R p.1 p.2)→(k x l).Fits R Z)→(kJ vs k).Fits R Z
 | [],_,k,h=> h [] [] (by simp)
 | none::vs,_,k,h=> trivial
 | some v::vs,hr,k,h=> by
  have next:∀(x:AV) (l:List (Nat×Nat)),(∀p∈l,R p.1 p.2)→(kJ vs fun xs m=> k (x::xs) (l ++ m)).Fits R Z:=fun x l hl=>
   IJ vs (fun v hv=> hr v (by simp [hv])) _ fun xs l' hl'=> h _ _ fun p hp=> by
    rcases List.mem_append.1 hp with hp | hp
    ·exact hl p hp
    ·exact hl' p hp
  have hv:=hr v (by simp)
  have one:(∀p∈refsOf v,R p.1 p.2)→(arg1 v fun x l=> kJ vs fun xs m=> k (x::xs) (l ++ m)).Fits R Z:=fun h1=> XQ h1 next
  cases v with
  | agg cs=> exact yN cs hv _ fun x l hl=> next _ l hl
  | bH cs=> exact trivial
  | _=> exact one hv
theorem IK:∀(l:List (Nat×Nat)) (k:Step),(∀p∈l,R p.1 p.2)→k.Fits R Z→(Xr l k).Fits R Z
 | [],k,_,h=> h
 | (s,g)::l,k,hl,h=> ⟨hl (s,g) (by simp),IK l k (fun p hp=> hl p (by simp [hp])) h⟩
theorem Ce {s:Nat} (hz:Z s) (v:AV) {k:AV→Step} (h:∀x,(k x).Fits R Z):(Ij s v k).Fits R Z:=by
 cases v with
 | ow sz es=> exact ⟨hz,fun g=> h _⟩
 | d x=> exact h _
 | _=> exact trivial
theorem Cj {s:Nat} (hz:∀k,Z (s + 65536 * k)):∀(vs:List AV) (j:Nat) (k:List AV→Step),(∀r,(k r).Fits R Z)→(Vt s j vs k).Fits R Z
 | [],_,_k,h=> h []
 | v::vs,j,_k,h=> Ce (hz (j + 1)) v fun _x=> Cj hz vs (j + 1) _ fun _r=> h _
theorem Cm {s:Nat} (hz:∀k,Z (s + 65536 * k)) (v:AV) {k:AV→Step} (h:∀x,(k x).Fits R Z):(Ik s v k).Fits R Z:=by
 have one:(Ij s v k).Fits R Z:=Ce (hz 0) v h
 cases v with
 | agg cs=> exact Cj hz cs 0 _ fun r=> h _
 | _=> exact one
theorem CB {s:Nat} (hz:∀k,Z (s + 65536 * k)):∀(vs:List AV) (j:Nat) (k:List AV→Step),(∀r,(k r).Fits R Z)→(OT s j vs k).Fits R Z
 | [],j,k,h=> h []
 | v::vs,j,k,h=> Cm (fun k'=> by have:=hz (16 * (j + 1) + k');rw [Nat.mul_add,←Nat.add_assoc,←Nat.mul_assoc] at this;exact this) v fun x=> CB hz vs (j + 1) _ fun r=> h _
theorem IL {s:Nat} (hz:∀k,Z (s + 65536 * k)) (v:AV) {k:AV→Step} (h:∀x,(k x).Fits R Z):(recv s v k).Fits R Z:=by
 have one:(Ik s v k).Fits R Z:=Cm hz v h
 cases v with
 | bH cs=> exact CB hz cs 0 _ fun r=> h _
 | _=> exact one
theorem IQ {t:TI} {s:Nat} (hz:∀k,Z (s + 65536 * k)) (v:AV):(Xt t s v).Fits R Z:=by
 unfold Xt
 cases (cellsOf v).all jX
 ·trivial
 ·exact qY hz _ _ _ _ fun r=> ⟨hz 0,fun g=> trivial⟩
theorem CG {t:TI} {cs:List AV}:(ldA t cs).Fits R Z:=by
 unfold ldA
 cases t.known
 ·trivial
 ·cases t.agg
  ·cases cs <;> trivial
  ·simp only [Bool.not_true,cond_false,cond_true]
   cases Nat.ble t.size cs.length <;> trivial
theorem wE {t:TI} {cs:List D}:(ldD t cs).Fits R Z:=by rw [Sz];exact CG
theorem kQ {x:Option AV}:(uK x).Fits R Z:=by cases x <;> trivial
theorem wF (sz n:Nat):∀(parts:List (Nat×Option AV)) (i:Nat) (k:List (List D)→Step),(∀p∈parts,∀v,p.2=some v→∀q∈(cellsOf v).flatMap aX,R q.1 q.2)→(∀es,(k es).Fits R Z)→(nZ sz n i parts k).Fits R Z
 | [],i,k,_,h=> by
  simp only [nZ]
  cases Nat.beq i n
  ·trivial
  ·exact h []
 | (j,none)::r,i,k,_,h=> trivial
 | (j,some v)::r,i,k,hr,h=> by
  simp only [nZ]
  cases (Nat.beq i j && Nat.beq (cellsOf v).length sz && (cellsOf v).all jX)
  ·trivial
  ·exact uD _ (hr (j,some v) (by simp) v rfl) _ fun ds=> wF sz n r (i + 1) _ (fun p hp=> hr p (by simp [hp])) fun es=> h _
end
end
section
open Go.RowKit
def uU (E:Nat→Option AV) (o:Oper) (s g:Nat):Prop:=∃x∈o.op.operands,∃v,cO E x=some v∧(s,g)∈refsOf v
theorem kR {E:Nat→Option AV} {o:Oper} {x:Operand} (hx:x∈o.op.operands) {v:AV} (hv:aJ E x=some v):∀p∈refsOf v,uU E o p.1 p.2:=by
 intro p hp
 unfold aJ at hv
 cases hq:cO E x with
 | none=> rw [hq] at hv;cases hv
 | some q=>
  rw [hq] at hv
  injection hv with hv
  subst hv
  rw [SE] at hp
  exact ⟨x,hx,q,hq,hp⟩
theorem XR (v:AV):∀p∈aX v,p∈refsOf v:=by
 intro p hp
 cases v with
 | agg=> simp [aX] at hp
 | bH=> simp [aX] at hp
 | fn=> simp [aX] at hp
 | _=> exact hp
theorem SG (v:AV):∀p∈(cellsOf v).flatMap aX,p∈refsOf v:=by
 intro p hp
 have one:p∈ [v].flatMap aX→p∈refsOf v:=fun h=> XR v p (by simpa using h)
 cases v with
 | agg cs=> exact hp
 | _=> exact one hp
section
variable {T : Nat → TI} {base : Nat} {E : Nat → Option AV} {o : Oper}
theorem yO (h:fZ T o.op=0) {R:Nat→Nat→Prop} {Z:Nat→Prop}:(iL T base E o).Fits R Z:=by
 unfold iL
 split
 all_goals rename_i ho
 all_goals try (rw [ho] at h;cases h;done)
 ·unfold Bl
  split
  ·exact kQ
  ·exact kQ
  ·exact ⟨kQ,kQ⟩
  ·trivial
 ·show (Xu _ _ _ _).Fits _ _
  unfold Xu
  split
  ·split <;> trivial
  ·unfold aeN
   split
   ·split
    ·trivial
    ·unfold aeM
     split
     ·trivial
     ·split <;> trivial
   ·split <;> trivial
   ·split
    ·split <;> trivial
    ·trivial
   ·trivial
  ·trivial
 ·unfold unF
  split <;> trivial
 ·unfold J8
  split
  ·split <;> trivial
  ·trivial
 ·unfold vV
  split
  ·exact kQ
  ·trivial
 ·rename_i x t
  have hm:∀a b,(T t).k≠ .map a b:=by
   intro a b e
   rw [ho] at h
   have h:(bif [t].any fun t=> (T t).k.isMap then 1 else 0)=0:=h
   simp [e,TK.isMap] at h
  show (Si (T t).k (aJ E x)).Fits _ _
  generalize (T t).k=k at hm
  unfold Si
  split
  all_goals first
   | trivial
   | exact absurd rfl (hm _ _)
 ·exfalso
  rw [ho] at h
  rename_i fv xs ts
  have h:(bif Nat.beq (qI T fv) 0 || Nat.beq (qI T fv) 7 then 1 else 2)=0:=h
  cases hb:(Nat.beq (qI T fv) 0 || Nat.beq (qI T fv) 7) <;> rw [hb] at h <;> cases h
 ·trivial
theorem yP (h:fZ T o.op=1) {d:Nat} (hd:o.dst=some d) {R:Nat→Nat→Prop} (hop:∀s g,uU E o s g→R s g):(iL T base E o).Fits R (fun s=> ∃k,s=base + d + 65536 * k):=by
 have hz:∀k,∃k',base + o.dst.getD 0 + 65536 * k=base + d + 65536 * k':=fun k=> ⟨k,by rw [hd];rfl⟩
 have hz0:∃k',base + o.dst.getD 0=base + d + 65536 * k':=⟨0,by rw [hd];rfl⟩
 have mv:∀(sz:Nat) (x:Option AV),(NQ (base + o.dst.getD 0) sz x).Fits R (fun s=> ∃k,s=base + d + 65536 * k):=by
  intro sz x
  unfold NQ
  split
  ·exact ⟨hz0,fun g=> trivial⟩
  ·exact kQ
 unfold iL
 split
 all_goals rename_i ho
 all_goals try (rw [ho] at h;cases h;done)
 ·exact mv _ _
 ·exact mv _ _
 ·unfold J7
  cases (T _).known
  ·trivial
  ·exact IQ hz _
 ·unfold ajw
  split
  ·exact IQ hz _
  ·trivial
 ·rename_i t n parts
  split
  ·rename_i e z hk
   show (vU (T e) (base + o.dst.getD 0) n (parts.toList.map fun p=> (p.1,aJ E p.2))).Fits _ _
   unfold vU
   cases ((T e).known && Nat.ble (n * (T e).size) 1000000 && Nat.blt 0 (T e).size)
   ·trivial
   ·refine wF _ _ _ _ _ (fun p hp v hv q hq=> ?_) fun es=> ⟨hz0,fun g=> trivial⟩
    obtain ⟨p',hp',rfl⟩:=List.mem_map.1 hp
    refine hop _ _ (kR (x:=p'.2) ?_ hv q (SG v q hq))
    rw [ho]
    simp only [Op.operands]
    simp
    exact ⟨p'.1,by simpa using hp'⟩
  ·trivial
 ·rename_i t x
  show (zu (T t) (aJ E x)).Fits _ _
  have hx:∀v,aJ E x=some v→∀p∈refsOf v,R p.1 p.2:=fun v hv p hp=> hop _ _ (kR (by rw [ho];simp [Op.operands]) hv p hp)
  unfold zu
  split
  ·exact wE
  ·rename_i s g q hv
   exact ⟨hx _ hv (s,g) (by simp [refsOf,aX]),fun c _=> CG⟩
  ·rename_i s g i q hv
   exact ⟨hx _ hv (s,g) (by simp [refsOf,aX]),fun c c'=> wE⟩
  ·trivial
 ·rename_i t x ix
  show (uO (T t).k (aJ E x) (aJ E ix)).Fits _ _
  have hx:∀v,aJ E x=some v→∀p∈refsOf v,R p.1 p.2:=fun v hv p hp=> hop _ _ (kR (by rw [ho];simp [Op.operands]) hv p hp)
  generalize hq:aJ E x=c at hx
  unfold uO
  split
  ·trivial
  ·trivial
  ·trivial
  ·exact fun c=> trivial
  ·exact ⟨hx _ rfl (_,_) (by simp [refsOf,aX]),trivial⟩
  ·exact ⟨hx _ rfl (_,_) (by simp [refsOf,aX]),trivial⟩
  ·trivial
 ·rename_i x t
  show (Si (T t).k (aJ E x)).Fits _ _
  have hx:∀v,aJ E x=some v→∀p∈refsOf v,R p.1 p.2:=fun v hv p hp=> hop _ _ (kR (by rw [ho];simp [Op.operands,Call.operands]) hv p hp)
  generalize aJ E x=c at hx
  unfold Si
  split
  all_goals first
   | trivial
   | exact ⟨hx _ rfl (_,_) (by simp [refsOf,aX]),fun _ _=> trivial⟩
 ·rename_i fv xs ts
  rw [ho] at h
  cases hb:Nat.beq (qI T fv) 0
  ·exact trivial
  show (uP (base + o.dst.getD 0) (aJ E fv) (xs.toList.map (aJ E))).Fits _ _
  generalize hfv:aJ E fv=c
  unfold uP
  split
  ·rename_i f cs
   cases hcap:cs.all cap1
   ·exact trivial
   simp only [cond_true]
   refine IJ _ (fun v hv p hp=> ?_) _ fun ys l hl=> fun r=> ?_
   ·rcases List.mem_append.1 hv with hv | hv
    ·obtain ⟨x,hx,he⟩:=List.mem_map.1 hv
     exact hop _ _ (kR (by rw [ho];simp only [Op.operands,Call.operands];simp;right;simpa using hx) he p hp)
    ·obtain ⟨x,hx,he⟩:=List.mem_map.1 hv
     injection he with he
     subst he
     refine hop _ _ (kR (x:=fv) (by rw [ho];simp only [Op.operands,Call.operands];simp) hfv p ?_)
     refine List.mem_flatMap.2 ⟨x,hx,?_⟩
     have:=List.all_eq_true.1 hcap x hx
     cases x <;> first | exact hp | cases this
   ·show (bif scalar r then _ else _:Step).Fits _ _
    cases scalar r
    ·exact IK _ _ hl (IL hz _ fun x=> trivial)
    ·exact IL hz _ fun x=> trivial
  ·trivial
 ·trivial
theorem Pm {E E':Nat→Option AV} (parts:Array (Nat×Operand)) (h:∀x∈(parts.toList.map (·.2)),aJ E x=aJ E' x):(parts.toList.map fun p=> (p.1,aJ E p.2))=(parts.toList.map fun p=> (p.1,aJ E' p.2)):=
 List.map_congr_left fun p hp=> by rw [h p.2 (List.mem_map.2 ⟨p,hp,rfl⟩)]
theorem XT {E E':Nat→Option AV} (h:∀x∈o.op.operands,cO E x=cO E' x):iL T base E o=iL T base E' o:=by
 have hr:∀x∈o.op.operands,aJ E x=aJ E' x:=fun x hx=> by unfold aJ;rw [h x hx]
 unfold iL
 split
 all_goals rename_i ho
 all_goals try rw [ho] at h hr
 all_goals try simp only [Op.operands] at h hr
 ·rw [h _ (by simp)]
 ·rw [h _ (by simp)]
 ·rename_i c x y
  rw [h c (by simp),h x (by simp),h y (by simp)]
 ·rw [hr _ (by simp)]
 ·rw [Pm _ fun x hx=> hr x (by simpa using hx)]
 ·rw [hr _ (by simp)]
 ·rename_i x y
  rw [hr x (by simp),hr y (by simp)]
 ·rename_i x y _
  rw [hr x (by simp),hr y (by simp)]
 ·rw [hr _ (by simp)]
 ·rw [hr _ (by simp)]
 ·rename_i x y
  rw [hr x (by simp),hr y (by simp)]
 ·rw [hr _ (by simp)]
 ·rw [hr _ (by simp [Call.operands])]
 ·rename_i fv xs ts
  have e1:xs.toList.map (aJ E)=xs.toList.map (aJ E'):=List.map_congr_left fun x hx=> hr x (by simp [Call.operands];right;simpa using hx)
  rw [hr fv (by simp [Call.operands]),e1]
 ·rfl
end
end
section
open Go.RowKit
def gW (env:Nat→Option AV):Nat→Option AV:=fun t=> iD (env t)
theorem IU (v:AV):uJ (uJ v)=uJ v:=by cases v <;> rfl
theorem aa2 (v:AV):unk (unk v)=unk v:=by
 have h:=IU v
 cases v with
 | agg cs=>
  simp only [unk,List.map_map]
  congr 1
  apply List.map_congr_left
  intro x _
  exact IU x
 | _=> first | rfl | exact h
theorem IV (v:Option AV):iD (iD v)=iD v:=by
 cases v with
 | none=> rfl
 | some v=> simp only [iD,aa2]
theorem wG (env:Nat→Option AV) (x:Operand):iD (cO (gW env) x)=iD (cO env x):=by
 cases x with
 | tmp t=> exact IV _
 | _=> rfl
theorem aa3 (env:Nat→Option AV):aJ (gW env)=aJ env:=funext fun x=> wG env x
section
variable {T : Nat → TI} {base nt : Nat} {F : FuncId → List AV → AV → Prop}
theorem aa4 {s sz:Nat} {x y:Option AV} (h:iD x=iD y) {m m':Mem} {v:AV} (hr:(NQ s sz x).Runs F m v m'):∃v',(NQ s sz y).Runs F m v' m'∧unk v'=unk v:=by
 cases x with
 | none=> cases hr
 | some x=>
  cases y with
  | none=> cases h
  | some y=>
   have h:unk x=unk y:=Option.some.inj h
   by_cases hx:x= .nl
   ·subst hx
    have hy:y= .nl:=by
     cases y <;> first | rfl | cases h
    subst hy
    exact ⟨v,hr,rfl⟩
   ·have hy:y≠ .nl:=by
     rintro rfl
     apply hx
     cases x <;> first | rfl | cases h
    have e1:NQ s sz (some x)= .ret x:=by cases x <;> first | rfl | exact absurd rfl hx
    have e2:NQ s sz (some y)= .ret y:=by cases y <;> first | rfl | exact absurd rfl hy
    rw [e1] at hr
    cases hr with
    | ret=> exact ⟨y,by rw [e2];exact .ret,h.symm⟩
theorem Pn {x y:Option AV} (h:iD x=iD y) {m m':Mem} {v:AV} (hr:(uK x).Runs F m v m'):∃v',(uK y).Runs F m v' m'∧unk v'=unk v:=by
 cases x with
 | none=> cases hr
 | some x=>
  cases y with
  | none=> cases h
  | some y=>
   cases hr with
   | ret=> exact ⟨y,.ret,(Option.some.inj h).symm⟩
theorem aa5 {c c' x x' y y':Option AV} (hc:iD c=iD c') (hx:iD x=iD x') (hy:iD y=iD y') {m m':Mem} {v:AV} (hr:(Bl c x y).Runs F m v m'):∃v',(Bl c' x' y').Runs F m v' m'∧unk v'=unk v:=by
 obtain ⟨t,ht,hr⟩:=Iw hr
 have hb:iD c'=some (.d (.v (.bool t))):=by
  rw [←hc]
  rcases ht with rfl | rfl <;> rfl
 have hc':c'=some (.d (.v (.bool t)))∨c'=some (.kb t):=by
  cases c' with
  | none=> cases hb
  | some c'=>
   cases c' with
   | d z=> left;exact hb
   | kb b=> right;injection hb with hb;injection hb with hb;injection hb with hb;injection hb with hb;rw [hb]
   | _=> cases hb
 have fin:∃v',(bif t then uK x' else uK y').Runs F m v' m'∧unk v'=unk v:=by
  cases t
  ·exact Pn hy hr
  ·exact Pn hx hr
 obtain ⟨v',h1,h2⟩:=fin
 refine ⟨v',?_,h2⟩
 rcases hc' with rfl | rfl
 ·exact .br h1
 ·cases t <;> exact h1
theorem ae1 {env env':Nat→Option AV} (h:gW env=gW env') {o:Oper} {m m':Mem} {v:AV} (hr:(iL T base env o).Runs F m v m'):∃v',(iL T base env' o).Runs F m v' m'∧unk v'=unk v:=by
 have hraw:∀x,iD (cO env x)=iD (cO env' x):=fun x=> by rw [←wG env,←wG env',h]
 have aqy:aJ env=aJ env':=funext hraw
 unfold iL at hr ⊢
 split at hr
 all_goals rename_i ho
 ·exact aa4 (hraw _) hr
 ·exact aa4 (hraw _) hr
 ·exact aa5 (hraw _) (hraw _) (hraw _) hr
 all_goals first | exact ⟨v,hr,rfl⟩ | (rw [←aqy];exact ⟨v,hr,rfl⟩)
def xZ (T:Nat→TI) (base:Nat) (F:FuncId→List AV→AV→Prop) (ops:Array Oper) (o:Oper) (env:Nat→Option AV) (v:AV) (m m1:Mem):Prop:=
 match o.guard with
 | none=> ∃v',(iL T base env o).Runs F m v' m1∧v=unk v'
 | some (j,want)=> ∃t,oN ops.toList j=some t∧((∃b,env t=some (.d (.v (.bool b)))∧((b=want∧∃v',(iL T base env o).Runs F m v' m1∧v=unk v')∨(b≠want∧v= .bH []∧m1=m)))∨(env t=some (.bH [])∧v= .bH []∧m1=m))
def lJ (T:Nat→TI) (base nt:Nat) (F:FuncId→List AV→AV→Prop) (ops:Array Oper) (o:Oper) (st st':fJ):Prop:=jw nt o=true∧∃v,xZ T base F ops o st.env v st.m st'.m∧st'.env=aZ st.env o.dst v
def pY (T:Nat→TI) (base nt:Nat) (F:FuncId→List AV→AV→Prop) (ops:Array Oper):List Oper→fJ→fJ→Prop
 | [],st,st'=> st'=st
 | o::r,st,st'=> ∃st1,lJ T base nt F ops o st st1∧pY T base nt F ops r st1 st'
theorem Po (env:Nat→Option AV) (d:Option Tmp) (v:AV):gW (aZ env d v)=aZ (gW env) d (unk v):=by
 funext t
 cases d with
 | none=> rfl
 | some d=>
  simp only [gW,aZ,jI,dP]
  by_cases h:t=d <;> simp [h,iD]
theorem XU (env:Nat→Option AV):gW (gW env)=gW env:=funext fun _=> IV _
theorem SH {env:Nat→Option AV} {t:Nat} {b:Bool} (h:env t=some (.d (.v (.bool b)))):gW (jI env t (some (.kb b)))=gW env:=by
 funext x
 simp only [gW,jI,dP]
 by_cases hx:x=t
 ·subst hx;simp [h,iD,unk,uJ]
 ·simp [hx]
theorem qg {ops:Array Oper} {K:fJ→Prop}:∀(l:List Oper) (st:fJ),bF T base nt F ops.toList l st K→∃st',pY T base nt F ops l ⟨gW st.env,st.m⟩ ⟨gW st'.env,st'.m⟩∧K st'
 | [],st,h=> ⟨st,rfl,h⟩
 | o::r,st,h=> by
  unfold bF at h
  cases hdo:jw nt o
  ·rw [hdo] at h;exact h.elim
  ·rw [hdo] at h
   simp only [Bool.not_true,cond_false] at h
   have exec:∀env,gW env=gW st.env→(iL T base env o).wp F st.m (fun v m=> bF T base nt F ops.toList r ⟨aZ env o.dst v,m⟩ K)→
     ∃v' m1 st',(iL T base (gW st.env) o).Runs F st.m v' m1∧pY T base nt F ops r ⟨aZ (gW st.env) o.dst (unk v'),m1⟩ ⟨gW st'.env,st'.m⟩∧K st':=by
    intro env he h
    obtain ⟨v,m1,h1,h2⟩:=Step.Vz _ _ _ h
    obtain ⟨st',h3,h4⟩:=qg r _ h2
    obtain ⟨v',h5,h6⟩:=ae1 (env':=gW st.env) (by rw [he,XU]) h1
    refine ⟨v',m1,st',h5,?_,h4⟩
    simp only [Po,he] at h3
    rw [h6]
    exact h3
   have skip:∀env,gW env=gW st.env→bF T base nt F ops.toList r ⟨aZ env o.dst (.bH []),st.m⟩ K→∃st',pY T base nt F ops r ⟨aZ (gW st.env) o.dst (.bH []),st.m⟩ ⟨gW st'.env,st'.m⟩∧K st':=by
    intro env he h
    obtain ⟨st',h3,h4⟩:=qg r _ h
    simp only [Po,he] at h3
    exact ⟨st',h3,h4⟩
   cases hg:o.guard with
   | none=>
    rw [hg] at h
    obtain ⟨v',m1,st',h1,h2,h3⟩:=exec _ rfl h
    exact ⟨st',⟨_,⟨hdo,unk v',by unfold xZ;rw [hg];exact ⟨v',h1,rfl⟩,rfl⟩,h2⟩,h3⟩
   | some p=>
    obtain ⟨j,want⟩:=p
    rw [hg] at h
    dsimp only at h
    cases hj:oN ops.toList j with
    | none=> rw [hj] at h;exact h.elim
    | some t=>
     rw [hj] at h
     dsimp only at h
     have yes:∀(b:Bool) (env:Nat→Option AV),gW env=gW st.env→iD (st.env t)=some (.d (.v (.bool b)))→b=want→(iL T base env o).wp F st.m (fun v m=> bF T base nt F ops.toList r ⟨aZ env o.dst v,m⟩ K)→∃st',pY T base nt F ops (o::r) ⟨gW st.env,st.m⟩ ⟨gW st'.env,st'.m⟩∧K st':=by
      intro b env he hb hw h
      obtain ⟨v',m1,st',h1,h2,h3⟩:=exec env he h
      exact ⟨st',⟨_,⟨hdo,unk v',by unfold xZ;rw [hg];exact ⟨t,hj,Or.inl ⟨b,hb,Or.inl ⟨hw,v',h1,rfl⟩⟩⟩,rfl⟩,h2⟩,h3⟩
     have no:∀(b:Bool) (env:Nat→Option AV),gW env=gW st.env→iD (st.env t)=some (.d (.v (.bool b)))→b≠want→bF T base nt F ops.toList r ⟨aZ env o.dst (.bH []),st.m⟩ K→∃st',pY T base nt F ops (o::r) ⟨gW st.env,st.m⟩ ⟨gW st'.env,st'.m⟩∧K st':=by
      intro b env he hb hw h
      obtain ⟨st',h2,h3⟩:=skip env he h
      exact ⟨st',⟨_,⟨hdo,.bH [],by unfold xZ;rw [hg];exact ⟨t,hj,Or.inl ⟨b,hb,Or.inr ⟨hw,rfl,rfl⟩⟩⟩,rfl⟩,h2⟩,h3⟩
     split at h
     ·rename_i hb
      have hb':iD (st.env t)=some (.d (.v (.bool true))):=by rw [hb];rfl
      cases want
      ·exact no true _ rfl hb' (by decide) h
      ·exact yes true _ rfl hb' rfl h
     ·rename_i hb
      have hb':iD (st.env t)=some (.d (.v (.bool false))):=by rw [hb];rfl
      cases want
      ·exact yes false _ rfl hb' rfl h
      ·exact no false _ rfl hb' (by decide) h
     ·rename_i b hb
      have hb':iD (st.env t)=some (.d (.v (.bool b))):=by rw [hb];rfl
      have he:=SH hb
      cases b
      ·cases want
       ·exact yes false _ he hb' rfl (h.2 rfl)
       ·exact no false _ he hb' (by decide) (h.2 rfl)
      ·cases want
       ·exact no true _ he hb' (by decide) (h.1 rfl)
       ·exact yes true _ he hb' rfl (h.1 rfl)
     ·rename_i hb
      have hb':iD (st.env t)=some (.bH []):=by rw [hb];rfl
      obtain ⟨st',h2,h3⟩:=skip _ rfl h
      exact ⟨st',⟨_,⟨hdo,.bH [],by unfold xZ;rw [hg];exact ⟨t,hj,Or.inr ⟨hb',rfl,rfl⟩⟩,rfl⟩,h2⟩,h3⟩
     ·exact h.elim
end
end
section
open Go.RowKit
section
variable {P : Program} {T : Nat → TI} {base nt : Nat} {F : FuncId → List AV → AV → Prop} {w0 : Start} {A : Nat → Prop} {ops : Array Oper}
theorem mD {x:Step} {m m':Mem} {v:AV} (hr:x.Runs F m v m'):x.Fits (fun _ _=> False) (fun _=> False)→m'=m∧∀q,x.Runs F q v q:=by
 induction hr with
 | ret=> exact fun _=> ⟨rfl,fun q=> .ret⟩
 | Am h r ih=> exact fun hf=> hf.1.elim
 | yC h r ih=> exact fun hf=> hf.1.elim
 | OO h r ih=> exact fun hf=> hf.1.elim
 | RZ=> exact fun hf=> hf.elim
 | OQ h r ih=> exact fun hf=> hf.1.elim
 | wr=> exact fun hf=> hf.elim
 | new r ih=> exact fun hf=> hf.1.elim
 | app=> exact fun hf=> hf.elim
 | nV h r ih=> exact fun hf=> hf.1.elim
 | elem h r ih=> exact fun hf=> let ⟨h1,h2⟩:=ih (hf _);⟨h1,fun q=> .elem h (h2 q)⟩
 | call h r ih=> exact fun hf=> let ⟨h1,h2⟩:=ih (hf _);⟨h1,fun q=> .call h (h2 q)⟩
 | chk h r ih=> exact fun hf=> let ⟨h1,h2⟩:=ih hf;⟨h1,fun q=> .chk h (h2 q)⟩
 | @br b x y m m' v r ih=> exact fun hf=> let ⟨h1,h2⟩:=ih (by cases b;exact hf.2;exact hf.1);⟨h1,fun q=> .br (h2 q)⟩
theorem mF {E:Nat→Option AV} {d:Option Tmp} {v:AV} {x:Operand} (h:∀t,d=some t→x≠ .tmp t):cO (aZ E d v) x=cO E x:=by
 cases d with
 | none=> rfl
 | some t=>
  cases x with
  | tmp u=>
   have hne:u≠t:=fun e=> h t rfl (by rw [e])
   simp [cO,aZ,jI,dP,hne]
  | _=> rfl
theorem jy {o:Oper} {x:Operand} (hx:x∈o.op.operands) {t:Tmp} (e:x= .tmp t):t∈o.looksAt ops:=by
 unfold Oper.looksAt
 refine List.mem_append_left _ (List.mem_filterMap.2 ⟨x,by simpa using hx,?_⟩)
 rw [e]
theorem Pv {o:Oper} {j:Nat} {w:Bool} (hg:o.guard=some (j,w)) {t:Tmp} (ht:oN ops.toList j=some t):t∈o.looksAt ops:=by
 unfold Oper.looksAt
 rw [hg]
 refine List.mem_append_right _ ?_
 show t∈((ops[j]?).bind (·.dst)).toList
 unfold oN at ht
 rw [←Array.getElem?_toList]
 cases hq:ops.toList[j]? with
 | none=> rw [hq] at ht;cases ht
 | some q=> rw [hq] at ht;simp [ht]
theorem xZ.put {o:Oper} {E:Nat→Option AV} {d:Option Tmp} {u v:AV} {m m1:Mem} (h:∀t,d=some t→t∉o.looksAt ops):xZ T base F ops o (aZ E d u) v m m1↔xZ T base F ops o E v m m1:=by
 have e:iL T base (aZ E d u) o=iL T base E o:=XT fun x hx=> mF fun t ht e=> h t ht (jy hx e)
 unfold xZ
 cases hg:o.guard with
 | none=> simp only [e]
 | some p=>
  obtain ⟨j,w⟩:=p
  simp only [e]
  have hE:∀t,oN ops.toList j=some t→(aZ E d u) t=E t:=by
   intro t ht
   have:=mF (E:=E) (d:=d) (v:=u) (x:= .tmp t) fun t' ht' e=> h t' ht' (by injection e with e;rw [←e];exact Pv hg ht)
   exact this
  constructor
  ·rintro ⟨t,ht,h2⟩
   rw [hE t ht] at h2
   exact ⟨t,ht,h2⟩
  ·rintro ⟨t,ht,h2⟩
   refine ⟨t,ht,?_⟩
   rw [hE t ht]
   exact h2
theorem xZ.cases {o:Oper} {E:Nat→Option AV} {v:AV} {m m1:Mem} (h:xZ T base F ops o E v m m1):
  (∃v',(iL T base E o).Runs F m v' m1∧v=unk v'∧∀q q1,(iL T base E o).Runs F q v' q1→xZ T base F ops o E v q q1)∨(m1=m∧∀q,xZ T base F ops o E v q q):=by
 unfold xZ at h ⊢
 cases hg:o.guard with
 | none=>
  rw [hg] at h
  obtain ⟨v',h1,h2⟩:=h
  exact Or.inl ⟨v',h1,h2,fun q q1 hq=> ⟨v',hq,h2⟩⟩
 | some p=>
  obtain ⟨j,w⟩:=p
  rw [hg] at h
  rcases h with ⟨t,ht,⟨b,hb,⟨hw,v',h1,h2⟩ | ⟨hw,h1,h2⟩⟩ | ⟨hb,h1,h2⟩⟩
  ·exact Or.inl ⟨v',h1,h2,fun q q1 hq=> ⟨t,ht,Or.inl ⟨b,hb,Or.inl ⟨hw,v',hq,h2⟩⟩⟩⟩
  ·exact Or.inr ⟨h2,fun q=> ⟨t,ht,Or.inl ⟨b,hb,Or.inr ⟨hw,h1,rfl⟩⟩⟩⟩
  ·exact Or.inr ⟨h2,fun q=> ⟨t,ht,Or.inr ⟨hb,h1,rfl⟩⟩⟩
theorem gG.boxes {w0:Start} {A:Nat→Prop} {m:Mem} {κ:Cx} (hs:gG w0 A m κ) {s g:Nat} {cs:List AV} (hi:m.at_ s g=some (.box cs)):∀p∈cs.flatMap aX,p.2≤m.gen p.1:=by
 obtain ⟨b,T,vs,hb,hh,hn,hr⟩:=hs.ok s g _ hi
 intro p hp
 obtain ⟨c,hc,hp⟩:=List.mem_flatMap.1 hp
 obtain ⟨j,hj,rfl⟩:=List.getElem_of_mem hc
 have:=yM (hr j cs[j] _ (List.getElem?_eq_getElem hj) (Array.getElem?_eq_getElem (by omega))).1 p hp
 rw [hs.gn] at this
 exact this
structure wH (G:Nat→Nat) (E:Nat→Option AV) (y:Oper) (m:Mem):Prop where
 wf:qX m
 refs:∀s g,uU E y s g→g≤G s
 gen:∀s,G s≤m.gen s
 box:∀s g cs,g≤G s→m.at_ s g=some (.box cs)→∀p∈cs.flatMap aX,p.2≤G p.1
def Compat (T:Nat→TI) (x y:Oper):Prop:=fZ T x.op=0∨fZ T y.op=0∨(fZ T x.op=1∧fZ T y.op=1∧∃d e:Nat,x.dst=some d∧y.dst=some e∧d < 65536∧e < 65536∧d≠e)
theorem aa6 {x y:Oper} {E:Nat→Option AV} {v u:AV} {m m1 m2:Mem} (hc:Compat T x y) {G:Nat→Nat} (hold:fZ T y.op=1→wH G E y m) (h1:xZ T base F ops x E v m m1) (h2:xZ T base F ops y E u m1 m2):
  ∃GU,xZ T base F ops y E u m GU∧xZ T base F ops x E v GU m2:=by
 rcases h1.cases with ⟨v',r1,_,k1⟩ | ⟨rfl,k1⟩
 ·rcases h2.cases with ⟨u',r2,_,k2⟩ | ⟨rfl,k2⟩
  ·rcases hc with hc | hc | ⟨hx,hy,d,e,hd,he,hd1,he1,hne⟩
   ·obtain ⟨rfl,p1⟩:=mD r1 (yO hc)
    exact ⟨m2,h2,k1 _ _ (p1 m2)⟩
   ·obtain ⟨rfl,p2⟩:=mD r2 (yO hc)
    exact ⟨m,k2 _ _ (p2 m),h1⟩
   ·have ho:=hold hy
    obtain ⟨GU,q1,q2⟩:=XO (yP hx hd fun _ _ _=> trivial) (yP hy he ho.refs) (fun s=> by
     rintro ⟨k,hk⟩ ⟨k',hk'⟩
     exact hne (by omega)) ho.wf ho.gen ho.box r1 r2
    exact ⟨GU,k2 _ _ q1,k1 _ _ q2⟩
  ·exact ⟨m,k2 m,h1⟩
 ·exact ⟨m2,h2,k1 m2⟩
theorem IW {x y:Oper} {s s1 s2:fJ} (ha:x.apart ops y=true) (hc:Compat T x y) {G:Nat→Nat} (hold:fZ T y.op=1→wH G s.env y s.m) (h1:lJ T base nt F ops x s s1) (h2:lJ T base nt F ops y s1 s2):
  ∃s1',lJ T base nt F ops y s s1'∧lJ T base nt F ops x s1' s2:=by
 obtain ⟨a1,a2,a3⟩:=Oper.apart_spec ha
 obtain ⟨d1,v,g1,e1⟩:=h1
 obtain ⟨d2,u,g2,e2⟩:=h2
 rw [e1] at g2
 have g2:=(xZ.put a1).1 g2
 obtain ⟨GU,q1,q2⟩:=aa6 hc hold g1 g2
 refine ⟨⟨aZ s.env y.dst u,GU⟩,⟨d2,u,q1,rfl⟩,⟨d1,v,(xZ.put a3).2 q2,?_⟩⟩
 rw [e2,e1]
 funext t
 cases hx:x.dst with
 | none=> rfl
 | some d=>
  cases hy:y.dst with
  | none=> rfl
  | some e=>
   have hne:d≠e:=fun h=> a2 d hx (by rw [hy,h])
   simp only [aZ,jI,dP]
   by_cases h1:t=d
   ·subst h1;simp [hne]
   ·simp [h1]
theorem Px {x y:Oper} {s s1:fJ} (ha:x.apart ops y=true) (hc:Compat T x y) {G:Nat→Nat} (hold:fZ T y.op=1→wH G s.env y s.m) (h1:lJ T base nt F ops x s s1):
  fZ T y.op=1→wH G s1.env y s1.m:=by
 intro hy
 have ho:=hold hy
 obtain ⟨a1,a2,a3⟩:=Oper.apart_spec ha
 obtain ⟨d1,v,g1,e1⟩:=h1
 have hrefs:∀a g,uU s1.env y a g→uU s.env y a g:=by
  rintro a g ⟨x',hx',v',hv',hp⟩
  rw [e1,mF fun t ht e=> a1 t ht (jy hx' e)] at hv'
  exact ⟨x',hx',v',hv',hp⟩
 rcases g1.cases with ⟨v',r1,_,_⟩ | ⟨hm,_⟩
 ·rcases hc with hc | hc | ⟨hx,_,d,e,hd,_⟩
  ·obtain ⟨hm,_⟩:=mD r1 (yO hc)
   rw [hm]
   exact ⟨ho.wf,fun a g h=> ho.refs a g (hrefs a g h),ho.gen,ho.box⟩
  ·rw [hc] at hy;cases hy
  ·obtain ⟨es,f1,_,f3,_⟩:=Step.Fits.runs r1 (yP hx hd fun _ _ _=> trivial) (Or.inl fun _ _=> trivial) ho.wf
   refine ⟨f3,fun a g h=> ho.refs a g (hrefs a g h),fun a=> Nat.le_trans (ho.gen a) (by rw [f1];exact Ky es s.m a),fun a g cs hg hi=> ho.box a g cs hg ?_⟩
   rw [f1] at hi
   exact Cb (by rw [←BZ es s.m a g (Nat.le_trans hg (ho.gen a)),hi])
 ·rw [hm]
  exact ⟨ho.wf,fun a g h=> ho.refs a g (hrefs a g h),ho.gen,ho.box⟩
theorem zC {G:Nat→Nat} {y:Oper} {post:List Oper} {s':fJ}:∀(pre:List Oper) (s:fJ),(∀x∈pre,x.apart ops y=true∧Compat T x y)→(fZ T y.op=1→wH G s.env y s.m)→pY T base nt F ops (pre ++ y::post) s s'→
  ∃s1,lJ T base nt F ops y s s1∧pY T base nt F ops (pre ++ post) s1 s'
 | [],s,_,_,h=> h
 | x::pre,s,hp,ho,h=> by
  obtain ⟨sa,h1,h2⟩:=h
  obtain ⟨hx1,hx2⟩:=hp x (by simp)
  obtain ⟨sb,h3,h4⟩:=zC pre sa (fun z hz=> hp z (by simp [hz])) (Px hx1 hx2 ho h1) h2
  obtain ⟨s1,h5,h6⟩:=IW hx1 hx2 ho h1 h3
  exact ⟨s1,h5,sb,h6,h4⟩
theorem IX (hT:zy P T) (heq:∀t,(T t).eqs=true→(T t).known=true) (hF:∀f args r,F f args r→vM w0.dr P f args r) {o:Oper} {N:Act→World→Prop} {Q:Exit→Act→World→Prop} {st st1:fJ} {κ:Cx} {a:Act}
  (hs:gG w0 A st.m κ) (he:bM κ st.env a.tmps) (hn:a.tmps.size=nt) (hd:a.defers= []) (h:lJ T base nt F ops o st st1)
  (hN:∀κ' a',gG w0 A st1.m κ'→bM κ' st1.env a'.tmps→a'.tmps.size=nt→a'.defers= []→N a' κ'.w):
  if Region.wanted o (yielded ops a.tmps) then o.wp P a κ.w N Q else N (a.put o.dst undef) κ.w:=by
 obtain ⟨hdo,v,hg1,he1⟩:=h
 have exec:∀v',(iL T base st.env o).Runs F st.m v' st1.m→v=unk v'→o.wp P a κ.w N Q:=by
  intro v' hr hv
  refine Oper.wp_mono ?_ (aaY hT heq hF hs he hr)
  rintro a' w' ⟨κ',rfl,h1,h2,x,rfl,hx⟩
  refine hN κ' _ h1 ?_ (by rw [iW,hn]) (by rw [put_defers,hd])
  rw [he1,hv]
  exact (he.mono h2).put hn hdo hx.unk
 have skip:v= .bH []→st1.m=st.m→N (a.put o.dst undef) κ.w:=by
  intro hv hm
  refine hN κ _ (by rw [hm];exact hs) ?_ (by rw [iW,hn]) (by rw [put_defers,hd])
  rw [he1,hv]
  exact he.put hn hdo (IB κ)
 unfold xZ at hg1
 cases hg:o.guard with
 | none=>
  rw [hg] at hg1
  obtain ⟨v',h1,h2⟩:=hg1
  have:Region.wanted o (yielded ops a.tmps)=true:=by simp [Region.wanted,hg]
  rw [if_pos this]
  exact exec v' h1 h2
 | some p=>
  obtain ⟨j,want⟩:=p
  rw [hg] at hg1
  obtain ⟨t,hj,hg1⟩:=hg1
  have hy:∀x,a.tmps[t]? =some x→yielded ops a.tmps j=match x with | .bool b=> some b | _=> none:=by
   intro x hx
   unfold yielded
   have hb:(ops[j]?).bind (·.dst)=some t:=by
    unfold oN at hj
    rw [←Array.getElem?_toList]
    cases hq:ops.toList[j]? with
    | none=> rw [hq] at hj;cases hj
    | some q=> rw [hq] at hj;exact hj
   rw [hb]
   simp only [Option.bind_some,hx]
   cases x <;> rfl
  rcases hg1 with ⟨b,hb,⟨rfl,v',h1,h2⟩ | ⟨hw,h1,h2⟩⟩ | ⟨hb,h1,h2⟩
  ·obtain ⟨x,hx,hr⟩:=he t _ hb
   have:=hr.val
   subst this
   have hy:=hy _ hx
   have:Region.wanted o (yielded ops a.tmps)=true:=by simp [Region.wanted,hg,hy]
   rw [if_pos this]
   exact exec v' h1 h2
  ·obtain ⟨x,hx,hr⟩:=he t _ hb
   have:=hr.val
   subst this
   have hy:=hy _ hx
   have:Region.wanted o (yielded ops a.tmps)=false:=by simp [Region.wanted,hg,hy,hw]
   rw [this]
   exact skip h1 h2
  ·obtain ⟨x,hx,hr⟩:=he t _ hb
   obtain ⟨vs,rfl,_⟩:=hr.Kt
   have hy:=hy _ hx
   have:Region.wanted o (yielded ops a.tmps)=false:=by simp [Region.wanted,hg,hy]
   rw [this]
   exact skip h1 h2
end
end
end Go.Proofs.YtnegekppaoedgaaGreatDoor

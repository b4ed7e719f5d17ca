/-
  Evaluation of Go code on plain data: calls; every operation. Over any program.
  Evaluation of Go code on plain data: code and functions. Over any program.
-/
import Derived.Test.YtiklglcjecopcaaGreatDoorQ11
import Derived.Deep.LoopGhost
namespace Go.Proofs.YtiklglcjecopcaaGreatDoor
open Go.RowKit
section
variable {P : Program} {T : Nat → TI} {F : FuncId → List AV → AV → Prop} {w0 : Start} {A : Nat → Prop} {o : Oper} {a : Act} {κ : Cx} {m m' : Mem} {v : AV} {Q : Exit → Act → World → Prop} {env : Nat → Option AV}
theorem sim_call (hF:∀f args r,F f args r→FnX w0.dr P f args r) (hs:Sim w0 A m κ) (he:EnvOk κ env a.tmps) {fv:Operand} {xs:Array Operand} {ts:Array TypeId} {s:Nat} (ho:o.op= .call {callee:= .value fv,args:=xs,argTypes:=ts}) (h:(fcallF s (rhoOf env fv) (xs.toList.map (rhoOf env))).Runs F m v m'):
  o.wp P a κ.w (fun a' w'=> After w0 A κ o v m' a a' w') Q:=by
 generalize hfv:rhoOf env fv=c at h
 unfold fcallF at h
 split at h
 ·rename_i f cs
  cases hcap:cs.all cap1
  ·rw [hcap] at h;cases h
  rw [hcap] at h
  simp only [cond_true] at h
  have hrf:=ev_rel he hfv
  obtain ⟨us,hfe,hus⟩:∃us:Array Value,a.eval fv= .func (.func f) #[] us∧RelL κ cs us.toList:=by
   generalize a.eval fv=y at hrf
   cases hrf with
   | @fn _ _ vs hl hh=> exact ⟨vs,rfl,by simpa using hl,fun j c y hc hy=> hh j c y hc (by simpa using hy)⟩
  obtain ⟨ys,l,h,hr,hrows⟩:=argT_runs (xs.toList.map (rhoOf env) ++ cs.map some) _ m κ (xs.toList.map a.eval ++ us.toList) v m' hs (by have:=hus.1;simp at this;simp [this]) (fun j c u hc hu=> by
   rw [List.getElem?_append] at hc hu
   split at hc
   ·rename_i hlt
    rw [if_pos (by simpa using hlt)] at hu
    rw [List.getElem?_map] at hc hu
    cases hq:xs.toList[j]? with
    | none=> rw [hq] at hc;simp at hc
    | some q=>
     rw [hq] at hc hu
     simp at hc hu
     subst hu
     exact ev_rel he hc
   ·rename_i hge
    rw [if_neg (by simpa using hge)] at hu
    rw [List.getElem?_map] at hc
    simp only [List.length_map] at hc hu
    cases hq:cs[j - xs.toList.length]? with
    | none=> rw [hq] at hc;simp at hc
    | some q=>
     rw [hq] at hc
     simp at hc
     subst hc
     exact hus.2 _ _ u hq hu) h
  cases h with
  | call hf h=>
   rename_i x
   have hfn:=(hF f ys x hf).fn hr
   have hrun:(execOp a.eval o).run P κ.w= .ok (.enter f (xs.map a.eval ++ us)) κ.w:=by
    unfold execOp
    rw [ho]
    simp [resolve,hfe,Deferred.ofValue,invoke,hfn.1]
   have hc:=hfn.2 κ.w (fun b=> κ.S b∨BlkOf κ l b) (xs.map a.eval ++ us) hs.inv (fun b hb=> by
    rcases hb with hb | ⟨p,hp,hb⟩
    ·exact (hs.st b hb).1
    ·obtain ⟨i,hi⟩:=hrows p hp
     exact (hs.own p.1 p.2 _ b hi hb).2) (by simpa using hr)
   unfold Oper.wp
   rw [hrun]
   refine Calls.mono hc ?_
   rintro e w' ⟨y,S',bs,rfl,hbel,hS',hres,hap,hown⟩
   show After w0 A κ o v m' a (a.put o.dst y) w'
   have hz:=hbel.size
   dsimp only at h
   cases hsc:scalar x
   ·rw [hsc] at h
    simp only [cond_false] at h
    obtain ⟨q1,q2⟩:=hs.grow hbel (S':=fun b=> κ.S b∨(S' b∧κ.w.heap.size≤b)) (fun b hb=> Or.inl hb) (fun b hb=> by
     rcases hb with hb | ⟨hb,hge⟩
     ·exact Or.inl hb
     ·exact Or.inr ⟨hge,(hS' b hb).1⟩)
    obtain ⟨m1,S1,r1,r2,r3,r4,r5⟩:=frzL_runs l _ m _ v m' q1 h
    have hsub:∀b,S' b→S1 b:=by
     intro b hb
     rw [r3 b]
     rcases (hS' b hb).2 with (hS | hS) | hge
     ·exact Or.inl (Or.inl hS)
     ·exact Or.inr hS
     ·exact Or.inl (Or.inr ⟨hb,hge⟩)
    obtain ⟨m2,κ2,yy,t1,t2,t3,t4,t5⟩:=recv_runs r1 (hres.mono hsub) hap (fun c hc=> by
     obtain ⟨o1,o2,o3⟩:=hown c hc
     refine ⟨Or.inl (Nat.le_trans hs.below.size o1),o2,fun hS=> ?_,fun s g i hi hb=> ?_⟩
     ·have hS:=(r3 c).1 hS
      rcases hS with (hS | ⟨hS,_⟩) | ⟨p,hp,hS⟩
      ·have:=(hs.st c hS).1;omega
      ·exact o3 hS
      ·obtain ⟨i,hi⟩:=hrows p hp
       have:=(hs.own p.1 p.2 _ c hi hS).2
       omega
     ·obtain ⟨i',hi'⟩:=r4 s g i hi
      have:=(hs.own s g i' c hi' hb).2
      omega) r5
    obtain ⟨rfl,rfl⟩:=ret_inv t5
    exact ⟨κ2,t3,t1,q2.trans (r2.trans t2),y,rfl,t4⟩
   ·rw [hsc] at h
    simp only [cond_true] at h
    obtain ⟨q1,q2⟩:=hs.grow hbel (S':=κ.S) (fun b hb=> hb) (fun b hb=> Or.inl hb)
    obtain ⟨m2,κ2,yy,t1,t2,t3,t4,t5⟩:=recv_runs q1 (scalar_res hsc hres) hap (fun c hc=> by
     obtain ⟨o1,o2,o3⟩:=hown c hc
     refine ⟨Or.inl (Nat.le_trans hs.below.size o1),o2,fun hS=> ?_,fun s g i hi hb=> ?_⟩
     ·have:=(hs.st c hS).1;omega
     ·have:=(hs.own s g i c hi hb).2
      omega) h
    obtain ⟨rfl,rfl⟩:=ret_inv t5
    exact ⟨κ2,t3,t1,q2.trans t2,y,rfl,t4⟩
 ·cases h
theorem set_none {m:Mem} {s g:Nat} {i:Option Inst}:(m.set s g i).set s g none=m.set s g none:=by
 have:(m.set s g i).set s g none={at_:=((m.set s g i).set s g none).at_,gen:=m.gen}:=rfl
 rw [this]
 have h2:m.set s g none={at_:=(m.set s g none).at_,gen:=m.gen}:=rfl
 rw [h2]
 congr 1
 funext x y
 simp only [setAt]
 split
 ·rfl
 ·rfl
theorem row_own {m:Mem} {κ:Cx} (hs:Sim w0 A m κ) {s g sz n:Nat} {es:List (List D)} (hi:m.at_ s g=some (.rows sz es false)) {u:Value} (hu:Rel κ (.row s g n) u):OwnAt κ.S κ.w sz es u (κ.φ s g).blk:=by
 obtain ⟨e1,e2,e3⟩:=hs.ok s g _ hi
 refine ⟨e2,?_⟩
 cases hu with
 | row0 A' hg hb hl=>
  rw [hl] at e1
  exact Or.inl ⟨hb,List.eq_nil_of_length_eq_zero e1,A',rfl⟩
 | row hg hb=>
  rcases e3 with ⟨h4,_⟩ | ⟨b',tt,cur,hb',hz,hh,hl,hm,hc,hra⟩
  ·rw [h4] at hb;cases hb
  ·rw [hb] at hb'
   injection hb' with hb'
   subst hb'
   rw [←e1] at hl ⊢
   exact Or.inr ⟨_,tt,cur,_,hb,rfl,hh,hl,hm,hc,hra⟩
theorem own_inst {κ:Cx} {sz:Nat} {es:List (List D)} {v:Value} {b:Option Nat} (h:OwnAt κ.S κ.w sz es v b) {l:Loc} (hb:l.blk=b) (hl:l.len=es.length) (hv:∀A n c,v= .slice A n c→b≠none→l.cap=c) (hz:b≠none→l.sz=sz):InstOk κ l (.rows sz es false):=by
 obtain ⟨h1,h2⟩:=h
 refine ⟨hl.symm,h1,?_⟩
 rcases h2 with ⟨rfl,rfl,_⟩ | ⟨g,T,cur,cap,rfl,rfl,hh,hle,hm,hc,hr⟩
 ·exact Or.inl ⟨hb,rfl⟩
 ·have hcap:=hv _ _ _ rfl (by simp)
  refine Or.inr ⟨g,T,cur,hb,hz (by simp),hh,by rw [hl,hcap];exact hle,by rw [hcap];exact hm,by rw [hcap];exact hc,hr⟩
theorem one_arg {xs:Array Operand} {v:AV} (h:xs.toList.map (rhoOf env)= [some v]):∃x,xs= #[x]∧rhoOf env x=some v:=by
 obtain ⟨l⟩:=xs
 cases l with
 | nil=> simp at h
 | cons x r=>
  cases r with
  | nil=> exact ⟨x,rfl,by simpa using h⟩
  | cons y r=> simp at h
theorem two_args {xs:Array Operand} {u v:AV} (h:xs.toList.map (rhoOf env)= [some u,some v]):∃x y,xs= #[x,y]∧rhoOf env x=some u∧rhoOf env y=some v:=by
 obtain ⟨l⟩:=xs
 match l,h with
 | [],h=> simp at h
 | [x],h=> simp at h
 | [x,y],h=>
  simp at h
  exact ⟨x,y,rfl,h⟩
 | _::_::_::_,h=> simp at h
theorem sim_keys (hF:∀f args r,F f args r→FnX w0.dr P f args r) (hs:Sim w0 A m κ) (he:EnvOk κ env a.tmps) {f:FuncId} {xs:Array Operand} {ts:Array TypeId} {s:Nat} (ho:o.op= .call {callee:= .value (.func f),args:=xs,argTypes:=ts})
  (h:(keysF s f (xs.toList.map (rhoOf env))).Runs F m v m'):o.wp P a κ.w (fun a' w'=> After w0 A κ o v m' a a' w') Q:=by
 generalize hzs:xs.toList.map (rhoOf env)=zs at h
 have key:∀(x:Operand) (c:AV) (r:AV),xs= #[x]→F f [.tup [.ow 0 []]] r→(∃mb,a.eval x= .map (some mb)∧Rel κ c (.map (some mb)))→
   (match r with | .fn kf []=> Step.new s (.box [c]) fun g'=> .ret (.fn kf [.lp s g' 0]) | _=> .fail).Runs F m v m'→o.wp P a κ.w (fun a' w'=> After w0 A κ o v m' a a' w') Q:=by
  rintro x c r rfl hf ⟨mb,hu,hc0⟩ h
  obtain ⟨kf,rfl,he1,ty,hc⟩:=(show FnKeys P f r from hF f _ _ hf)
  dsimp only at h
  cases h with
  | new h=>
   obtain ⟨rfl,rfl⟩:=ret_inv h
   have hgn:m.gen s + 1=κ.gn s + 1:=by rw [hs.gn]
   have hrun:(execOp a.eval o).run P κ.w= .ok (.enter f #[.map (some mb)]) κ.w:=by
    have ef:a.eval (.func f)= .func (.func f) #[] #[]:=rfl
    unfold execOp
    rw [ho]
    simp [resolve,ef,Deferred.ofValue,invoke,he1,hu]
   unfold Oper.wp
   rw [hrun]
   refine Calls.mono (hc mb κ.w) ?_
   rintro e w' ⟨rfl,rfl⟩
   obtain ⟨q1,q2⟩:=hs.add (belowD_alloc κ.w (.cells #[.map (some mb)] ty)) s (.box [c]) ⟨some κ.w.heap.size,0,0,0⟩ (fun b hb=> by injection hb with hb;subst hb;exact hs.fresh (Nat.le_refl _) (by simp)) rfl
    (fun hle=> ⟨_,ty,#[.map (some mb)],rfl,heap_alloc_new _ _,rfl,fun j c u hc hu=> by
     match j,hc,hu with
     | 0,hc,hu=>
      injection hc with hc
      injection hu with hu
      subst hc hu
      exact ⟨hc0.mono hle,rfl⟩⟩)
   refine ⟨_,rfl,q1,q2,_,rfl,.fn rfl fun j c u hc hu=> ?_⟩
   match j,hc,hu with
   | 0,hc,hu=>
    injection hc with hc
    injection hu with hu
    subst hc hu
    rw [hgn]
    exact .lp (by rw [Cx.put_gn];exact Nat.le_refl _) (by rw [Cx.put_new])
 unfold keysF at h
 split at h
 ·rename_i s1 g1
  obtain ⟨x,rfl,hxe⟩:=one_arg hzs
  cases h with
  | call hf h=>
   refine key x (.mp s1 g1) _ rfl hf ?_ h
   have hrel:=ev_rel he hxe
   generalize a.eval x=u at hrel
   cases hrel with
   | @mp _ _ mb hg hb=> exact ⟨mb,rfl,.mp hg hb⟩
 ·rename_i n
  obtain ⟨x,y,rfl,hxe,hye⟩:=two_args hzs
  cases h with
  | @call _ _ _ _ _ _ r hf h=>
   obtain ⟨sz,rs,rfl,he1,hc⟩:=(show FnGrow w0.dr P f n r from hF f _ _ hf)
   obtain ⟨B,hu⟩:∃B,a.eval x= .slice B 0 0:=by
    have hrel:=ev_rel he hxe
    generalize a.eval x=u at hrel
    cases hrel
    exact ⟨_,rfl⟩
   have hu2:a.eval y= .int .i64 n:=(ev_rel he hye).val
   have hrun:(execOp a.eval o).run P κ.w= .ok (.enter f #[.slice B 0 0,.int .i64 n]) κ.w:=by
    have ef:a.eval (.func f)= .func (.func f) #[] #[]:=rfl
    unfold execOp
    rw [ho]
    simp [resolve,ef,Deferred.ofValue,invoke,he1,hu,hu2]
   unfold Oper.wp
   rw [hrun]
   refine Calls.mono (hc B κ.w) ?_
   rintro e w' ⟨y,b,rfl,hbel,hown,hfree⟩
   show After w0 A κ o v m' a (a.put o.dst y) w'
   obtain ⟨q1,q2⟩:=hs.grow hbel (S':=κ.S) (fun b hb=> hb) (fun b hb=> Or.inl hb)
   have hres:Res κ.S w' (.ow sz rs) y [b]:=⟨b,rfl,hown.1,by
    rcases hown.2 with h | ⟨g,T,cur,cap,h1,h2,h3,h4,h5,h6,h7⟩
    ·exact Or.inl h
    ·exact Or.inr ⟨g,T,cur,cap,h1,h2,h3,h4,h5,h6,fun i j e x k1 k2=> by
      obtain ⟨z,z1,z2⟩:=h7 i j e x k1 k2
      exact ⟨z,z1,z2.mono (fun b hb=> hb.elim) fun b hb=> hb.elim⟩⟩⟩
   obtain ⟨m2,κ2,yy,t1,t2,t3,t4,t5⟩:=recv_runs q1 hres (by
    unfold Apart
    cases b <;> simp) (fun c hc=> by
    have hc:b=some c:=(List.mem_singleton.1 hc).symm
    obtain ⟨o1,o2⟩:=hfree c hc
    refine ⟨Or.inl (Nat.le_trans hs.below.size o1),o2,fun hS=> ?_,fun s g i hi hb=> ?_⟩
    ·have:=(hs.st c hS).1;omega
    ·have:=(hs.own s g i c hi hb).2
     omega) h
   obtain ⟨rfl,rfl⟩:=ret_inv t5
   exact ⟨κ2,t3,t1,q2.trans t2,y,rfl,t4⟩
 ·rename_i ck es
  obtain ⟨x,rfl,hxe⟩:=one_arg hzs
  cases h with
  | call hf h=>
   refine key x (.d (.mz ck es)) _ rfl hf ?_ h
   have hrel:=ev_rel he hxe
   generalize a.eval x=u at hrel
   cases hrel with
   | d hd=>
    obtain ⟨mb,_,_,rfl,_⟩:=hd.map_inv
    exact ⟨mb,rfl,.d hd⟩
 ·cases h
theorem sim_skeys (hF:∀f args r,F f args r→FnX w0.dr P f args r) (hs:Sim w0 A m κ) (he:EnvOk κ env a.tmps) {f:FuncId} {xs:Array Operand} {ts:Array TypeId} {s:Nat} (ho:o.op= .call {callee:= .value (.func f),args:=xs,argTypes:=ts})
  (h:(skeysF s f (xs.toList.map (rhoOf env))).Runs F m v m'):o.wp P a κ.w (fun a' w'=> After w0 A κ o v m' a a' w') Q:=by
 generalize hzs:xs.toList.map (rhoOf env)=zs at h
 unfold skeysF at h
 split at h
 ·rename_i kf s1 g1
  obtain ⟨x,rfl,hxe⟩:=one_arg hzs
  cases h with
  | rdb hi h=>
   rename_i cs
   dsimp only at h
   have key:∀(c:AV) (es:List (Value×D)) (ck:CK) (r:AV),cs= [c]→(∀u,Rel κ c u→∃mb ents clock,u= .map (some mb)∧κ.w.heap[mb]? =some (.map ents clock)∧MapAt κ ck ents es∧MapKept.Stamped ents clock)→F f [.fn kf [.ow 1 (es.map fun p=> [.v p.1])]] r→
     (recv s r .ret).Runs F m v m'→o.wp P a κ.w (fun a' w'=> After w0 A κ o v m' a a' w') Q:=by
    rintro c es ck r rfl hcm hf h
    obtain ⟨rs,rfl,he1,hc⟩:=(show FnSKeys w0.dr P f kf _ r from hF f _ _ hf)
    have hrel:=ev_rel he hxe
    generalize hu:a.eval x=u at hrel
    cases hrel with
    | @fn _ _ us hl hh=>
     have hlt:0 < us.size:=by rw [hl];simp
     have h0:us[0]? =some (us[0]'hlt):=Array.getElem?_eq_getElem hlt
     have hp:=hh 0 _ _ rfl h0
     have hus:us= #[us[0]'hlt]:=by
      apply Array.ext
      ·rw [hl];rfl
      ·intro i h1 h2
       have:i=0:=by rw [hl] at h1;simp at h1;exact h1
       subst this
       rfl
     generalize us[0]'hlt=p0 at hp hus
     subst hus
     cases hp with
     | @lp _ _ _ bb hg hb=>
      obtain ⟨b1,T1,vs1,hb1,hh1,hs1,hr1⟩:=hs.ok _ _ _ hi
      rw [hb] at hb1
      injection hb1 with hb1
      subst hb1
      have hlt1:0 < vs1.size:=by rw [hs1];simp
      have h01:vs1[0]? =some (vs1[0]'hlt1):=Array.getElem?_eq_getElem hlt1
      have hm1:=(hr1 0 _ _ rfl h01).1
      have hcell:κ.w.cell? ⟨bb,0,none⟩=some (vs1[0]'hlt1):=by rw [cell_of_row _ _ _ vs1 T1 (0,0) hh1,h01]
      obtain ⟨mb,ents,clock,hev,hmh,hm,hst⟩:=hcm _ hm1
      rw [hev] at hcell
      have hrun:(execOp a.eval o).run P κ.w= .ok (.enter f #[.func (.func kf) #[] #[.pointer (some ⟨bb,0,none⟩)]]) κ.w:=by
       have ef:a.eval (.func f)= .func (.func f) #[] #[]:=rfl
       unfold execOp
       rw [ho]
       simp [resolve,ef,Deferred.ofValue,invoke,he1,hu]
      unfold Oper.wp
      rw [hrun]
      refine Calls.mono (hc κ.w bb mb ents clock (hs.own _ _ _ bb hi hb).2 hcell hmh hst (by rw [List.length_map];exact hm.1) fun j c e hc he'=> ?_) ?_
      ·rw [List.getElem?_map] at hc
       cases hq:es[j]? with
       | none=> rw [hq] at hc;cases hc
       | some p=>
        rw [hq] at hc
        injection hc with hc
        subst hc
        rw [(hm.2 j p e hq he').1]
      ·rintro e w' ⟨y,b,rfl,hbel,hown,hfree⟩
       show After w0 A κ o v m' a (a.put o.dst y) w'
       obtain ⟨q1,q2⟩:=hs.grow hbel (S':=κ.S) (fun b hb=> hb) (fun b hb=> Or.inl hb)
       have hres:Res κ.S w' (.ow 1 rs) y [b]:=⟨b,rfl,hown.1,by
        rcases hown.2 with h | ⟨g,T,cur,cap,h1,h2,h3,h4,h5,h6,h7⟩
        ·exact Or.inl h
        ·exact Or.inr ⟨g,T,cur,cap,h1,h2,h3,h4,h5,h6,fun i j e x k1 k2=> by
          obtain ⟨z,z1,z2⟩:=h7 i j e x k1 k2
          exact ⟨z,z1,z2.mono (fun b hb=> hb.elim) fun b hb=> hb.elim⟩⟩⟩
       obtain ⟨m2,κ2,yy,t1,t2,t3,t4,t5⟩:=recv_runs q1 hres (by
        unfold Apart
        cases b <;> simp) (fun c hc=> by
        have hc:b=some c:=(List.mem_singleton.1 hc).symm
        obtain ⟨o1,o2⟩:=hfree c hc
        refine ⟨Or.inl (Nat.le_trans hs.below.size o1),o2,fun hS=> ?_,fun s g i hi hb=> ?_⟩
        ·have:=(hs.st c hS).1;omega
        ·have:=(hs.own s g i c hi hb).2
         omega) h
       obtain ⟨rfl,rfl⟩:=ret_inv t5
       exact ⟨κ2,t3,t1,q2.trans t2,y,rfl,t4⟩
   split at h
   ·rename_i s2 g2
    cases h with
    | rdm hj h=>
     rename_i ck es
     cases h with
     | call hf h=>
      refine key (.mp s2 g2) es ck _ rfl (fun u hu=> ?_) hf h
      obtain ⟨mb,ents,clock,hev,hbk,hmh,hm,hst⟩:=map_block hs hj hu
      exact ⟨mb,ents,clock,hev,hmh,hm,hst⟩
   ·rename_i ck es
    cases h with
    | call hf h=>
     refine key (.d (.mz ck es)) es ck _ rfl (fun u hu=> ?_) hf h
     cases hu with
     | d hd=>
      obtain ⟨mb,ents,clock,rfl,_,hmh,hm,hst⟩:=hd.map_inv
      exact ⟨mb,ents,clock,rfl,hmh,hm,hst⟩
   ·cases h
 ·rename_i kf s1 g1 cf
  obtain ⟨x,y0,rfl,hxe,hye⟩:=two_args hzs
  cases h with
  | rdb hi h=>
   rename_i cs
   dsimp only at h
   have key:∀(c:AV) (es:List (Value×D)) (ck:CK) (r:AV),cs= [c]→(∀u,Rel κ c u→∃mb ents clock,u= .map (some mb)∧κ.w.heap[mb]? =some (.map ents clock)∧MapAt κ ck ents es∧MapKept.Stamped ents clock)→F f [.fn kf [.ow 1 (es.map fun p=> [.v p.1])],.fn cf []] r→
     (recv s r .ret).Runs F m v m'→o.wp P a κ.w (fun a' w'=> After w0 A κ o v m' a a' w') Q:=by
    rintro c es ck r rfl hcm hf h
    obtain ⟨sz,rs,rfl,he1,hc⟩:=(show FnSKeysF w0.dr P f kf cf _ r from hF f _ _ hf)
    have hu2:a.eval y0= .func (.func cf) #[] #[]:=by
     have hrel:=ev_rel he hye
     generalize a.eval y0=u at hrel
     cases hrel with
     | @fn _ _ us hl hh=>
      have:us= #[]:=Array.eq_empty_of_size_eq_zero hl
      rw [this]
    have hrel:=ev_rel he hxe
    generalize hu:a.eval x=u at hrel
    cases hrel with
    | @fn _ _ us hl hh=>
     have hlt:0 < us.size:=by rw [hl];simp
     have h0:us[0]? =some (us[0]'hlt):=Array.getElem?_eq_getElem hlt
     have hp:=hh 0 _ _ rfl h0
     have hus:us= #[us[0]'hlt]:=by
      apply Array.ext
      ·rw [hl];rfl
      ·intro i h1 h2
       have:i=0:=by rw [hl] at h1;simp at h1;exact h1
       subst this
       rfl
     generalize us[0]'hlt=p0 at hp hus
     subst hus
     cases hp with
     | @lp _ _ _ bb hg hb=>
      obtain ⟨b1,T1,vs1,hb1,hh1,hs1,hr1⟩:=hs.ok _ _ _ hi
      rw [hb] at hb1
      injection hb1 with hb1
      subst hb1
      have hlt1:0 < vs1.size:=by rw [hs1];simp
      have h01:vs1[0]? =some (vs1[0]'hlt1):=Array.getElem?_eq_getElem hlt1
      have hm1:=(hr1 0 _ _ rfl h01).1
      have hcell:κ.w.cell? ⟨bb,0,none⟩=some (vs1[0]'hlt1):=by rw [cell_of_row _ _ _ vs1 T1 (0,0) hh1,h01]
      obtain ⟨mb,ents,clock,hev,hmh,hm,hst⟩:=hcm _ hm1
      rw [hev] at hcell
      have hrun:(execOp a.eval o).run P κ.w= .ok (.enter f #[.func (.func kf) #[] #[.pointer (some ⟨bb,0,none⟩)],.func (.func cf) #[] #[]]) κ.w:=by
       have ef:a.eval (.func f)= .func (.func f) #[] #[]:=rfl
       unfold execOp
       rw [ho]
       simp [resolve,ef,Deferred.ofValue,invoke,he1,hu,hu2]
      unfold Oper.wp
      rw [hrun]
      refine Calls.mono (hc κ.w bb mb ents clock hs.inv (hs.own _ _ _ bb hi hb).2 hcell hmh hst (by rw [List.length_map];exact hm.1) fun j c e hc he'=> ?_) ?_
      ·rw [List.getElem?_map] at hc
       cases hq:es[j]? with
       | none=> rw [hq] at hc;cases hc
       | some p=>
        rw [hq] at hc
        injection hc with hc
        subst hc
        rw [(hm.2 j p e hq he').1]
      ·rintro e w' ⟨y,b,rfl,hbel,hown,hfree⟩
       show After w0 A κ o v m' a (a.put o.dst y) w'
       obtain ⟨q1,q2⟩:=hs.grow hbel (S':=κ.S) (fun b hb=> hb) (fun b hb=> Or.inl hb)
       have hres:Res κ.S w' (.ow sz rs) y [b]:=⟨b,rfl,hown.1,by
        rcases hown.2 with h | ⟨g,T,cur,cap,h1,h2,h3,h4,h5,h6,h7⟩
        ·exact Or.inl h
        ·exact Or.inr ⟨g,T,cur,cap,h1,h2,h3,h4,h5,h6,fun i j e x k1 k2=> by
          obtain ⟨z,z1,z2⟩:=h7 i j e x k1 k2
          exact ⟨z,z1,z2.mono (fun b hb=> hb.elim) fun b hb=> hb.elim⟩⟩⟩
       obtain ⟨m2,κ2,yy,t1,t2,t3,t4,t5⟩:=recv_runs q1 hres (by
        unfold Apart
        cases b <;> simp) (fun c hc=> by
        have hc:b=some c:=(List.mem_singleton.1 hc).symm
        obtain ⟨o1,o2⟩:=hfree c hc
        refine ⟨Or.inl (Nat.le_trans hs.below.size o1),o2,fun hS=> ?_,fun s g i hi hb=> ?_⟩
        ·have:=(hs.st c hS).1;omega
        ·have:=(hs.own s g i c hi hb).2
         omega) h
       obtain ⟨rfl,rfl⟩:=ret_inv t5
       exact ⟨κ2,t3,t1,q2.trans t2,y,rfl,t4⟩
   split at h
   ·rename_i s2 g2
    cases h with
    | rdm hj h=>
     rename_i ck es
     cases h with
     | call hf h=>
      refine key (.mp s2 g2) es ck _ rfl (fun u hu=> ?_) hf h
      obtain ⟨mb,ents,clock,hev,hbk,hmh,hm,hst⟩:=map_block hs hj hu
      exact ⟨mb,ents,clock,hev,hmh,hm,hst⟩
   ·cases h
 ·cases h
theorem OwnAt.plain {S S2:Nat→Prop} {w:World} {sz:Nat} {es:List (List D)} {v:Value} {b:Option Nat} (h:OwnAt S w sz es v b) (hp:PlainL es):OwnAt S2 w sz es v b:=by
 obtain ⟨h1,h2⟩:=h
 refine ⟨h1,?_⟩
 rcases h2 with h2 | ⟨g,T,cur,cap,k1,k2,k3,k4,k5,k6,k7⟩
 ·exact Or.inl h2
 ·refine Or.inr ⟨g,T,cur,cap,k1,k2,k3,k4,k5,k6,fun i j e x hi hj=> ?_⟩
  obtain ⟨u,e1,e2⟩:=k7 i j e x hi hj
  refine ⟨u,e1,?_⟩
  obtain ⟨y,rfl⟩:=hp e (List.mem_of_getElem? hi) x (List.mem_of_getElem? hj)
  cases e2 with
  | v _ h1=> exact .v _ h1
theorem sim_own (hF:∀f args r,F f args r→FnX w0.dr P f args r) (hs:Sim w0 A m κ) (he:EnvOk κ env a.tmps) {fv:Operand} {xs:Array Operand} {ts:Array TypeId} {s0:Nat} (ho:o.op= .call {callee:= .value fv,args:=xs,argTypes:=ts}) (h:(ocallF T s0 fv (xs.toList.map (rhoOf env))).Runs F m v m'):
  o.wp P a κ.w (fun a' w'=> After w0 A κ o v m' a a' w') Q:=by
 unfold ocallF at h
 split at h
 ·rename_i f
  cases h3:Nat.beq (ownF T f) 3
  case true=>
   rw [h3] at h
   exact sim_keys hF hs he ho h
  rw [h3] at h
  simp only [cond_false] at h
  cases h4:Nat.beq (ownF T f) 4
  case true=>
   rw [h4] at h
   exact sim_skeys hF hs he ho h
  rw [h4] at h
  simp only [cond_false] at h
  cases h7:Nat.beq (ownF T f) 7
  case true=>
   rw [h7] at h
   exact sim_obj hF hs he ho (.refl κ) rfl h
  rw [h7] at h
  simp only [cond_false] at h
  cases h6:Nat.beq (ownF T f) 6
  case true=>
   rw [h6] at h
   obtain ⟨m1,κ1,g1,g2,g3,h⟩:=objP_runs _ _ m κ hs h
   exact sim_obj hF g1 (he.mono g2) ho g2 g3.symm h
  rw [h6] at h
  simp only [cond_false] at h
  clear h3 h4 h6 h7
  generalize hxs:xs.toList.map (rhoOf env)=zs at h
  generalize ownF T f=way at h
  unfold ownCF at h
  split at h
  ·rename_i s g n vs
   obtain ⟨x0,xr,hx,hx0,hxr⟩:∃x0 xr,xs.toList=x0::xr∧rhoOf env x0=some (.row s g n)∧xr.map (rhoOf env)=vs:=by
    cases hq:xs.toList with
    | nil=> rw [hq] at hxs;cases hxs
    | cons x0 xr=>
     rw [hq] at hxs
     injection hxs with h1 h2
     exact ⟨x0,xr,rfl,h1,h2⟩
   have hrow:=ev_rel he hx0
   obtain ⟨ys,l,h,hr,hrows⟩:=argTW_runs vs _ m κ (xr.map a.eval) v m' hs (by rw [←hxr];simp) (fun j c u hc hu=> by
    rw [←hxr] at hc
    rw [List.getElem?_map] at hc hu
    cases hq:xr[j]? with
    | none=> rw [hq] at hc;simp at hc
    | some q=>
     rw [hq] at hc hu
     simp at hc hu
     subst hu
     exact ev_rel he hc) h
   have hrun:(∀(args:Array Value) (w:World),(callFunc f args).run P w= .ok (.enter f args) w)→(execOp a.eval o).run P κ.w= .ok (.enter f (#[a.eval x0] ++ (xr.map a.eval).toArray)) κ.w:=by
    intro h1
    have e:xs.map a.eval= #[a.eval x0] ++ (xr.map a.eval).toArray:=by
     apply Array.ext'
     simp [hx]
    have ef:a.eval (.func f)= .func (.func f) #[] #[]:=rfl
    unfold execOp
    rw [ho]
    simp [resolve,ef,Deferred.ofValue,invoke,h1,e]
   cases hni:notIn l s g
   ·rw [hni] at h;cases h
   rw [hni] at h
   simp only [cond_true] at h
   generalize hu:a.eval x0=u at hrow hrun
   cases hway:Nat.beq way 1
   ·rw [hway] at h
    simp only [cond_false] at h
    cases h with
    | rww hi h=>
     rename_i sz es
     cases h with
     | call hf h=>
      rename_i x
      have hfn:FnW w0.dr P f sz es ys x:=hF f _ x hf
      have hbS:∀c,(κ.φ s g).blk=some c→w0.New c∧c < κ.w.heap.size∧¬κ.S c:=fun c hc=>
       ⟨(hs.own s g _ c hi hc).1,(hs.own s g _ c hi hc).2,hs.notS s g _ c hi hc rfl⟩
      have hc:=hfn.2 κ.w (fun b=> κ.S b∨BlkOf κ l b) κ.S u (κ.φ s g).blk (xr.map a.eval).toArray hs.inv (fun c hc=> hs.noTab hi hc) (fun b hb=> by
       rcases hb with hb | ⟨p,hp,hb⟩
       ·exact (hs.st b hb).1
       ·obtain ⟨i,hi⟩:=hrows p hp
        exact (hs.own p.1 p.2 _ b hi hb).2) (fun _ h=> Or.inl h) (row_own hs hi hrow) (fun c hc=> ⟨(hbS c hc).2.1,by
        rintro (hS | ⟨p,hp,hS⟩)
        ·exact (hbS c hc).2.2 hS
        ·obtain ⟨i,hip⟩:=hrows p hp
         have:=hs.sep s g _ p.1 p.2 i c hi hip hc hS rfl
         have hq:=List.all_eq_true.1 hni p hp
         rw [this.1,this.2] at hq
         simp at hq⟩) (by simpa using hr)
      unfold Oper.wp
      rw [hrun hfn.1]
      refine Calls.mono hc ?_
      rintro e w' ⟨y,rfl,hbel,hres⟩
      show After w0 A κ o v m' a (a.put o.dst y) w'
      unfold ownR2 at h
      split at h
      ·rename_i sz' es'
       cases hz:Nat.beq sz sz'
       ·rw [hz] at h;cases h
       rw [hz] at h
       have hz:=Nat.eq_of_beq_eq_true hz
       subst hz
       simp only [cond_true] at h
       obtain ⟨S',b',hS',hown',hb'⟩:=hres
       cases h with
       | chk hpl h=>
       cases h with
       | wr h=>
        cases h with
        | app hi2 h=>
         rw [setAt,if_pos ⟨rfl,rfl⟩] at hi2
         injection hi2 with hi2
         injection hi2 with q1 q2 q3
         subst q2
         obtain ⟨rfl,rfl⟩:=ret_inv h
         rw [set_none,List.append_nil]
         have hd:=hs.drop s g
         have sepd:∀c,(κ.φ s g).blk=some c→∀x y i,(m.set s g none).at_ x y=some i→(κ.φ x y).blk≠some c:=by
          intro c hc x y i hxy e
          rw [setAt] at hxy
          split at hxy
          ·cases hxy
          ·rename_i hne
           have:=hs.sep s g _ x y i c hi hxy hc e rfl
           exact hne ⟨this.1.symm,this.2.symm⟩
         obtain ⟨t1,t2⟩:=hd.growX hbel (fun c hc=> ⟨(hbS c hc).1,(hbS c hc).2.2,sepd c hc⟩) (S':=κ.S) (fun c hc=> hc) (fun c hc=> Or.inl hc)
         have free:∀c,b'=some c→Free w0 (m.set s g none) {κ with w:=w',S:=κ.S} c:=by
          intro c hc
          obtain ⟨f1,f2,f3⟩:=hb' c hc
          refine ⟨?_,f2,?_,?_⟩
          ·rcases f1 with f1 | f1
           ·exact (hbS c f1).1
           ·exact Or.inl (Nat.le_trans hs.below.size f1)
          ·intro hS
           rcases f1 with f1 | f1
           ·exact (hbS c f1).2.2 hS
           ·have:=(hs.st c hS).1
            omega
          ·intro x y i hxy e
           rcases f1 with f1 | f1
           ·exact sepd c f1 x y i hxy e
           ·have:=(hd.own x y i c hxy e).2
            omega
         have hown2:OwnAt κ.S w' sz es' y b':=hown'.plain hpl
         obtain ⟨m2,κ2,yy,g1,g2,g3,g4,g5,g6,g7⟩:=recv1_runs (F:=F) (k:=fun z=> .ret z) (v:= .row s ((m.set s g none).gen s + 1) es'.length) (m':=(m.set s g none).add s (.rows sz es' false)) (x:= .ow sz es') (s:=s) t1 hown2 free (.new .ret)
         obtain ⟨e1,e2⟩:=ret_inv g6
         rw [←e2] at g1
         rw [←e1] at g5
         exact ⟨κ2,g3,g1,t2.trans g2,y,rfl,g5⟩
      ·cases h
   ·rw [hway] at h
    simp only [cond_true] at h
    cases h with
    | rww hi h=>
     rename_i sz es
     cases h with
     | call hf h=>
      rename_i x
      have hfn:FnW w0.dr P f sz es ys x:=hF f _ x hf
      have hbS:∀c,(κ.φ s g).blk=some c→w0.New c∧c < κ.w.heap.size∧¬κ.S c:=fun c hc=>
       ⟨(hs.own s g _ c hi hc).1,(hs.own s g _ c hi hc).2,hs.notS s g _ c hi hc rfl⟩
      have hc:=hfn.2 κ.w (fun b=> κ.S b∨BlkOf κ l b) κ.S u (κ.φ s g).blk (xr.map a.eval).toArray hs.inv (fun c hc=> hs.noTab hi hc) (fun b hb=> by
       rcases hb with hb | ⟨p,hp,hb⟩
       ·exact (hs.st b hb).1
       ·obtain ⟨i,hi⟩:=hrows p hp
        exact (hs.own p.1 p.2 _ b hi hb).2) (fun _ h=> Or.inl h) (row_own hs hi hrow) (fun c hc=> ⟨(hbS c hc).2.1,by
        rintro (hS | ⟨p,hp,hS⟩)
        ·exact (hbS c hc).2.2 hS
        ·obtain ⟨i,hip⟩:=hrows p hp
         have:=hs.sep s g _ p.1 p.2 i c hi hip hc hS rfl
         have hq:=List.all_eq_true.1 hni p hp
         rw [this.1,this.2] at hq
         simp at hq⟩) (by simpa using hr)
      unfold Oper.wp
      rw [hrun hfn.1]
      refine Calls.mono hc ?_
      rintro e w' ⟨y,rfl,hbel,hres⟩
      show After w0 A κ o v m' a (a.put o.dst y) w'
      unfold ownR1 at h
      split at h
      ·rename_i sz' es'
       cases hz:Nat.beq sz sz'
       ·rw [hz] at h;cases h
       rw [hz] at h
       have hz:=Nat.eq_of_beq_eq_true hz
       subst hz
       simp only [cond_true] at h
       obtain ⟨rfl,S',hS',hown',hnS⟩:=hres
       cases h with
       | chk hlen h=>
        cases h with
        | wr h=>
         obtain ⟨rfl,rfl⟩:=ret_inv h
         have hd:=hs.drop s g
         have sepd:∀c,(κ.φ s g).blk=some c→∀x y i,(m.set s g none).at_ x y=some i→(κ.φ x y).blk≠some c:=by
          intro c hc x y i hxy e
          rw [setAt] at hxy
          split at hxy
          ·cases hxy
          ·rename_i hne
           have:=hs.sep s g _ x y i c hi hxy hc e rfl
           exact hne ⟨this.1.symm,this.2.symm⟩
         obtain ⟨t1,t2⟩:=hd.growX hbel (fun c hc=> ⟨(hbS c hc).1,(hbS c hc).2.2,sepd c hc⟩) (S':=fun c=> κ.S c∨(S' c∧κ.w.heap.size≤c)) (fun c hc=> Or.inl hc) (fun c hc=> hc.imp id fun h=> ⟨h.2,(hS' c h.1).1⟩)
         have hsub:∀c,S' c→κ.S c∨(S' c∧κ.w.heap.size≤c):=fun c hc=> (hS' c hc).2.imp id fun h=> ⟨hc,h⟩
         obtain ⟨i1,i2,i3⟩:=hs.ok s g _ hi
         have hin:InstOk {κ with w:=w',S:=fun c=> κ.S c∨(S' c∧κ.w.heap.size≤c)} (κ.φ s g) (.rows sz es' false):=by
          refine own_inst (OwnAt.mono hsub hown') rfl (by rw [←i1];exact hlen.symm) ?_ ?_
          ·rintro B q c rfl hne
           cases hrow with
           | row0 A' hg hb hl=> exact absurd hb hne
           | row hg hb=> rfl
          ·intro hne
           rcases i3 with ⟨h4,_⟩ | ⟨b',tt,cur,hb',hz,_⟩
           ·exact absurd h4 hne
           ·exact hz
         have t3:=t1.back (hs.gens s g _ hi) rfl hin (fun c hc=> ⟨(hbS c hc).1,Nat.lt_of_lt_of_le (hbS c hc).2.1 hbel.size,fun hS=> by
          rcases hS with hS | ⟨hS,_⟩
          ·exact (hbS c hc).2.2 hS
          ·exact hnS c hc hS,sepd c hc⟩)
         exact ⟨_,rfl,t3,t2,_,rfl,.tup rfl fun j c v h=> by simp at h⟩
      ·cases h
  ·cases h
 ·cases h
theorem op_sim (hT:TOk P T) (heq:∀t,(T t).eqs=true→(T t).known=true) (hF:∀f args r,F f args r→FnX w0.dr P f args r) {base:Nat} (hs:Sim w0 A m κ) (he:EnvOk κ env a.tmps) (h:(opF T base env o).Runs F m v m'):
  o.wp P a κ.w (fun a' w'=> After w0 A κ o v m' a a' w') Q:=by
 unfold opF at h
 split at h
 ·rename_i x ho
  exact sim_move hs he (by unfold execOp;rw [ho];rfl) h
 ·rename_i x ho
  exact sim_move hs he (by unfold execOp;rw [ho];rfl) h
 ·rename_i ho;exact sim_pick hs he ho h
 ·rename_i ho;exact sim_alloc hT hs ho h
 ·rename_i ho;exact sim_box hs he ho h
 ·rename_i ho;exact sim_build hT hs he ho h
 ·rename_i ho
  split at h
  ·rename_i hk;exact sim_bslice hT hs he ho hk h
  ·cases h
 ·rename_i ho;exact sim_load hT hs he ho h
 ·rename_i ho;exact sim_store hT hs he ho h
 ·rename_i ho;exact sim_nilck hs he ho h
 ·rename_i op t x y yt ho
  cases hp:isNilP y
  ·rw [hp] at h
   simp only [cond_false] at h
   cases hb:isNilC y
   ·rw [hb] at h;exact sim_bin hT hs he ho h (heq _)
   ·rw [hb] at h;exact sim_nil hT hs he ho hb h
  ·rw [hp] at h;exact sim_nilp hT hs he ho hp h
 ·rename_i ho;exact sim_un hs he ho h
 ·rename_i ho;exact sim_conv hT hs he ho h
 ·rename_i ho;exact sim_mfunc hs he ho h
 ·rename_i ho;exact sim_slice hT hs he ho h
 ·rename_i ho;exact sim_faddr hT hs he ho h
 ·rename_i ho;exact sim_field hT hs he ho h
 ·rename_i ho;exact sim_iaddr hT hs he ho h
 ·rename_i ho;exact sim_index hT hs he ho h
 ·rename_i ho;exact sim_extract hs he ho h
 ·rename_i ho;exact sim_len hT hs he ho h
 ·rename_i x y t t' ho
  split at h
  ·rename_i e z hk
   cases hb:Nat.beq t t'
   ·rw [hb] at h;cases h
   ·rw [hb] at h
    have hb:=Nat.eq_of_beq_eq_true hb
    subst hb
    exact sim_append hT hs he ho hk h
  ·cases h
 ·rename_i x y t t' ho
  split at h
  ·rename_i e z hk
   cases hb:Nat.beq t t'
   ·rw [hb] at h;cases h
   ·rw [hb] at h
    have hb:=Nat.eq_of_beq_eq_true hb
    subst hb
    exact sim_copy hT hs he ho hk h
  ·cases h
 ·rename_i ho
  split at h
  ·rename_i hk;exact sim_clear hT hs he ho hk h
  ·cases h
 ·rename_i ho
  split at h
  ·rename_i hk;exact sim_makes hT hs he ho hk h
  ·cases h
 ·rename_i ho;exact sim_mkmap hT hs ho h
 ·rename_i ho;exact sim_lookup hT hs he ho h
 ·rename_i ho;exact sim_mupd hT hs he (Or.inl ho) h
 ·rename_i ho;exact sim_mupd hT hs he (Or.inr ho) h
 ·rename_i ho;exact sim_mdel hT hs he ho h
 ·rename_i ho;exact sim_min hs he ho h
 ·rename_i ho;exact sim_max hs he ho h
 ·rename_i fv xs ts ho
  cases hb:Nat.beq (ownOf T fv) 0
  ·rw [hb] at h;exact sim_own hF hs he ho h
  ·rw [hb] at h;exact sim_call hF hs he ho h
 ·cases h
end
end Go.Proofs.YtiklglcjecopcaaGreatDoor
namespace Go.Proofs.YtiklglcjecopcaaGreatDoor
open Go.RowKit
def Holds (w0:Start) (A:Nat→Prop) (nt:Nat) (R:ASt→Prop) (a:Act) (w:World):Prop:=∃st κ,κ.w=w∧Sim w0 A st.m κ∧EnvOk κ st.env a.tmps∧a.tmps.size=nt∧a.defers= []∧R st
theorem Holds.mono {w0:Start} {A:Nat→Prop} {nt:Nat} {R R':ASt→Prop} {a:Act} {w:World} (h:Holds w0 A nt R a w) (hr:∀st,R st→R' st):Holds w0 A nt R' a w:=
 let ⟨st,κ,h1,h2,h3,h4,h5,h6⟩:=h
 ⟨st,κ,h1,h2,h3,h4,h5,hr st h6⟩
def Lift (w0:Start) (A:Nat→Prop) (nt:Nat) (Q:Ex→ASt→Prop):Exit→Act→World→Prop
 | .normal,a,w=> Holds w0 A nt (Q .normal) a w
 | .exit i,a,w=> Holds w0 A nt (Q (.exit i)) a w
 | .ret,a,w=> Holds w0 A nt (Q .ret) a w
 | _,_,_=> False
theorem put_size (a:Act) (dst:Option Tmp) (x:Value):(a.put dst x).tmps.size=a.tmps.size:=by
 cases dst <;> simp [Act.put]
theorem put_defers (a:Act) (dst:Option Tmp) (x:Value):(a.put dst x).defers=a.defers:=by
 cases dst <;> rfl
theorem EnvOk.put {κ:Cx} {env:Nat→Option AV} {a:Act} {o:Oper} {v:AV} {x:Value} {nt:Nat} (h:EnvOk κ env a.tmps) (hn:a.tmps.size=nt) (hd:dstOk nt o=true) (hx:Rel κ v x):EnvOk κ (putE env o.dst v) (a.put o.dst x).tmps:=by
 unfold dstOk at hd
 cases hdst:o.dst with
 | none=> exact h
 | some d=>
  rw [hdst] at hd
  have hd:d < nt:=Nat.lt_of_succ_le (Nat.le_of_ble_eq_true hd)
  intro t u ht
  simp only [putE,updT,beq_dec] at ht
  by_cases htd:t=d
  ·subst htd
   simp at ht
   subst ht
   exact ⟨x,by simp [Act.put,hn,hd],hx⟩
  ·simp [htd] at ht
   obtain ⟨y,hy,hr⟩:=h t u ht
   refine ⟨y,?_,hr⟩
   simp only [Act.put]
   rw [Array.getElem?_setIfInBounds_ne (Ne.symm htd)]
   exact hy
section
variable {P : Program} {T : Nat → TI} {base nt : Nat} {F : FuncId → List AV → AV → Prop} {w0 : Start} {A : Nat → Prop}
theorem undef_rel (κ:Cx):Rel κ (.tup []) undef:= .tup rfl fun j c v hc=> by simp at hc
theorem env_known {κ:Cx} {env:Nat→Option AV} {tmps:Array Value} {t:Nat} {b:Bool} (he:EnvOk κ env tmps) (ht:env t=some (.d (.v (.bool b)))):EnvOk κ (updT env t (some (.kb b))) tmps:=by
 intro x v hx
 simp only [updT,beq_dec] at hx
 by_cases h:x=t
 ·subst h
  simp at hx
  subst hx
  obtain ⟨y,hy,hr⟩:=he x _ ht
  have:=hr.val
  subst this
  exact ⟨_,hy,.kb b⟩
 ·simp [h] at hx
  exact he x v hx
theorem runL_step (hT:TOk P T) (heq:∀t,(T t).eqs=true→(T t).known=true) (hF:∀f args r,F f args r→FnX w0.dr P f args r) {ops:Array Oper} {o:Oper} {r:List Oper} {K:ASt→Prop} {N:Act→World→Prop} {Q:Exit→Act→World→Prop} {st:ASt} {κ:Cx} {a:Act}
  (hs:Sim w0 A st.m κ) (he:EnvOk κ st.env a.tmps) (hn:a.tmps.size=nt) (hd:a.defers= []) (h:runL T base nt F ops.toList (o::r) st K)
  (hN:∀st' κ' a',Sim w0 A st'.m κ'→EnvOk κ' st'.env a'.tmps→a'.tmps.size=nt→a'.defers= []→runL T base nt F ops.toList r st' K→N a' κ'.w):
  if Region.wanted o (yielded ops a.tmps) then o.wp P a κ.w N Q else N (a.put o.dst undef) κ.w:=by
 unfold runL at h
 cases hdo:dstOk nt o
 ·rw [hdo] at h;exact h.elim
 ·rw [hdo] at h
  simp only [Bool.not_true,cond_false] at h
  have exec:∀env,EnvOk κ env a.tmps→(opF T base env o).wp F st.m (fun v m=> runL T base nt F ops.toList r ⟨putE env o.dst v,m⟩ K)→o.wp P a κ.w N Q:=by
   intro env he h
   obtain ⟨v,m',hr,hk⟩:=Step.wp_runs _ _ _ h
   refine Oper.wp_mono ?_ (op_sim hT heq hF hs he hr)
   rintro a' w' ⟨κ',rfl,h1,h2,x,rfl,hx⟩
   exact hN ⟨putE env o.dst v,m'⟩ κ' _ h1 ((he.mono h2).put hn hdo hx) (by rw [put_size,hn]) (by rw [put_defers,hd]) hk
  have skip:∀env,EnvOk κ env a.tmps→runL T base nt F ops.toList r ⟨putE env o.dst (.tup []),st.m⟩ K→N (a.put o.dst undef) κ.w:=fun env he h=>
   hN ⟨putE env o.dst (.tup []),st.m⟩ κ _ hs (he.put hn hdo (undef_rel κ)) (by rw [put_size,hn]) (by rw [put_defers,hd]) h
  cases hg:o.guard with
  | none=>
   rw [hg] at h
   have:Region.wanted o (yielded ops a.tmps)=true:=by simp [Region.wanted,hg]
   rw [if_pos this]
   exact exec _ he h
  | some p=>
   obtain ⟨j,want⟩:=p
   rw [hg] at h
   dsimp only at h
   cases hj:gdst ops.toList j with
   | none=> rw [hj] at h;exact h.elim
   | some t=>
    rw [hj] at h
    dsimp only at h
    have hy:∀x,a.tmps[t]? =some x→yielded ops a.tmps j=match x with | .bool b=> some b | _=> none:=by
     intro x hx
     unfold yielded
     have hb:(ops[j]?).bind (·.dst)=some t:=by
      unfold gdst at hj
      rw [←Array.getElem?_toList]
      cases hq:ops.toList[j]? with
      | none=> rw [hq] at hj;cases hj
      | some q=> rw [hq] at hj;exact hj
     rw [hb]
     simp only [Option.bind_some,hx]
     cases x <;> rfl
    have go:∀(b:Bool) (env:Nat→Option AV),EnvOk κ env a.tmps→a.tmps[t]? =some (.bool b)→(bif want then (bif b then (opF T base env o).wp F st.m (fun v m=> runL T base nt F ops.toList r ⟨putE env o.dst v,m⟩ K) else runL T base nt F ops.toList r ⟨putE env o.dst (.tup []),st.m⟩ K)
      else (bif b then runL T base nt F ops.toList r ⟨putE env o.dst (.tup []),st.m⟩ K else (opF T base env o).wp F st.m (fun v m=> runL T base nt F ops.toList r ⟨putE env o.dst v,m⟩ K)))→
      if Region.wanted o (yielded ops a.tmps) then o.wp P a κ.w N Q else N (a.put o.dst undef) κ.w:=by
     intro b env he hx h
     have hy:=hy _ hx
     dsimp only at hy
     cases want <;> cases b
     ·have:Region.wanted o (yielded ops a.tmps)=true:=by simp [Region.wanted,hg,hy]
      rw [if_pos this]
      exact exec env he h
     ·have:Region.wanted o (yielded ops a.tmps)=false:=by simp [Region.wanted,hg,hy]
      rw [this]
      exact skip env he h
     ·have:Region.wanted o (yielded ops a.tmps)=false:=by simp [Region.wanted,hg,hy]
      rw [this]
      exact skip env he h
     ·have:Region.wanted o (yielded ops a.tmps)=true:=by simp [Region.wanted,hg,hy]
      rw [if_pos this]
      exact exec env he h
    split at h
    ·rename_i hb
     obtain ⟨x,hx,hr⟩:=he t _ hb
     cases hr
     exact go true _ he hx (by cases want <;> exact h)
    ·rename_i hb
     obtain ⟨x,hx,hr⟩:=he t _ hb
     cases hr
     exact go false _ he hx (by cases want <;> exact h)
    ·rename_i b hb
     obtain ⟨x,hx,hr⟩:=he t _ hb
     have:=hr.val
     subst this
     have he':=env_known he hb
     cases b
     ·exact go false _ he' hx (by cases want <;> exact h.2 rfl)
     ·exact go true _ he' hx (by cases want <;> exact h.1 rfl)
    ·rename_i hb
     obtain ⟨x,hx,hr⟩:=he t _ hb
     obtain ⟨vs,rfl,_⟩:=hr.tup_inv
     have hy:=hy _ hx
     dsimp only at hy
     have:Region.wanted o (yielded ops a.tmps)=false:=by simp [Region.wanted,hg,hy]
     rw [this]
     exact skip _ he h
    ·exact h.elim
theorem runL_sound (hT:TOk P T) (heq:∀t,(T t).eqs=true→(T t).known=true) (hF:∀f args r,F f args r→FnX w0.dr P f args r) {ops:Array Oper} {K:ASt→Prop} {Q:Exit→Act→World→Prop} (hQ:∀a w,Holds w0 A nt K a w→Q .normal a w):
  ∀(l:List Oper) (st:ASt) (κ:Cx) (a:Act),Sim w0 A st.m κ→EnvOk κ st.env a.tmps→a.tmps.size=nt→a.defers= []→runL T base nt F ops.toList l st K→wpList P ops Q l a κ.w
 | [],st,κ,a,hs,he,hn,hd,h=> hQ a κ.w ⟨st,κ,rfl,hs,he,hn,hd,h⟩
 | o::r,st,κ,a,hs,he,hn,hd,h=> by
  refine wpList_step fun K' hK'=> ?_
  exact runL_step hT heq hF hs he hn hd h fun st' κ' a' h1 h2 h3 h4 h5=> hK' _ _ (runL_sound hT heq hF hQ r st' κ' a' h1 h2 h3 h4 h5)
end
def Cx.ren (κ:Cx) (σ:List (Nat×Nat×Nat)):Cx:=⟨fun s _=> κ.φ (sig σ s).1 (sig σ s).2,fun _=> 1,κ.S,κ.w⟩
theorem ren1_rel {κ:Cx} {σ:List (Nat×Nat×Nat)} {v:AV} {x:Value} (hl:low1 v=true) (h:Rel κ (ren1 σ v) x):Rel (κ.ren σ) v x:=by
 have one:∀{g:Nat},Nat.beq g 1=true→g≤1:=fun hg=> by rw [Nat.eq_of_beq_eq_true hg];exact Nat.le_refl _
 cases v with
 | lp s g o=> cases h with | lp hg hb=> exact .lp (one hl) hb
 | rp s g i o=>
  cases h with
  | rp hg hb=> exact Rel.rp (κ:=κ.ren σ) (s:=s) (g:=g) (i:=i) (o:=o) (one hl) hb
 | row s g n=>
  cases h with
  | row0 A' hg hb hz=> exact .row0 A' (one hl) hb hz
  | row hg hb=> exact Rel.row (κ:=κ.ren σ) (s:=s) (g:=g) (one hl) hb
 | sub s g o n=>
  cases h with
  | sub0 A' hg hb hz=> exact .sub0 A' (one hl) hb hz
  | sub A' hg hb hA hn=> exact Rel.sub (κ:=κ.ren σ) (s:=s) (g:=g) A' (one hl) hb hA hn
 | d y=> cases h with | d h=> exact .d h
 | nl=> cases h with | nl A'=> exact .nl A'
 | fp cs=> cases h with | fp vs hb hc hr=> exact .fp vs hb hc hr
 | mp s g=> cases h with | mp hg hb=> exact .mp (one hl) hb
 | _=> cases hl
theorem renL_rel {κ:Cx} {σ:List (Nat×Nat×Nat)} {cs:List AV} {vs:Array Value} (hl:cs.all low1=true) (hn:vs.size=(cs.map (ren1 σ)).length) (h:∀(j:Nat) (c:AV) (v:Value),(cs.map (ren1 σ))[j]? =some c→vs[j]? =some v→Rel κ c v):
  vs.size=cs.length∧∀(j:Nat) (c:AV) (v:Value),cs[j]? =some c→vs[j]? =some v→Rel (κ.ren σ) c v:=
 ⟨by simpa using hn,fun j c v hc hv=> ren1_rel (List.all_eq_true.1 hl c (List.mem_of_getElem? hc)) (h j _ v (by rw [List.getElem?_map,hc];rfl) hv)⟩
theorem renV_rel {κ:Cx} {σ:List (Nat×Nat×Nat)} {v:AV} {x:Value} (hl:lowV v=true) (h:Rel κ (renV σ v) x):Rel (κ.ren σ) v x:=by
 have h1:= @ren1_rel κ σ v x
 cases v with
 | agg cs=> cases h with | agg hn h=> exact let ⟨q1,q2⟩:=renL_rel hl hn h;.agg q1 q2
 | tup cs=> cases h with | tup hn h=> exact let ⟨q1,q2⟩:=renL_rel hl hn h;.tup q1 q2
 | fn f cs=> cases h with | fn hn h=> exact let ⟨q1,q2⟩:=renL_rel hl hn h;.fn q1 q2
 | _=> exact h1 hl h
theorem mapO_some {α β:Type} {f:α→β} {o:Option α} {y:β} (h:mapO f o=some y):∃x,o=some x∧f x=y:=by
 cases o with
 | none=> cases h
 | some x=> exact ⟨x,rfl,by injection h⟩
theorem frzM_sim {w0:Start} {A:Nat→Prop}:∀(fl:List (Nat×Nat)) (m:Mem) (κ:Cx) (m':Mem),Sim w0 A m κ→frzM m fl=some m'→∃κ',Sim w0 A m' κ'∧κ.Le κ'∧κ'.w=κ.w
 | [],m,κ,m',hs,h=> by
  injection h with h
  subst h
  exact ⟨κ,hs,.refl κ,rfl⟩
 | (s,g)::r,m,κ,m',hs,h=> by
  simp only [frzM] at h
  split at h
  ·rename_i sz es ro hi
   obtain ⟨q1,q2⟩:=hs.frz hi
   obtain ⟨κ',r1,r2,r3⟩:=frzM_sim r _ _ m' q1 h
   exact ⟨κ',r1,q2.trans r2,r3.trans rfl⟩
  ·cases h
theorem sepM_get {σ:List (Nat×Nat×Nat)}:∀{M:List (Nat×Inst)},sepM σ M=true→∀s s' i i',lookM M s=some i→lookM M s'=some i'→(sig σ s).1=(sig σ s').1→(sig σ s).2=(sig σ s').2→s=s'
 | [],_,s,s',i,i',h,_,_,_=> by cases h
 | (l,q)::M,hs,s,s',i,i',h,h',e1,e2=> by
  simp only [sepM,Bool.and_eq_true] at hs
  have mem:∀{M:List (Nat×Inst)} {t:Nat} {j:Inst},lookM M t=some j→∃p∈M,p.1=t:=by
   intro M
   induction M with
   | nil=> intro t j h;cases h
   | cons p M ih=>
    obtain ⟨pl,pi⟩:=p
    intro t j h
    simp only [lookM,beq_dec] at h
    by_cases ht:t=pl
    ·exact ⟨(pl,pi),by simp,ht.symm⟩
    ·simp [ht] at h
     obtain ⟨p,hp,e⟩:=ih h
     exact ⟨p,by simp [hp],e⟩
  have far:∀{t:Nat} {j:Inst},lookM M t=some j→¬((sig σ l).1=(sig σ t).1∧(sig σ l).2=(sig σ t).2):=by
   intro t j h
   obtain ⟨p,hp,rfl⟩:=mem h
   have:=List.all_eq_true.1 hs.1 p hp
   simp only [beq_dec,Bool.not_eq_true',Bool.and_eq_false_imp,decide_eq_true_eq,decide_eq_false_iff_not] at this
   exact fun h=> this h.1 h.2
  simp only [lookM,beq_dec] at h h'
  by_cases hl:s=l <;> by_cases hl':s'=l
  ·rw [hl,hl']
  ·simp [hl'] at h'
   subst hl
   exact absurd ⟨e1,e2⟩ (far h')
  ·simp [hl] at h
   subst hl'
   exact absurd ⟨e1.symm,e2.symm⟩ (far h)
  ·simp [hl] at h
   simp [hl'] at h'
   exact sepM_get hs.2 s s' i i' h h' e1 e2
theorem sepM_pin {σ:List (Nat×Nat×Nat)}:∀{M:List (Nat×Inst)},sepM σ M=true→pinS σ=true
 | [],h=> h
 | (l,q)::M,h=> by
  simp only [sepM,Bool.and_eq_true] at h
  exact sepM_pin h.2
theorem sig_pin:∀{σ:List (Nat×Nat×Nat)},pinS σ=true→∀x,1000000 < x→sig σ x=(x,1)
 | [],_,x,_=> rfl
 | (l,p)::r,h,x,hx=> by
  unfold pinS at h
  rw [List.all_cons,Bool.and_eq_true] at h
  have h1:=Nat.le_of_ble_eq_true h.1
  have hne:x≠l:=by
   have h1:l≤1000000:=h1
   omega
  simp only [sig,beq_dec,hne,decide_false,cond_false]
  exact sig_pin h.2 x hx
section
variable {w0 : Start} {A : Nat → Prop} {m : Mem} {κ : Cx}
theorem viewA_rel (hs:Sim w0 A m κ) {v x:AV} {y:Value} (h:Rel κ x y):Rel κ (viewA m v x) y:=by
 unfold viewA
 split
 ·split
  ·rename_i s g n
   cases h with
   | row0 A' hg hb hz=> exact .sub0 A' hg hb hz
   | row hg hb=> exact Rel.sub (κ:=κ) (s:=s) (g:=g) (o:=0) _ hg hb (Or.inr (by simp)) (by omega)
  ·exact h
 ·split
  ·rename_i s g n
   split
   ·rename_i sz es hi
    exact .d (row_read hs hi h (fun _ h=> h) fun b hb=> hs.isS s g _ b hi hb rfl).1
   ·exact h
  ·rename_i s g o n
   split
   ·rename_i sz es hi
    exact .d (sub_read hs hi h (fun _ h=> h) fun b hb=> hs.isS s g _ b hi hb rfl).1
   ·exact h
  ·cases h with
   | nl A'=> exact .d (.fz0 A' 0 fun _=> rfl)
  ·exact h
 ·exact h
theorem viewL_rel (hs:Sim w0 A m κ):∀(vs xs:List AV) (ys:List Value),(∀(j:Nat) (c:AV) (y:Value),xs[j]? =some c→ys[j]? =some y→Rel κ c y)→(viewL m vs xs).length=xs.length∧∀(j:Nat) (c:AV) (y:Value),(viewL m vs xs)[j]? =some c→ys[j]? =some y→Rel κ c y
 | [],xs,ys,h=> ⟨by cases xs <;> rfl,fun j c y hc hy=> h j c y (by cases xs <;> exact hc) hy⟩
 | v::vs,[],ys,h=> ⟨rfl,fun j c y hc hy=> by simp [viewL] at hc⟩
 | v::vs,x::xs,ys,h=> by
  cases ys with
  | nil=> exact ⟨by simp [viewL,(viewL_rel hs vs xs [] (fun j c y _ hy=> by simp at hy)).1],fun j c y _ hy=> by simp at hy⟩
  | cons y0 ys=>
   obtain ⟨q1,q2⟩:=viewL_rel hs vs xs ys fun j c y hc hy=> h (j + 1) c y (by simpa using hc) (by simpa using hy)
   refine ⟨by simp [viewL,q1],fun j c y hc hy=> ?_⟩
   cases j with
   | zero=>
    simp [viewL] at hc hy
    subst hc hy
    exact viewA_rel hs (h 0 x _ rfl rfl)
   | succ j=> exact q2 j c y (by simpa [viewL] using hc) (by simpa using hy)
theorem viewV_rel (hs:Sim w0 A m κ) {v x:AV} {y:Value} (h:Rel κ x y):Rel κ (viewV m v x) y:=by
 unfold viewV
 split
 ·rename_i vs
  split
  ·rename_i xs
   cases h with
   | @agg _ ys hl h=>
    obtain ⟨q1,q2⟩:=viewL_rel hs vs xs ys.toList fun j c y hc hy=> h j c y hc (by simpa using hy)
    exact .agg (by rw [hl,q1]) fun j c y hc hy=> q2 j c y hc (by simpa using hy)
  ·exact h
 ·exact viewA_rel hs h
end
theorem chkE_get {σ:List (Nat×Nat×Nat)} {st:ASt}:∀{E:List (Nat×AV)},chkE σ st E→∀t v,lookE E t=some v→lowV v=true∧mapO (viewV st.m v) (unkO (st.env t))=some (renV σ v)
 | [],_,t,v,h=> by cases h
 | (t',v')::E,hc,t,v,h=> by
  simp only [chkE] at hc
  simp only [lookE,beq_dec] at h
  cases hl:lowV v'
  ·rw [hl] at hc;exact hc.elim
  ·rw [hl] at hc
   by_cases ht:t=t'
   ·subst ht
    simp at h
    subst h
    exact ⟨hl,hc.1⟩
   ·simp [ht] at h
    exact chkE_get hc.2 t v h
theorem chkM_get {σ:List (Nat×Nat×Nat)} {st:ASt}:∀{M:List (Nat×Inst)},chkM σ st M→∀s i,lookM M s=some i→lowI i=true∧mapO (viewI st.m i) (st.m.at_ (sig σ s).1 (sig σ s).2)=some (renI σ i)
 | [],_,t,v,h=> by cases h
 | (t',v')::E,hc,t,v,h=> by
  simp only [chkM] at hc
  simp only [lookM,beq_dec] at h
  cases hl:lowI v'
  ·rw [hl] at hc;exact hc.elim
  ·rw [hl] at hc
   by_cases ht:t=t'
   ·subst ht
    simp at h
    subst h
    exact ⟨hl,hc.1⟩
   ·simp [ht] at h
    exact chkM_get hc.2 t v h
theorem enters_sim {w0:Start} {A:Nat→Prop} {st:ASt} {κ:Cx} {tmps:Array Value} {E:List (Nat×AV)} {M:List (Nat×Inst)} (hs:Sim w0 A st.m κ) (he:EnvOk κ st.env tmps) (h:Enters st E M):
  ∃κ',κ'.w=κ.w∧Sim w0 A (mkSt E M).m κ'∧EnvOk κ' (mkSt E M).env tmps:=by
 obtain ⟨fl,σ,h⟩:=h
 split at h
 rotate_left
 ·exact h.elim
 rename_i mf hfl
 obtain ⟨κ1,hs1,hle1,hw1⟩:=frzM_sim fl _ κ mf hs hfl
 have he1:=he.mono hle1
 rw [←hw1]
 obtain ⟨hsep,hE,hM⟩:=h
 have inst:∀s g i,(mkSt E M).m.at_ s g=some i→lookM M s=some i:=by
  intro s g i hi
  simp only [mkSt,beq_dec] at hi
  by_cases hg:g=1
  ·simpa [hg] using hi
  ·simp [hg] at hi
 have mem:∀s g i,(mkSt E M).m.at_ s g=some i→g=1∧lowI i=true∧∃j,mf.at_ (sig σ s).1 (sig σ s).2=some j∧viewI mf i j=renI σ i:=by
  intro s g i hi
  have hg:g=1:=by
   simp only [mkSt,beq_dec] at hi
   by_cases hg:g=1
   ·exact hg
   ·simp [hg] at hi
  obtain ⟨q1,q2⟩:=chkM_get hM s i (inst s g i hi)
  exact ⟨hg,q1,mapO_some q2⟩
 have rwi:∀i:Inst,(renI σ i).rw_=i.rw_:=fun i=> by cases i <;> rfl
 have rwv:∀i j:Inst,(viewI mf i j).rw_=j.rw_:=fun i j=> by cases i <;> cases j <;> rfl
 have rwj:∀i j:Inst,viewI mf i j=renI σ i→j.rw_=i.rw_:=fun i j h=> by rw [←rwv i j,h,rwi]
 refine ⟨κ1.ren σ,rfl,⟨hs1.below,rfl,?_,?_,?_,?_,?_,?_,hs1.st,hs1.args,fun i hi=> ⟨by
  show κ1.φ (sig σ (1000001 + i)).1 (sig σ (1000001 + i)).2=_
  rw [sig_pin (sepM_pin hsep) _ (by omega)]
  exact (hs1.pin i hi).1,Nat.le_refl 1⟩⟩,fun t v ht=> ?_⟩
 ·intro s g i hi
  obtain ⟨rfl,hl,j,h1,h2⟩:=mem s g i hi
  have hok:=hs1.ok _ _ _ h1
  show InstOk (κ1.ren σ) (κ1.φ (sig σ s).1 (sig σ s).2) i
  cases i with
  | box cs=>
   cases j with
   | rows=> cases h2
   | mapi=> cases h2
   | box xs=>
    obtain ⟨b,T,vs,hb,hh,hn,hr⟩:=hok
    have h2:Inst.box (viewL mf cs xs)= .box (cs.map (ren1 σ)):=h2
    injection h2 with h2
    obtain ⟨q1,q2⟩:=viewL_rel hs1 cs xs vs.toList fun j c y hc hy=> (hr j c y hc (by simpa using hy)).1
    have hlen:xs.length=cs.length:=by rw [←q1,h2,List.length_map]
    refine ⟨b,T,vs,hb,hh,by rw [hn,hlen],fun j c v hc hv=> ?_⟩
    have hj:j < xs.length:=by rw [hlen];exact (List.getElem?_eq_some_iff.1 hc).1
    refine ⟨ren1_rel (List.all_eq_true.1 hl c (List.mem_of_getElem? hc)) (q2 j _ v (by rw [h2,List.getElem?_map,hc];rfl) (by simpa using hv)),(hr j xs[j] v (List.getElem?_eq_getElem hj) hv).2⟩
  | rows sz es ro=>
   cases j with
   | box=> cases h2
   | mapi=> cases h2
   | rows sz' es' ro'=>
    have h2:Inst.rows sz' es' ro'= .rows sz es ro:=h2
    rw [h2] at hok
    exact hok
  | mapi ck es=>
   cases j with
   | box=> cases h2
   | rows=> cases h2
   | mapi ck' es'=>
    have h2:Inst.mapi ck' es'= .mapi ck es:=h2
    rw [h2] at hok
    exact hok
 ·intro s g i hi
  obtain ⟨rfl,_,_⟩:=mem s g i hi
  exact Nat.le_refl _
 ·intro s g i b hi hb
  obtain ⟨rfl,_,j,h1,h2⟩:=mem s g i hi
  exact hs1.own _ _ _ b h1 hb
 ·intro s g i b hi hb hr
  obtain ⟨rfl,_,j,h1,h2⟩:=mem s g i hi
  exact hs1.notS _ _ _ b h1 hb (by rw [rwj i j h2];exact hr)
 ·intro s g i b hi hb hr
  obtain ⟨rfl,_,j,h1,h2⟩:=mem s g i hi
  exact hs1.isS _ _ _ b h1 hb (by rw [rwj i j h2];exact hr)
 ·intro s g i s' g' i' b hi hi' hb hb' hr
  obtain ⟨rfl,_,j,h1,h2⟩:=mem s g i hi
  obtain ⟨rfl,_,j',h1',h2'⟩:=mem s' g' i' hi'
  have:=hs1.sep _ _ _ _ _ _ b h1 h1' hb hb' (by rw [rwj i j h2];exact hr)
  exact ⟨sepM_get hsep s s' i i' (inst _ _ _ hi) (inst _ _ _ hi') this.1 this.2,rfl⟩
 ·obtain ⟨hl,h1⟩:=chkE_get hE t v ht
  obtain ⟨q,hq,h1⟩:=mapO_some h1
  dsimp only at hq h1
  cases hq':st.env t with
  | none=> rw [hq'] at hq;cases hq
  | some q'=>
   rw [hq'] at hq
   injection hq with hq
   obtain ⟨x,hx,hr⟩:=he1 t _ hq'
   refine ⟨x,hx,renV_rel hl ?_⟩
   rw [←h1,←hq]
   exact viewV_rel hs1 hr.unk
end Go.Proofs.YtiklglcjecopcaaGreatDoor

/-
  Evaluation of Go code on plain data: the contract of a function. Over any program.
  Plain programs that stop or run on: loops, ways that meet, and how an evaluation follows them. Over any program.
  What came in as an argument, as plain data. Over any program.
  Running code on constants: calls of functions whose contract is on plain data; the head of the law.
  Equality of structs whose fields are integers, truth values and strings. Over any program.
-/
import Derived.Test.YtiklglcjecopcaaGreatDoorQ15
import Derived.WalkKit
import Derived.ProofKit
import Derived.ChangeSlices
import Derived.OpenShut
import Derived.Deep.Slices
import Derived.Deep.Fields
import Derived.Test.YtiklglcjecopcaaGreatDoorQ06
import Derived.Laws.StructEq
namespace Go.Proofs.YtiklglcjecopcaaGreatDoor
open Go.RowKit
structure Taken (w0:Start) (A:Nat→Prop) (m m1:Mem) (κ κ1:Cx) (used:List (Nat×Nat)) (bs:List (Option Nat)):Prop where
 sim:Sim w0 A m1 κ1
 le:κ.Le κ1
 φ:κ1.φ=κ.φ
 w:κ1.w=κ.w
 same:∀s g,(s,g)∉used→m1.at_ s g=m.at_ s g
 own:∀b,some b∈bs→∃s g i,(s,g)∈used∧m1.at_ s g=some i∧i.rw_=true∧(κ1.φ s g).blk=some b∧∃sz es,i= .rows sz es false
 keep:∀s g,(∀sz es ro,m.at_ s g≠some (.rows sz es ro))→m1.at_ s g=m.at_ s g
 apart:Apart bs
theorem unused_mem {used:List (Nat×Nat)} {s g:Nat} (h:unused used s g=true):(s,g)∉used:=by
 intro hm
 unfold unused at h
 have:=List.all_eq_true.1 h _ hm
 simp at this
theorem apart_snoc {bs:List (Option Nat)} {b:Option Nat} (h:Apart bs) (hn:∀c,b=some c→some c∉bs):Apart (bs ++ [b]):=by
 unfold Apart at h ⊢
 rw [List.filterMap_append]
 cases b with
 | none=> simpa using h
 | some c=>
  simp only [List.filterMap_cons,id,List.filterMap_nil]
  rw [List.nodup_append]
  refine ⟨h,by simp,?_⟩
  intro x hx y hy e
  simp at hy
  subst hy e
  obtain ⟨z,hz,hz'⟩:=List.mem_filterMap.1 hx
  simp at hz'
  subst hz'
  exact hn _ rfl hz
section
variable {w0 : Start} {A : Nat → Prop} {m : Mem} {κ : Cx}
theorem Taken.none_ {m1:Mem} {κ1:Cx} {used:List (Nat×Nat)} {bs:List (Option Nat)} (h:Taken w0 A m m1 κ κ1 used bs):Taken w0 A m m1 κ κ1 used (bs ++ [none]):=
 ⟨h.sim,h.le,h.φ,h.w,h.same,fun b hb=> h.own b (by simpa using hb),h.keep,apart_snoc h.apart fun c hc=> by cases hc⟩
theorem Taken.frz {m1:Mem} {κ1:Cx} {used:List (Nat×Nat)} {bs:List (Option Nat)} (h:Taken w0 A m m1 κ κ1 used bs) {s g sz:Nat} {es:List (List D)} {ro:Bool} (hi:m.at_ s g=some (.rows sz es ro)) (hu:(s,g)∉used):
  ∃m2 κ2,Taken w0 A m m2 κ κ2 ((s,g)::used) (bs ++ [none])∧κ1.Le κ2∧κ2.w=κ1.w∧m1.at_ s g=some (.rows sz es ro)∧∀b,(κ.φ s g).blk=some b→κ2.S b:=by
 have hi1:m1.at_ s g=some (.rows sz es ro):=by rw [h.same s g hu];exact hi
 obtain ⟨q1,q2⟩:=h.sim.frz hi1
 refine ⟨_,_,⟨q1,h.le.trans q2,h.φ,h.w,fun s' g' hn=> ?_,fun b hb=> ?_,fun s' g' hn=> ?_,apart_snoc h.apart fun c hc=> by cases hc⟩,q2,rfl,hi1,fun b hb=> Or.inr (by rw [h.φ];exact hb)⟩
 ·rw [setAt,if_neg (fun e=> hn (by rw [e.1,e.2];simp))]
  exact h.same s' g' fun hm=> hn (by simp [hm])
 ·obtain ⟨s',g',i,h1,h2,h3,h4⟩:=h.own b (by simpa using hb)
  refine ⟨s',g',i,by simp [h1],?_,h3,h4⟩
  rw [setAt,if_neg]
  ·exact h2
  ·rintro ⟨rfl,rfl⟩
   exact hu h1
 ·rw [setAt,if_neg]
  ·exact h.keep s' g' hn
  ·rintro ⟨rfl,rfl⟩
   exact hn _ _ _ hi
theorem ret1_sound {m1:Mem} {κ1:Cx} {used:List (Nat×Nat)} {bs:List (Option Nat)} (h:Taken w0 A m m1 κ κ1 used bs) {v r:AV} {x:Value} (hx:Rel κ v x) {K:List (Nat×Nat)→Prop} (hr:ret1 m used v r K):
  ∃m2 κ2 used' b,Taken w0 A m m2 κ κ2 used' (bs ++ [b])∧κ1.Le κ2∧κ2.w=κ1.w∧Res1 κ2.S κ2.w r x b∧K used':=by
 unfold ret1 at hr
 have hx1:=hx.mono h.le
 cases r with
 | ow sz es=>
  cases v with
  | nl=>
   obtain ⟨rfl,hk⟩:=hr
   cases hx with
   | nl A'=> exact ⟨m1,κ1,used,none,h.none_,.refl _,rfl,⟨by simp,Or.inl ⟨rfl,rfl,A',rfl⟩⟩,hk⟩
  | row s g n=>
   dsimp only at hr
   split at hr
   ·rename_i sz' es' hi
    cases hu:unused used s g
    ·rw [hu] at hr;exact hr.elim
    ·rw [hu] at hr
     obtain ⟨rfl,rfl,hk⟩:=hr
     have hu:=unused_mem hu
     have hi1:m1.at_ s g=some (.rows sz' es' false):=by rw [h.same s g hu];exact hi
     obtain ⟨e1,e2,e3⟩:=h.sim.ok s g _ hi1
     have tk:∀b,(κ1.φ s g).blk=b→Taken w0 A m m1 κ κ1 ((s,g)::used) (bs ++ [b]):=by
      intro b hb
      refine ⟨h.sim,h.le,h.φ,h.w,fun s' g' hn=> h.same s' g' fun hm=> hn (by simp [hm]),fun c hc=> ?_,h.keep,apart_snoc h.apart fun c hc hm=> ?_⟩
      ·rcases List.mem_append.1 hc with hc | hc
       ·obtain ⟨s',g',i,h1,h2⟩:=h.own c hc
        exact ⟨s',g',i,by simp [h1],h2⟩
       ·simp at hc
        exact ⟨s,g,_,by simp,hi1,rfl,by rw [hb,hc],_,_,rfl⟩
      ·obtain ⟨s',g',i,h1,h2,h3,h4,_⟩:=h.own c hm
       have:=h.sim.sep s g _ s' g' i c hi1 h2 (by rw [hb,hc]) h4 rfl
       exact hu (by rw [this.1,this.2];exact h1)
     rcases e3 with ⟨h4,rfl⟩ | ⟨b,T,cur,hb,hz,hh,hl,hm,hc,hra⟩
     ·refine ⟨m1,κ1,_,none,tk none h4,.refl _,rfl,⟨e2,Or.inl ⟨rfl,rfl,?_⟩⟩,hk⟩
      cases hx1 with
      | row0 A' hg hb hz=> exact ⟨A',rfl⟩
      | row hg hb=> rw [h4] at hb;cases hb
     ·refine ⟨m1,κ1,_,some b,tk (some b) hb,.refl _,rfl,⟨e2,Or.inr ?_⟩,hk⟩
      cases hx1 with
      | row0 A' hg hb' hz=> rw [hb'] at hb;cases hb
      | row hg hb'=>
       rw [hb'] at hb
       injection hb with hb
       subst hb
       exact ⟨_,T,cur,_,rfl,by rw [e1],hh,by rw [e1];exact hl,hm,hc,hra⟩
   ·exact hr.elim
  | _=> exact hr.elim
 | d y=>
  cases v with
  | d y'=>
   obtain ⟨rfl,hk⟩:=hr
   cases hx1 with
   | d hd=> exact ⟨m1,κ1,used,none,h.none_,.refl _,rfl,⟨hd,rfl⟩,hk⟩
  | nl=>
   obtain ⟨rfl,hk⟩:=hr
   cases hx with
   | nl A'=> exact ⟨m1,κ1,used,none,h.none_,.refl _,rfl,⟨.fz0 _ _ (fun _=> rfl),rfl⟩,hk⟩
  | row s g n=>
   dsimp only at hr
   split at hr
   ·rename_i sz' es' ro hi
    cases hu:unused used s g
    ·rw [hu] at hr;exact hr.elim
    ·rw [hu] at hr
     obtain ⟨rfl,hk⟩:=hr
     obtain ⟨m2,κ2,t1,t2,t3,t4,t5⟩:=h.frz hi (unused_mem hu)
     refine ⟨m2,κ2,_,none,t1,t2,t3,⟨?_,rfl⟩,hk⟩
     have:=(row_read h.sim t4 hx1 t2.S (fun b hb=> t5 b (by rw [←h.φ];exact hb))).1
     rw [t3]
     exact this
   ·exact hr.elim
  | sub s g o n=>
   dsimp only at hr
   split at hr
   ·rename_i sz' es' ro hi
    cases hu:unused used s g
    ·rw [hu] at hr;exact hr.elim
    ·rw [hu] at hr
     obtain ⟨rfl,hk⟩:=hr
     obtain ⟨m2,κ2,t1,t2,t3,t4,t5⟩:=h.frz hi (unused_mem hu)
     refine ⟨m2,κ2,_,none,t1,t2,t3,⟨?_,rfl⟩,hk⟩
     have:=(sub_read h.sim t4 hx1 t2.S (fun b hb=> t5 b (by rw [←h.φ];exact hb))).1
     rw [t3]
     exact this
   ·exact hr.elim
  | _=> exact hr.elim
 | _=> exact hr.elim
theorem retL_sound:∀(vs rs:List AV) (xs:List Value) (m1:Mem) (κ1:Cx) (used:List (Nat×Nat)) (bs:List (Option Nat)) (K:List (Nat×Nat)→Prop),Taken w0 A m m1 κ κ1 used bs→RelL κ vs xs→retL m used vs rs K→
  ∃m2 κ2 used' b2,Taken w0 A m m2 κ κ2 used' (bs ++ b2)∧κ1.Le κ2∧κ2.w=κ1.w∧ResL κ2.S κ2.w rs xs b2∧K used'
 | [],[],xs,m1,κ1,used,bs,K,h,hx,hr=> by
  refine ⟨m1,κ1,used,[],by simpa using h,.refl _,rfl,⟨hx.nil_inv,rfl⟩,hr⟩
 | [],r::rs,xs,m1,κ1,used,bs,K,h,hx,hr=> hr.elim
 | v::vs,[],xs,m1,κ1,used,bs,K,h,hx,hr=> hr.elim
 | v::vs,r::rs,xs,m1,κ1,used,bs,K,h,hx,hr=> by
  obtain ⟨x,xs',rfl,h1,h2⟩:=hx.cons_inv
  obtain ⟨m2,κ2,used2,b,t1,t2,t3,t4,t5⟩:=ret1_sound h h1 hr
  obtain ⟨m3,κ3,used3,b3,q1,q2,q3,q4,q5⟩:=retL_sound vs rs xs' m2 κ2 used2 (bs ++ [b]) K t1 h2 t5
  refine ⟨m3,κ3,used3,b::b3,by simpa using q1,t2.trans q2,q3.trans t3,⟨x,xs',b,b3,rfl,rfl,?_,q4⟩,q5⟩
  rw [q3]
  exact t4.mono q2.S
theorem retC_sound {m1:Mem} {κ1:Cx} {used:List (Nat×Nat)} {bs:List (Option Nat)} (h:Taken w0 A m m1 κ κ1 used bs) {v r:AV} {x:Value} (hx:Rel κ v x) {K:List (Nat×Nat)→Prop} (hr:retC m used v r K):
  ∃m2 κ2 used' b2,Taken w0 A m m2 κ κ2 used' (bs ++ b2)∧κ1.Le κ2∧κ2.w=κ1.w∧ResC κ2.S κ2.w r x b2∧K used':=by
 have one:ret1 m used v r K→(∀rs,r≠ .agg rs)→∃m2 κ2 used' b2,Taken w0 A m m2 κ κ2 used' (bs ++ b2)∧κ1.Le κ2∧κ2.w=κ1.w∧ResC κ2.S κ2.w r x b2∧K used':=by
  intro hr hne
  obtain ⟨m2,κ2,used2,b,t1,t2,t3,t4,t5⟩:=ret1_sound h hx hr
  refine ⟨m2,κ2,used2,[b],t1,t2,t3,?_,t5⟩
  cases r <;> first | exact ⟨b,rfl,t4⟩ | exact absurd rfl (hne _)
 by_cases hc:∃rs,r= .agg rs
 ·obtain ⟨rs,rfl⟩:=hc
  cases v with
  | agg vs=>
   obtain ⟨xs,rfl,hxs⟩:=hx.agg_inv
   obtain ⟨m2,κ2,used2,b2,t1,t2,t3,t4,t5⟩:=retL_sound vs rs xs.toList m1 κ1 used bs K h hxs hr
   exact ⟨m2,κ2,used2,b2,t1,t2,t3,⟨xs,rfl,t4⟩,t5⟩
  | _=> exact hr.elim
 ·refine one ?_ fun rs e=> hc ⟨rs,e⟩
  cases r <;> first | exact hr | exact absurd ⟨_,rfl⟩ hc
theorem retT_sound:∀(vs rs:List AV) (xs:List Value) (m1:Mem) (κ1:Cx) (used:List (Nat×Nat)) (bs:List (Option Nat)) (K:List (Nat×Nat)→Prop),Taken w0 A m m1 κ κ1 used bs→RelL κ vs xs→retT m used vs rs K→
  ∃m2 κ2 used' b2,Taken w0 A m m2 κ κ2 used' (bs ++ b2)∧κ1.Le κ2∧κ2.w=κ1.w∧ResT κ2.S κ2.w rs xs b2∧K used'
 | [],[],xs,m1,κ1,used,bs,K,h,hx,hr=> by
  refine ⟨m1,κ1,used,[],by simpa using h,.refl _,rfl,⟨hx.nil_inv,rfl⟩,hr⟩
 | [],r::rs,xs,m1,κ1,used,bs,K,h,hx,hr=> hr.elim
 | v::vs,[],xs,m1,κ1,used,bs,K,h,hx,hr=> hr.elim
 | v::vs,r::rs,xs,m1,κ1,used,bs,K,h,hx,hr=> by
  obtain ⟨x,xs',rfl,h1,h2⟩:=hx.cons_inv
  obtain ⟨m2,κ2,used2,b,t1,t2,t3,t4,t5⟩:=retC_sound h h1 hr
  obtain ⟨m3,κ3,used3,b3,q1,q2,q3,q4,q5⟩:=retT_sound vs rs xs' m2 κ2 used2 (bs ++ b) K t1 h2 t5
  refine ⟨m3,κ3,used3,b ++ b3,by simpa using q1,t2.trans q2,q3.trans t3,⟨x,xs',b,b3,rfl,rfl,?_,q4⟩,q5⟩
  rw [q3]
  exact t4.mono q2.S
end
def resR (tmps:Array Value):ResultVar→Sem Value
 | .tmp t=> pure (tmps.getD t undef)
 | .cell a t=> do loadVar t (←asAddr (tmps.getD a undef))
section
variable {P : Program} {T : Nat → TI} {w0 : Start} {A : Nat → Prop} {κ : Cx}
theorem valR_sound (hT:TOk P T) {st:ASt} {a:Act} (hs:Sim w0 A st.m κ) (he:EnvOk κ st.env a.tmps) {x:ResultVar} {K:AV→Prop} (h:valR T st x K):
  ∃v y,(resR a.tmps x).run P κ.w= .ok y κ.w∧Rel κ v y∧K v:=by
 cases x with
 | tmp t=>
  simp only [valR] at h
  split at h
  ·rename_i v hv
   exact ⟨_,_,rfl,(raw_rel (x:= .tmp t) he hv).unk,h⟩
  ·exact h.elim
 | cell t ty=>
  simp only [valR] at h
  split at h
  ·rename_i s g o hv
   split at h
   ·rename_i cs hi
    split at h
    ·rename_i v hl
     have hr:=raw_rel (x:= .tmp t) he hv
     have hev:a.eval (.tmp t)=a.tmps.getD t undef:=rfl
     rw [hev] at hr
     generalize hy:a.tmps.getD t undef=y at hr
     cases hr with
     | lp hg hb=>
      obtain ⟨b',tt,vs,hb',hh,hn,hrel⟩:=hs.ok s g _ hi
      rw [hb] at hb'
      injection hb' with hb'
      subst hb'
      have hL:RelL κ cs vs.toList:=⟨by simpa using hn,fun j c u hc hu=> (hrel j c u hc (by simpa using hu)).1⟩
      obtain ⟨z,hz,hrz,_⟩:=ldA_runs (F:=fun _ _ _=> False) (m:=st.m) (m':=st.m) (v:=v) hT (hL.drop o) (range_block hh o) (by rw [hl];exact .ret)
      refine ⟨v,z,?_,hrz,h⟩
      have:(Instr.loadAt ty (.pointer (some ⟨_,o,none⟩))).run P κ.w= .ok z κ.w:=hz
      simp only [Instr.loadAt,Instr.sureAddr,Sem.run_bind,Sem.run_pure,Result.andThen_ok] at this
      simp only [resR,hy,asAddr,Sem.run_bind,Sem.run_pure,Result.andThen_ok,this]
    ·exact h.elim
   ·exact h.elim
  ·exact h.elim
theorem valL_sound (hT:TOk P T) {st:ASt} {a:Act} (hs:Sim w0 A st.m κ) (he:EnvOk κ st.env a.tmps):∀(xs:List ResultVar) (K:List AV→Prop),valL T st xs K→
  ∃vs ys,(xs.mapM (resR a.tmps)).run P κ.w= .ok ys κ.w∧RelL κ vs ys∧K vs
 | [],K,h=> ⟨[],[],rfl,.nil κ,h⟩
 | x::xs,K,h=> by
  obtain ⟨v,y,h1,h2,h3⟩:=valR_sound hT hs he h
  obtain ⟨vs,ys,q1,q2,q3⟩:=valL_sound hT hs he xs _ h3
  refine ⟨v::vs,y::ys,?_,.cons h2 q2,q3⟩
  rw [List.mapM_cons]
  simp only [Sem.run_bind,h1,Result.andThen_ok,q1,Sem.run_pure]
theorem Fn.of_AW {dr:Prop} {js:List Nat} {F:FuncId→List AV→AV→Prop} {base:Nat} (hm:P.follows .mixedOrders=true) (hT:TOk P T) (heq:∀t,(T t).eqs=true→(T t).known=true) (hF:∀f args r,F f args r→FnX dr P f args r) {f:FuncId} {fn:Func} {c:Code} {nt:Nat} {rs:List ResultVar} {args:List AV} {r:AV}
  (hcall:∀(args:Array Value) (w:World),(callFunc f args).run P w= .ok (.enter f args) w) (hf:P.funcs[f]? =some fn) (hb:fn.body=some c) (hnt:fn.ntmps=nt) (hrs:fn.results.toList=rs) (hargs:args.length≤nt)
  (h:AW T base nt F js c (st0 args) (EndP T rs r)):Fn dr P f args r:=by
 refine ⟨hcall,fun w A vals hI hA hr=> ?_⟩
 have hlen:vals.size=args.length:=by simpa using hr.1
 refine calls_of_wp hf hb (wp_mono (AW_sound (w0:=⟨w,fun _=> False,dr,hI,fun _ h=> h.elim,0,fun _=> ⟨none,0,0,0⟩⟩) (A:=A) hm hT heq hF c _ _ w ⟨st0 args,cx0 A w,rfl,⟨BelowX.refl _ _,rfl,fun s g i hi=> (by cases hi),fun s g i hi=> (by cases hi),fun s g i b hi=> (by cases hi),fun s g i b hi=> (by cases hi),fun s g i b hi=> (by cases hi),fun s g i s' g' i' b hi=> (by cases hi),fun b hb=> ⟨hA b hb,Or.inl hb⟩,fun b hb=> hb,fun i hi=> absurd hi (Nat.not_lt_zero i)⟩,?_,?_,rfl,h⟩) ?_)
 ·intro t v ht
  have hn:∀(l:List AV) (t:Nat),nthA l t=l[t]? :=by
   intro l
   induction l with
   | nil=> intro t;cases t <;> rfl
   | cons x l ih=> intro t;cases t with
    | zero=> rfl
    | succ t=> simp [nthA,ih]
  have ht:args[t]? =some v:=by rw [←hn];exact ht
  obtain ⟨x,hx,hrx⟩:=hr.get ht
  have hlt:t < vals.size:=by rw [hlen];exact (List.getElem?_eq_some_iff.1 ht).1
  refine ⟨x,?_,hrx⟩
  rw [Array.getElem?_append_left hlt]
  simpa using hx
 ·simp [hnt]
  omega
 ·have fin:∀a' w',Holds ⟨w,fun _=> False,dr,hI,fun _ h=> h.elim,0,fun _=> ⟨none,0,0,0⟩⟩ A nt (RetP T rs r) a' w'→a'.defers= []∧∃v,(results fn a'.tmps).run P w'= .ok v w'∧∃v' S' bs,Ending.returned v=Ending.returned v'∧BelowD dr w.heap.size w w'∧(∀b,S' b→b < w'.heap.size∧(A b∨w.heap.size≤b))∧Res S' w' r v' bs∧Apart bs∧∀b,some b∈bs→w.heap.size≤b∧b < w'.heap.size∧¬S' b:=by
   rintro a' w' ⟨st,κ,rfl,hs,he,hn,hd,hret⟩
   refine ⟨hd,?_⟩
   obtain ⟨vs,ys,h1,h2,h3⟩:=valL_sound (P:=P) hT hs he rs _ hret
   have tk0:Taken ⟨w,fun _=> False,dr,hI,fun _ h=> h.elim,0,fun _=> ⟨none,0,0,0⟩⟩ A st.m st.m κ κ [] []:=⟨hs,.refl κ,rfl,rfl,fun _ _ _=> rfl,fun b hb=> by simp at hb,fun _ _ _=> rfl,by simp [Apart]⟩
   have done:∀(m2:Mem) (κ2:Cx) (used:List (Nat×Nat)) (b2:List (Option Nat)) (y:Value),Taken ⟨w,fun _=> False,dr,hI,fun _ h=> h.elim,0,fun _=> ⟨none,0,0,0⟩⟩ A st.m m2 κ κ2 used b2→Res κ2.S κ2.w r y b2→
     ∃v' S' bs,Ending.returned y=Ending.returned v'∧BelowD dr w.heap.size w κ.w∧(∀b,S' b→b < κ.w.heap.size∧(A b∨w.heap.size≤b))∧Res S' κ.w r v' bs∧Apart bs∧∀b,some b∈bs→w.heap.size≤b∧b < κ.w.heap.size∧¬S' b:=by
    intro m2 κ2 used b2 y t1 t2
    refine ⟨y,κ2.S,b2,rfl,hs.below.toD,fun b hb=> ?_,by rw [←t1.w];exact t2,t1.apart,fun b hb=> ?_⟩
    ·rw [←t1.w]
     obtain ⟨k1,k2⟩:=t1.sim.st b hb
     exact ⟨k1,k2.imp id fun h=> h.elim id fun h=> h.elim⟩
    obtain ⟨s,g,i,q1,q2,q3,q4,_⟩:=t1.own b hb
    have:=t1.sim.own s g i b q2 q4
    exact ⟨this.1.elim id fun h=> h.elim,by rw [←t1.w];exact this.2,t1.sim.notS s g i b q2 q4 q3⟩
   have hrun:(results fn a'.tmps).run P κ.w= .ok (if hsz:ys.toArray.size=1 then ys.toArray[0] else .tuple ys.toArray) κ.w:=by
    have e:results fn a'.tmps=(do let vs←fn.results.mapM (resR a'.tmps);pure (if h:vs.size=1 then vs[0] else .tuple vs)):=rfl
    rw [e,Array.mapM_eq_mapM_toList,hrs]
    simp only [Sem.run_bind,Sem.run_map,h1,Result.andThen_ok,Sem.run_pure]
   have tuple:ys.length≠1→(∃ps,r= .tup ps∧retT st.m [] vs ps fun _=> True)→∃v,(results fn a'.tmps).run P κ.w= .ok v κ.w∧∃v' S' bs,Ending.returned v=Ending.returned v'∧BelowD dr w.heap.size w κ.w∧(∀b,S' b→b < κ.w.heap.size∧(A b∨w.heap.size≤b))∧Res S' κ.w r v' bs∧Apart bs∧∀b,some b∈bs→w.heap.size≤b∧b < κ.w.heap.size∧¬S' b:=by
    rintro hne ⟨ps,rfl,hr2⟩
    obtain ⟨m2,κ2,used,b2,t1,t2,t3,t4,_⟩:=retT_sound vs ps ys st.m κ [] [] _ tk0 h2 hr2
    rw [List.nil_append] at t1
    have hsz:¬ys.toArray.size=1:=by simpa using hne
    rw [dif_neg hsz] at hrun
    exact ⟨_,hrun,done m2 κ2 used b2 _ t1 ⟨_,rfl,by simpa using t4⟩⟩
   have hl:=h2.1
   match vs,h2,h3,hl with
   | [],h2,h3,hl=>
    refine tuple (by simp at hl;simp [hl]) ?_
    cases r with
    | tup ps=> exact ⟨ps,rfl,h3⟩
    | _=> exact h3.elim
   | [v],h2,h3,hl=>
    obtain ⟨y,ys',rfl,hy,hys⟩:=h2.cons_inv
    have:=hys.nil_inv
    subst this
    have hrun:(results fn a'.tmps).run P κ.w= .ok y κ.w:=hrun
    have h3:retC st.m [] v r fun _=> True:=h3
    obtain ⟨m2,κ2,used,b2,t1,t2,t3,t4,_⟩:=retC_sound tk0 hy h3
    rw [List.nil_append] at t1
    refine ⟨y,hrun,done m2 κ2 used b2 y t1 ?_⟩
    cases r with
    | tup ps=> exact h3.elim
    | _=> exact t4
   | v::v'::vs',h2,h3,hl=>
    refine tuple (by simp at hl;omega) ?_
    cases r with
    | tup ps=> exact ⟨ps,rfl,h3⟩
    | _=> exact h3.elim
  intro e a' w' hq
  cases e with
  | normal=> exact fin a' w' hq
  | ret=> exact fin a' w' hq
  | exit i=> obtain ⟨_,_,_,_,_,_,_,h⟩:=hq;exact h.elim
  | goto l=> exact hq.elim
  | panic ch=> exact hq.elim
  | outgrown=> exact hq.elim
end
end Go.Proofs.YtiklglcjecopcaaGreatDoor
namespace Go.Proofs.YtiklglcjecopcaaGreatDoor
open Go.RowKit
def seqF {A B:Type} (p:Option (A⊕B)) (k:A→Option B):Option B:=match p with
 | none=> none
 | some (.inl a)=> k a
 | some (.inr b)=> some b
def runF {S B:Type} (body:S→Option (S⊕B)):Nat→S→Option B
 | 0,_=> none
 | n + 1,s=> match body s with
  | none=> none
  | some (.inl s')=> runF body n s'
  | some (.inr b)=> some b
open Classical in
noncomputable def loopF {S B:Type} (body:S→Option (S⊕B)) (s:S):Option B:=if h:∃b n,runF body n s=some b then some h.choose else none
theorem runF_succ {S B:Type} {body:S→Option (S⊕B)}:∀{n:Nat} {s:S} {b:B},runF body n s=some b→runF body (n + 1) s=some b
 | 0,s,b,h=> by cases h
 | n + 1,s,b,h=> by
  simp only [runF] at h
  rw [runF]
  cases hb:body s with
  | none=> rw [hb] at h;cases h
  | some f=>
   rw [hb] at h
   cases f with
   | inl s'=> exact runF_succ (n:=n) h
   | inr b'=> exact h
theorem runF_le {S B:Type} {body:S→Option (S⊕B)} {n m:Nat} (hm:n≤m) {s:S} {b:B} (h:runF body n s=some b):runF body m s=some b:=by
 induction hm with
 | refl=> exact h
 | step _ ih=> exact runF_succ ih
theorem runF_one {S B:Type} {body:S→Option (S⊕B)} {n m:Nat} {s:S} {b c:B} (h:runF body n s=some b) (k:runF body m s=some c):b=c:=by
 have h1:=runF_le (Nat.le_max_left n m) h
 have h2:=runF_le (Nat.le_max_right n m) k
 rw [h1] at h2
 injection h2
theorem loopF_iff {S B:Type} {body:S→Option (S⊕B)} {s:S} {b:B}:loopF body s=some b↔∃n,runF body n s=some b:=by
 unfold loopF
 constructor
 ·intro h
  split at h
  ·rename_i hx
   injection h with h
   subst h
   exact hx.choose_spec
  ·cases h
 ·rintro ⟨n,h⟩
  have hx:∃b n,runF body n s=some b:=⟨b,n,h⟩
  rw [dif_pos hx]
  obtain ⟨m,hm⟩:=hx.choose_spec
  rw [runF_one hm h]
theorem loopF_eq {S B:Type} (body:S→Option (S⊕B)) (s:S):loopF body s=match body s with
  | none=> none
  | some (.inl s')=> loopF body s'
  | some (.inr b)=> some b:=by
 apply Option.ext
 intro b
 rw [loopF_iff]
 constructor
 ·rintro ⟨n,h⟩
  cases n with
  | zero=> cases h
  | succ n=>
   rw [runF] at h
   cases hb:body s with
   | none=> rw [hb] at h;cases h
   | some f=>
    rw [hb] at h
    cases f with
    | inl s'=> exact loopF_iff.2 ⟨n,h⟩
    | inr b'=> exact h
 ·intro h
  cases hb:body s with
  | none=> rw [hb] at h;cases h
  | some f=>
   rw [hb] at h
   cases f with
   | inl s'=>
    obtain ⟨n,hn⟩:=loopF_iff.1 h
    exact ⟨n + 1,by rw [runF,hb];exact hn⟩
   | inr b'=> exact ⟨1,by rw [runF,hb];exact h⟩
theorem loopF_next {S B:Type} {body:S→Option (S⊕B)} {s s':S} (h:body s=some (.inl s')):loopF body s=loopF body s':=by rw [loopF_eq,h]
theorem loopF_stop {S B:Type} {body:S→Option (S⊕B)} {s:S} {b:B} (h:body s=some (.inr b)):loopF body s=some b:=by rw [loopF_eq,h]
def Good {S B:Type} (J:S→Prop) (G:B→Prop):S⊕B→Prop
 | .inl s=> J s
 | .inr b=> G b
theorem LoopP.of {S B:Type} {body:S→Option (S⊕B)} {s0:S} {b:B} {c:ASt→(Ex→ASt→Prop)→Prop} {st:ASt} {Q:Ex→ASt→Prop} (E:S→List (Nat×AV)) (M:S→List (Nat×Inst)) (G:B→Prop) (h:loopF body s0=some b) (hG:G b) (hen:Enters st (E s0) (M s0))
  (round:∀(J:S→Prop) (s:S) (f:S⊕B),body s=some f→Good J G f→c (mkSt (E s) (M s)) fun e st'=> match e with
   | .normal=> ∃x',J x'∧Enters st' (E x') (M x')
   | e=> Q e st'):LoopP c st Q:=by
 obtain ⟨n,hn⟩:=loopF_iff.1 h
 refine ⟨⟨S,E,M,fun n s=> runF body n s=some b,⟨n,s0,hn,hen⟩,fun n s hs=> ?_⟩⟩
 cases n with
 | zero=> cases hs
 | succ n=>
  rw [runF] at hs
  cases hb:body s with
  | none=> rw [hb] at hs;cases hs
  | some f=>
   rw [hb] at hs
   refine round _ s f hb ?_
   cases f with
   | inl s'=> exact ⟨n,Nat.lt_succ_self n,hs⟩
   | inr b'=>
    injection hs with hs
    subst hs
    exact hG
theorem SeqP.of {S B:Type} {p:Option (S⊕B)} {k:S→Option B} {b:B} {x:(Ex→ASt→Prop)→Prop} {y:ASt→(Ex→ASt→Prop)→Prop} {Q:Ex→ASt→Prop} (E:S→List (Nat×AV)) (M:S→List (Nat×Inst)) (G:B→Prop) (h:seqF p k=some b) (hG:G b)
  (ha:∀(J:S→Prop) (f:S⊕B),p=some f→Good J G f→x fun e st'=> match e with
   | .normal=> ∃z,J z∧Enters st' (E z) (M z)
   | e=> Q e st')
  (hb:∀(s:S) (b:B),k s=some b→G b→y (mkSt (E s) (M s)) Q):SeqP x y Q:=by
 cases hp:p with
 | none=> rw [hp] at h;cases h
 | some f=>
  rw [hp] at h
  refine ⟨⟨S,E,M,fun z=> ∃b,k z=some b∧G b,ha _ f hp ?_,fun z ⟨b,h1,h2⟩=> hb z b h1 h2⟩⟩
  cases f with
  | inl s=> exact ⟨b,h,hG⟩
  | inr b'=>
   injection h with h
   subst h
   exact hG
theorem bindE {A B:Type} {p:Option A} {k:A→Option B} {b:B} (h:p.bind k=some b):∃x,p=some x∧k x=some b:=by
 cases p with
 | none=> cases h
 | some x=> exact ⟨x,rfl,h⟩
theorem bindK {A B:Type} {p:Option A} {k:A→Option B} {b:B} {G:Prop} (h:p.bind k=some b) (c:∀x,p=some x→k x=some b→G):G:=
 let ⟨x,h1,h2⟩:=bindE h
 c x h1 h2
theorem ifp {B:Type} {b:Bool} {p q:Option B} {f:B} {X Y:Prop} (h:(bif b then p else q)=some f) (h1:b=true→p=some f→X) (h2:b=false→q=some f→Y):IFp b X Y:=by
 cases b
 ·exact ⟨fun e=> (by cases e),fun e=> h2 e h⟩
 ·exact ⟨fun e=> h1 e h,fun e=> (by cases e)⟩
def chkO (b:Bool):Option Unit:=bif b then some () else none
theorem chkE_ {b:Bool} {B:Type} {k:Unit→Option B} {f:B} (h:(chkO b).bind k=some f):b=true∧k ()=some f:=by
 cases b
 ·cases h
 ·exact ⟨rfl,h⟩
theorem chkK {b:Bool} {B:Type} {k:Unit→Option B} {f:B} {G:Prop} (h:(chkO b).bind k=some f) (c:b=true→k ()=some f→G):G:=
 let ⟨h1,h2⟩:=chkE_ h
 c h1 h2
def getI {A:Type} (l:List A) (i:Int):Option A:=bif decide (0≤i) then l[i.toNat]? else none
theorem getI_lt {A:Type} {l:List A} {i:Int} {x:A} (h:getI l i=some x):0≤i∧i < (l.length:Int):=by
 unfold getI at h
 by_cases hi:0≤i
 ·simp only [hi,decide_true,cond_true] at h
  have:=(List.getElem?_eq_some_iff.1 h).1
  omega
 ·simp [hi] at h
theorem elemB {A:Type} {enc:A→List D} {l:List A} {i:Int} {x:A} (h:getI l i=some x):0≤i∧i < ((List.map enc l).length:Int):=by
 rw [List.length_map]
 exact getI_lt h
theorem elemG {A:Type} {enc:A→List D} {l:List A} {i:Int} {x:A} (h:getI l i=some x):(List.map enc l)[i.toNat]? =some (enc x):=by
 unfold getI at h
 by_cases hi:0≤i
 ·simp only [hi,decide_true,cond_true] at h
  rw [List.getElem?_map,h]
  rfl
 ·simp [hi] at h
theorem appLen {A:Type} (enc:A→List D) (l r:List A):l.length + (List.map enc r).length=(l ++ r).length:=by simp
theorem appMap {A:Type} (enc:A→List D) (l r:List A):List.map enc l ++ List.map enc r=List.map enc (l ++ r):=by simp
theorem setMap {A:Type} (enc:A→List D) (l:List A) (i:Nat) (x:A):List.set (List.map enc l) i (enc x)=List.map enc (List.set l i x):=by rw [List.map_set]
theorem sizeMap {A:Type} {enc:A→List D} {z:Nat} (hz:∀x,(enc x).length=z) (l:List A):∀c∈List.map enc l,c.length=z:=by
 intro c hc
 obtain ⟨x,_,rfl⟩:=List.mem_map.1 hc
 exact hz x
theorem appChk {A:Type} {enc:A→List D} {l:List A} {n z:Nat} (hz:∀x,(enc x).length=z) (h:decide (n + l.length≤1000000)=true):(∀c∈List.map enc l,c.length=z)∧n + (List.map enc l).length≤1000000:=
 ⟨sizeMap hz l,by rw [List.length_map];exact of_decide_eq_true h⟩
def encI (k:IntKind) (x:Int):List D:= [.v (.int k x)]
def encB (x:Bool):List D:= [.v (.bool x)]
def encS (x:ByteArray):List D:= [.v (.string x)]
def encL {A:Type} (enc:A→List D) (x:List A):List D:= [.fz (List.map enc x)]
def vB (x:Bool):D:= .v (.bool x)
def mapE {K V:Type} (ke:K→Value) (ve:V→D) (l:List (K×V)):List (Value×D):=List.map (fun p=> (ke p.1,ve p.2)) l
def mgetT {K V:Type} [BEq K] (k:K):List (K×V)→V→V
 | [],z=> z
 | p::r,z=> bif k==p.1 then p.2 else mgetT k r z
def mhasT {K V:Type} [BEq K] (k:K):List (K×V)→Bool
 | []=> false
 | p::r=> bif k==p.1 then true else mhasT k r
def mputT {K V:Type} [BEq K] (k:K) (v:V):List (K×V)→List (K×V)
 | []=> [(k,v)]
 | p::r=> bif k==p.1 then (k,v)::r else p::mputT k v r
theorem mget_map {K V:Type} [BEq K] {ke:K→Value} {ve:V→D} (hk:∀a b,keyEq (ke a) (ke b)=(a==b)) (k:K) (z:V):∀(l:List (K×V)),(mget (ke k) (mapE ke ve l)).getD (ve z)=ve (mgetT k l z)∧(mget (ke k) (mapE ke ve l)).isSome=mhasT k l
 | []=> ⟨rfl,rfl⟩
 | p::r=> by
  obtain ⟨h1,h2⟩:=mget_map hk k z r
  simp only [mapE,List.map_cons,mget,mgetT,mhasT,hk]
  cases k==p.1
  ·exact ⟨h1,h2⟩
  ·exact ⟨rfl,rfl⟩
def mdelT {K V:Type} [BEq K] (k:K):List (K×V)→List (K×V)
 | []=> []
 | p::r=> bif k==p.1 then r else p::mdelT k r
theorem mdel_map {K V:Type} [BEq K] {ke:K→Value} {ve:V→D} (hk:∀a b,keyEq (ke a) (ke b)=(a==b)) (k:K):∀(l:List (K×V)),mdel (ke k) (mapE ke ve l)=mapE ke ve (mdelT k l)
 | []=> rfl
 | p::r=> by
  have h:=mdel_map (ve:=ve) hk k r
  simp only [mapE] at h
  simp only [mapE,List.map_cons,mdel,mdelT,hk]
  cases k==p.1
  ·simp only [cond_false,List.map_cons];rw [h]
  ·simp only [cond_true]
theorem mput_map {K V:Type} [BEq K] {ke:K→Value} {ve:V→D} (hk:∀a b,keyEq (ke a) (ke b)=(a==b)) (k:K) (v:V):∀(l:List (K×V)),mput (ke k) (ve v) (mapE ke ve l)=mapE ke ve (mputT k v l)
 | []=> rfl
 | p::r=> by
  have h:=mput_map (ve:=ve) hk k v r
  simp only [mapE] at h
  simp only [mapE,List.map_cons,mput,mputT,hk]
  cases k==p.1
  ·simp only [cond_false,List.map_cons,h]
  ·rfl
def capd:AV→Bool
 | .d _=> true
 | .fp _=> true
 | _=> false
theorem Fn.slice0 {dr:Prop} {P:Program} {f:FuncId} {r:AV} (h0:Fn dr P f [.d (.v (.slice none 0 0))] r) (h1:∀a c,Fn dr P f [.d (.v (.slice (some a) 0 c))] r):Fn dr P f [.d (.fz [])] r:=by
 refine ⟨h0.1,fun w A vals hI hA hrel=> ?_⟩
 obtain ⟨v,vs',hv,hx,hnil⟩:=hrel.cons_inv
 have hone:∀(A':Option Addr) (c:Nat),(A'=none→c=0)→v= .slice A' 0 c→∃a:AV,Fn dr P f [a] r∧RelL (cx0 A w) [a] vals.toList:=by
  rintro A' c hA' rfl
  cases A' with
  | none=>
   have:=hA' rfl
   subst this
   exact ⟨_,h0,by rw [hv,hnil.nil_inv];exact .cons (.d (.v _ rfl)) (.nil _)⟩
  | some a=> exact ⟨_,h1 a c,by rw [hv,hnil.nil_inv];exact .cons (.d (.v _ rfl)) (.nil _)⟩
 have:∃a:AV,Fn dr P f [a] r∧RelL (cx0 A w) [a] vals.toList:=by
  cases hx with
  | d hx=>
   cases hx with
   | fz0 A' c hc=> exact hone A' c hc rfl
   | fz _ b o sz c vs=> exact hone _ c (fun e=> by cases e) rfl
 obtain ⟨a,h2,h3⟩:=this
 exact h2.2 w A vals hI hA h3
theorem cloneE {A:Type} {s r:List A} (h:((chkO (decide (s.length≤1000000))).bind fun _=> some s)=some r):s=r:=by
 obtain ⟨_,h⟩:=chkE_ h
 injection h
end Go.Proofs.YtiklglcjecopcaaGreatDoor
namespace Go.Proofs.YtiklglcjecopcaaGreatDoor
open Go.ChangeShapes Go.WideShapes Go.ChangeAt Go.RowKit Go.Deep
section
variable {H : Type} {enc : TypeId × Value → H} {P : Program} {W : World}
def Old (W:World) (b:Nat):Prop:=b < W.heap.size
def CellsD (W:World) (ds:List D) (cs:List Value):Prop:=cs.length=ds.length∧∀(j:Nat) (d:D) (u:Value),ds[j]? =some d→cs[j]? =some u→RelD (Old W) W d u
def ReadsD (enc:TypeId×Value→H) (P:Program) (W:World) {α:Type} (e:TypeId) (f:α→List D) (Q:α→Prop):Prop:=
 ∀(fuel:Nat) (cs:List Value) (x:DataW H×List MemPlace),DataW.trod enc P W 0 (fun _=> true) true fuel e cs=some x→∃y,CellsD W (f y) cs∧Q y
theorem cellsD_one {d:D} {u:Value} (h:RelD (Old W) W d u):CellsD W [d] [u]:=⟨rfl,fun j x y hx hy=> by
 cases j with
 | zero=> simp at hx hy;subst hx hy;exact h
 | succ j=> simp at hx⟩
theorem cellsD_append {ds es:List D} {cs us:List Value} (h:CellsD W ds cs) (k:CellsD W es us):CellsD W (ds ++ es) (cs ++ us):=⟨by simp [h.1,k.1],fun j x y hx hy=> by
 rw [List.getElem?_append] at hx hy
 rw [h.1] at hy
 split at hx
 ·rename_i hlt
  rw [if_pos hlt] at hy
  exact h.2 j x y hx hy
 ·rename_i hlt
  rw [if_neg hlt] at hy
  exact k.2 _ x y hx hy⟩
theorem readsD_int {t:TypeId} {k:IntKind} (ht:P.underlying t=some (.int k)):ReadsD enc P W t (encI k) (fun n=> k.min≤n∧n≤k.max):=fun _ _ _ h=> by
 obtain ⟨n,rfl,_,hw⟩:=DataW.trod_int ht h
 refine ⟨n,cellsD_one (.v _ rfl),?_⟩
 simpa [Lit.wf] using hw
theorem readsD_bool {t:TypeId} (ht:P.underlying t=some .bool):ReadsD enc P W t encB (fun _=> True):=fun _ _ _ h=> by
 obtain ⟨n,rfl,_⟩:=DataW.trod_bool ht h
 exact ⟨n,cellsD_one (.v _ rfl),trivial⟩
theorem readsD_string {t:TypeId} (ht:P.underlying t=some .string):ReadsD enc P W t encS (fun s=> s.size≤maxLen):=fun _ _ _ h=> by
 obtain ⟨s,rfl,_,hl⟩:=DataW.trod_string ht h
 refine ⟨s,cellsD_one (.v _ rfl),?_⟩
 obtain ⟨⟨l⟩⟩:=s
 simpa [ByteArray.size] using hl
theorem listD_of {α:Type} (R:Nat→α→Prop):∀n,(∀i,i < n→∃y,R i y)→∃l:List α,l.length=n∧∀i (hi:i < l.length),R i l[i]
 | 0,_=> ⟨[],rfl,fun i hi=> absurd hi (by simp)⟩
 | n + 1,h=> by
  obtain ⟨l,h1,h2⟩:=listD_of R n (fun i hi=> h i (by omega))
  obtain ⟨y,hy⟩:=h n (by omega)
  refine ⟨l ++ [y],by simp [h1],fun i hi=> ?_⟩
  by_cases hin:i < l.length
  ·rw [List.getElem_append_left hin];exact h2 i hin
  ·have:i=n:=by simp at hi;omega
   subst this
   rw [List.getElem_append_right (by omega)]
   simpa [h1] using hy
theorem readsD_slice {t e:TypeId} (ht:P.underlying t=some (.slice e)) {sz:Nat} (hsz:P.cellsOf e=sz) (hpos:0 < sz) {α:Type} {f:α→List D} (hf:∀x,(f x).length=sz) {Q:α→Prop} (hel:ReadsD enc P W e f Q):
  ReadsD enc P W t (encL f) (fun l=> l.length≤maxLen∧∀x∈l,Q x):=by
 intro fuel cs x h
 rcases open_slice ht h with ⟨rfl,_⟩ | ⟨a,len,cap,m,n,Dt,Pl,rfl,_,hl,hm,hmm,_,hi⟩
 ·exact ⟨[],cellsD_one (.fz0 _ _ fun _=> rfl),by simp,by simp⟩
 ·simp only [if_true] at hmm
  rw [hsz,hmm] at hi
  obtain ⟨l,hll,hlr⟩:=listD_of (fun i y=> Q y∧∀j d,(f y)[j]? =some d→∃u,W.cell? (a.add (i * sz + j))=some u∧RelD (Old W) W d u) len (fun i hil=> by
   obtain ⟨cs',hc,ht'⟩:=hi i (by omega)
   obtain ⟨y,hy,hq⟩:=hel _ _ _ ht'
   obtain ⟨_,hcl,hat⟩:=World.cells?_some hc
   refine ⟨y,hq,fun j d hd=> ?_⟩
   have hj:j < sz:=by have:=(List.getElem?_eq_some_iff.1 hd).1;rw [hf] at this;exact this
   have h1:=hat j hj
   rw [Go.Deep.add_add] at h1
   have hjl:j < cs'.length:=by rw [hy.1,hf];exact hj
   exact ⟨cs'[j],by rw [h1];exact List.getElem?_eq_getElem hjl,hy.2 j d _ hd (List.getElem?_eq_getElem hjl)⟩)
  refine ⟨l,cellsD_one ?_,by rw [hll];exact Nat.le_trans hl hm,fun x hx=> ?_⟩
  ·by_cases h0:len=0
   ·have:l= []:=List.eq_nil_of_length_eq_zero (by omega)
    subst this h0
    exact .fz0 _ _ fun h=> by cases h
   ·obtain ⟨u0,hu0,_⟩:=(hlr 0 (by omega)).2 0 _ (List.getElem?_eq_getElem (show 0 < (f (l[0]'(by omega))).length by rw [hf];exact hpos))
    rw [Nat.zero_mul] at hu0
    have ha0:a.add (0 + 0)=a:=rfl
    rw [ha0] at hu0
    obtain ⟨hae,hab⟩:=addr_of_cell hu0
    have all:∀q,q < len * sz→∃u,W.cell? ⟨a.block,a.off + q,none⟩=some u:=by
     intro q hq
     have hmod:=Nat.mod_lt q hpos
     have hdiv:q / sz < len:=(Nat.div_lt_iff_lt_mul hpos).2 hq
     obtain ⟨u,hu,_⟩:=(hlr (q / sz) (by omega)).2 (q % sz) _ (List.getElem?_eq_getElem (show q % sz < (f (l[q / sz]'(by omega))).length by rw [hf];exact hmod))
     have hqe:q / sz * sz + q % sz=q:=by rw [Nat.mul_comm];exact Nat.div_add_mod q sz
     rw [hqe,hae,add_eq] at hu
     exact ⟨u,hu⟩
    have hlen:(l.map f).length=len:=by simp [hll]
    have hrel:=RelD.fz (S:=Old W) (w:=W) (l.map f) a.block a.off sz cap (fun q=> (W.cell? ⟨a.block,a.off + q,none⟩).getD undef) (fun e he=> by
     obtain ⟨y,_,rfl⟩:=List.mem_map.1 he
     exact hf y) hab (by rw [hlen];exact hl) (fun j hj=> by
     rw [hlen] at hj
     obtain ⟨u,hu⟩:=all j hj
     rw [hu]
     rfl) (fun i j e d he hd=> by
     rw [List.getElem?_map] at he
     have hil:i < l.length:=by
      cases hq:l[i]? with
      | none=> rw [hq] at he;cases he
      | some q=> exact (List.getElem?_eq_some_iff.1 hq).1
     rw [List.getElem?_eq_getElem hil] at he
     simp at he
     subst he
     obtain ⟨u,hu,hr⟩:=(hlr i hil).2 j d hd
     rw [hae,add_eq] at hu
     show RelD _ _ d ((W.cell? ⟨a.block,a.off + (i * sz + j),none⟩).getD undef)
     rw [hu]
     exact hr)
    rw [hlen,←hae] at hrel
    exact hrel
  ·obtain ⟨i,hi,rfl⟩:=List.getElem_of_mem hx
   exact (hlr i hi).1
def FieldsD (enc:TypeId×Value→H) (P:Program) (W:World) (n:Nat) (cs:List Value):List (Nat×TypeId)→Prop
 | []=> True
 | (o,t)::r=> (∃x,DataW.trod enc P W 0 (fun _=> true) true n t ((cs.drop o).take (P.cellsOf t))=some x)∧FieldsD enc P W n cs r
theorem fieldsD_of {t:TypeId} {fs:Array Field} {fuel:Nat} {cs:List Value} {x:DataW H×List MemPlace} (ht:P.underlying t=some (.struct fs)) (h:DataW.trod enc P W 0 (fun _=> true) true fuel t cs=some x):
  ∃n,FieldsD enc P W n cs (fs.toList.map fun f=> (f.offset,f.type))∧cs.length=P.cellsOf t:=by
 obtain ⟨xs,n,_,_,hl,hlen,hf⟩:=DataW.trod_struct ht h
 refine ⟨n,?_,hl⟩
 have:∀(l:List Field),(∀f∈l,∃i:Nat,fs[i]? =some f)→FieldsD enc P W n cs (l.map fun f=> (f.offset,f.type)):=by
  intro l
  induction l with
  | nil=> exact fun _=> trivial
  | cons f l ih=>
   intro hm
   obtain ⟨i,hi⟩:=hm f (by simp)
   have hil:i < xs.length:=by rw [hlen];exact (Array.getElem?_eq_some_iff.1 hi).1
   exact ⟨⟨xs[i],by rw [hf i f hi];exact List.getElem?_eq_getElem hil⟩,ih fun f' hf'=> hm f' (by simp [hf'])⟩
 exact this _ fun f hf'=> by
  obtain ⟨i,hi,rfl⟩:=List.getElem_of_mem hf'
  exact ⟨i,by simp at hi ⊢⟩
theorem fieldsD_cons {n o z:Nat} {t:TypeId} {r:List (Nat×TypeId)} {cs:List Value} {α:Type} {f:α→List D} {Q:α→Prop} (hel:ReadsD enc P W t f Q) (h:FieldsD enc P W n cs ((o,t)::r)) (hz:P.cellsOf t=z):
  ∃y,CellsD W (f y) ((cs.drop o).take z)∧Q y∧FieldsD enc P W n cs r:=by
 obtain ⟨⟨x,hx⟩,hr⟩:=h
 rw [hz] at hx
 obtain ⟨y,h1,h2⟩:=hel _ _ _ hx
 exact ⟨y,h1,h2,hr⟩
theorem cellsD_step {ds es:List D} {cs:List Value} {o z:Nat} (h:CellsD W ds ((cs.drop o).take z)) (_hz:ds.length=z) (k:CellsD W es (cs.drop (o + z))):CellsD W (ds ++ es) (cs.drop o):=by
 have e:cs.drop o=(cs.drop o).take z ++ cs.drop (o + z):=by rw [←List.drop_drop,List.take_append_drop]
 rw [e]
 exact cellsD_append h k
theorem cellsD_end {cs:List Value} {o:Nat} (h:cs.length=o):CellsD W [] (cs.drop o):=by
 rw [List.drop_of_length_le (by omega)]
 exact ⟨rfl,fun j d u hd=> by simp at hd⟩
theorem argD_one {t:TypeId} {v:Value} {d:DataW H} {p:List MemPlace} {α:Type} {f:α→D} {Q:α→Prop} (hel:ReadsD enc P W t (fun y=> [f y]) Q) (hv:v.cells= #[v]) (h:DataW.Trod enc P W 0 (fun _=> true) true t v d p):∃y,RelD (Old W) W (f y) v∧Q y:=by
 obtain ⟨fuel,hf⟩:=h
 obtain ⟨y,h1,h2⟩:=hel _ _ _ hf
 rw [hv] at h1
 exact ⟨y,h1.2 0 _ _ rfl rfl,h2⟩
theorem law_end {dr:Prop} {f:FuncId} {args:List AV} (h:Fn dr P f args (.d (.v (.bool true)))) {vals:Array Value} (hI:Inv W) (hr:RelL (cx0 (Old W) W) args vals.toList):Calls P f vals W fun e w'=> e= .returned (.bool true)∧Below W.heap.size W w':=by
 refine (h.2 W (Old W) vals hI (fun b hb=> hb) hr).mono ?_
 rintro e w' ⟨v,S',bs,rfl,h1,_,h2,_⟩
 obtain ⟨b,rfl,h3,_⟩:=h2
 refine ⟨?_,h1.toBelow⟩
 cases h3 with
 | v _ _=> rfl
end
end Go.Proofs.YtiklglcjecopcaaGreatDoor
namespace Go.Proofs.YtiklglcjecopcaaGreatDoor.Ci
open Go.RowKit Go.Shelf
theorem tab0 {w:World} (h:Go.Proofs.YtiklglcjecopcaaGreatDoor.Inv w):Lib.TabIs Tryz.prog w "internal/strconv.uint64pow10" .u64 Lib.pow10Tab:=by
 obtain ⟨o,ho,T,s,rfl⟩:=h _ (List.mem_cons_self ..)
 have hg:Tryz.prog.globalNamed "internal/strconv.uint64pow10" =some 1:=by kernel_rfl
 have ho:w.heap[1]? =_:=ho
 unfold Lib.TabIs World.var?
 rw [hg,Option.bind_some,ho]
theorem invB {w W:World} (hI:Go.Proofs.YtiklglcjecopcaaGreatDoor.Inv w) (h:Below w.heap.size w W):Go.Proofs.YtiklglcjecopcaaGreatDoor.Inv W:=hI.keep fun b hb=> h.block b (hI.lt hb)
def chkV (x:Value) (c:CV):Bool:=match x,c with
 | .int k n,.v (.int k' n')=> kEq k k' && ieq n n'
 | .bool a,.v (.bool b)=> a==b
 | .string s,.t bs=> s.data.toList.isEmpty && bs.isEmpty
 | _,_=> false
def chkL (f:D→CV→Bool):List D→List CV→Bool
 | [],_=> true
 | d::ds,c::cs=> f d c && chkL f ds cs
 | _::_,[]=> false
def szOf:List (List D)→Nat
 | []=> 0
 | e::_=> e.length
noncomputable def chkS (H:Tr Blk) (f:D→CV→Bool) (es:List (List D)) (c:CV):Bool:=match c with
 | .v (.slice none z k)=> es.isEmpty && (Nat.beq z 0 && Nat.beq k 0)
 | .s l o z _=> (match H.get l with
  | some (.cl _ cs)=> Nat.beq es.length z && (chkL f es.flatten (cs.drop o) && es.all fun e=> Nat.beq e.length (szOf es))
  | _=> false)
 | _=> false
noncomputable def chkD (H:Tr Blk):Nat→D→CV→Bool
 | 0,_,_=> false
 | n + 1,d,c=> match d with
  | .v x=> chkV x c
  | .fz es=> chkS H (chkD H n) es c
  | _=> false
theorem chkV_ok {σ:Nm} {x:Value} {c:CV} {v:Value} (h:chkV x c=true) (hv:VR σ c v):v=x∧x.oneCell'=true:=by
 unfold chkV at h
 split at h
 ·obtain ⟨h1,h2⟩:=and_true h
  rw [ieq_eq] at h2
  rw [hv.val,kEq_eq h1,of_decide_eq_true h2]
  exact ⟨rfl,rfl⟩
 ·rw [hv.val,eq_of_beq h]
  exact ⟨rfl,rfl⟩
 ·rename_i s bs
  obtain ⟨h1,h2⟩:=and_true h
  have h2:bs= []:=by simpa using h2
  subst h2
  cases hv with
  | t _ _=>
   obtain ⟨⟨l⟩⟩:=s
   have h1:l= []:=by simpa using h1
   subst h1
   exact ⟨rfl,rfl⟩
 ·cases h
theorem chkL_at {f:D→CV→Bool}:∀{ds:List D} {cs:List CV},chkL f ds cs=true→∀(j:Nat) (d:D),ds[j]? =some d→∃c,cs[j]? =some c∧f d c=true
 | [],_,_,j,d,h=> by simp at h
 | d::ds,[],h,_,_,_=> by cases h
 | d::ds,c::cs,h,0,d',hd=> by
  injection hd with hd
  subst hd
  exact ⟨c,rfl,(and_true h).1⟩
 | d::ds,c::cs,h,j + 1,d',hd=> chkL_at (and_true h).2 j d' hd
theorem flat_pos {α:Type} {sz:Nat}:∀{xs:List (List α)},(∀x∈xs,x.length=sz)→∀(i q:Nat) (c:List α),xs[i]? =some c→q < sz→xs.flatten[i * sz + q]? =c[q]?
 | [],_,i,q,c,h,_=> by cases h
 | x::xs,hs,0,q,c,h,hq=> by
  injection h with h
  subst h
  rw [List.flatten_cons,Nat.zero_mul,Nat.zero_add,List.getElem?_append_left (by rw [hs x (.head _)];exact hq)]
 | x::xs,hs,i + 1,q,c,h,hq=> by
  have hx:=hs x (.head _)
  rw [List.flatten_cons,List.getElem?_append_right (by rw [hx,Nat.add_mul];omega),hx,show (i + 1) * sz + q - sz=i * sz + q by rw [Nat.add_mul];omega]
  exact flat_pos (fun y hy=> hs y (.tail _ hy)) i q c h hq
theorem flat_length {α:Type} {sz:Nat}:∀{xs:List (List α)},(∀x∈xs,x.length=sz)→xs.flatten.length=xs.length * sz
 | [],_=> by simp
 | x::xs,h=> by
  rw [List.flatten_cons,List.length_append,h x (.head _),flat_length fun y hy=> h y (.tail _ hy),List.length_cons,Nat.add_mul]
  omega
theorem chkD_ok {w0 w:World} {σ:Nm} {H:Tr Blk} {nx:Nat} (hr:R w0 σ H nx w):∀(n:Nat) (d:D) (c:CV) (v:Value),chkD H n d c=true→VR σ c v→RelD (fun b=> b < w.heap.size) w d v
 | 0,_,_,_,h,_=> by cases h
 | n + 1,d,c,v,h,hv=> by
  unfold chkD at h
  split at h
  ·obtain ⟨rfl,h1⟩:=chkV_ok h hv
   exact .v _ h1
  ·rename_i es
   unfold chkS at h
   split at h
   ·rename_i z k
    obtain ⟨h1,h2⟩:=and_true h
    obtain ⟨h2,h3⟩:=and_true h2
    have h1:es= []:=by simpa using h1
    have h2:=beq_eq' h2
    have h3:=beq_eq' h3
    subst h1 h2 h3
    rw [hv.val]
    exact .fz0 none 0 fun _=> rfl
   ·rename_i l o z cp
    split at h
    ·rename_i kd cs hH
     obtain ⟨h1,h2⟩:=and_true h
     obtain ⟨h2,h3⟩:=and_true h2
     have h1:=beq_eq' h1
     have h3:∀e∈es,e.length=szOf es:=fun e he=> beq_eq' (List.all_eq_true.1 h3 e he)
     have hlen:=flat_length h3
     have fin:∀(lc:Loc) (k:Nat),σ l=some lc→es.length≤k→RelD (fun b=> b < w.heap.size) w (.fz es) (.slice (some ⟨lc.blk,lc.off + o,none⟩) es.length k):=by
      intro lc k hs hk
      obtain ⟨vals,T,b1,b2,b3,_,b5⟩:=hr.blk l lc _ hs hH
      have at_:∀j d,es.flatten[j]? =some d→∃u,vals[lc.off + o + j]? =some u∧RelD (fun b=> b < w.heap.size) w d u:=fun j d hd=> by
       obtain ⟨c,hc,hf⟩:=chkL_at h2 j d hd
       rw [List.getElem?_drop] at hc
       obtain ⟨u,hu,hvr,_⟩:=b5 (o + j) c hc
       exact ⟨u,by rw [Nat.add_assoc];exact hu,chkD_ok hr n d c u hf hvr⟩
      refine .fz es lc.blk (lc.off + o) (szOf es) k (fun j=> (vals[lc.off + o + j]?).getD (.bool false)) h3 (hr.lo l lc hs).2 hk (fun j hj=> ?_) fun i j e x he hx=> ?_
      ·rw [←hlen] at hj
       obtain ⟨u,hu,_⟩:=at_ j _ (List.getElem?_eq_getElem hj)
       rw [cell_of_row _ _ _ vals T (0,0) b1,hu]
       rfl
      ·have hj:j < szOf es:=by
        rw [←h3 e (List.mem_of_getElem? he)]
        exact (List.getElem?_eq_some_iff.1 hx).1
       obtain ⟨u,hu,hrel⟩:=at_ (i * szOf es + j) x (by rw [flat_pos h3 i j e he hj];exact hx)
       rw [hu]
       exact hrel
     cases hv with
     | sk o n k hs hn=>
      subst h1
      exact fin _ k hs hn
     | so o n z k hs hn _ _=>
      subst h1
      exact fin _ k hs hn
     | s0 o k A hs _=>
      have:es= []:=List.eq_nil_of_length_eq_zero h1
      subst this
      exact .fz0 (some A) 0 fun h=> by cases h
    ·cases h
   ·cases h
  ·cases h
noncomputable def xK:List (FuncId×List D×Bool)→Ext
 | [],_,_,_,_=> none
 | (g,ds,r)::t,f,args,H,nx=> ifB (Bool.and (Nat.beq f g) (Bool.and (Nat.beq ds.length args.length) (chkL (chkD H 9) ds args))) (some (.ok (.v (.bool r)) H nx)) (xK t f args H nx)
set_option maxRecDepth 100000 in
theorem xK_ok:∀{tbl:List (FuncId×List D×Bool)},(∀p∈tbl,Fn False Tryz.prog p.1 (p.2.1.map AV.d) (.d (.v (.bool p.2.2))))→ExtOk Tryz.prog Go.Proofs.YtiklglcjecopcaaGreatDoor.Inv (xK tbl)
 | [],_=> fun f args H nx v H' nx' h=> by cases h
 | (g,ds,r)::t,hF=> fun f args H nx v H' nx' h w0 σ w vals hG hr hL=> by
  rcases ifB_cases (show ifB _ _ _=_ from h) with ⟨e,h1⟩ | ⟨_,h1⟩
  ·obtain ⟨e1,e2⟩:=and_true e
   obtain ⟨e2,e3⟩:=and_true e2
   have e1:=beq_eq' e1
   have e2:=beq_eq' e2
   subst e1
   injection h1 with h1
   injection h1 with h1 h2 h3
   subst h1 h2 h3
   obtain ⟨hc,hf⟩:=hF _ (List.mem_cons_self ..)
   refine ⟨hc vals w,?_⟩
   have hI:Go.Proofs.YtiklglcjecopcaaGreatDoor.Inv w:=invB hG hr.below
   refine kept_after (x:= .bool r) hr (.v _ rfl) ((hf w (fun b=> b < w.heap.size) vals hI (fun b hb=> hb) ⟨?_,fun j c u hc hu=> ?_⟩).mono ?_)
   ·rw [hL.1,List.length_map,e2]
   ·rw [List.getElem?_map] at hc
    cases hq:ds[j]? with
    | none=> rw [hq] at hc;cases hc
    | some d=>
     rw [hq] at hc
     injection hc with hc
     subst hc
     obtain ⟨cv,hcv,hchk⟩:=chkL_at e3 j d hq
     exact .d (chkD_ok hr 9 d cv u hchk (hL.2 j cv u hcv hu))
   ·rintro e w' ⟨v,S',bs,rfl,hb,_,hres,_⟩
    obtain ⟨b,_,hrd,_⟩:=hres
    cases hrd
    exact ⟨rfl,hb.toBelow⟩
  ·exact xK_ok (fun p hp=> hF p (List.mem_cons_of_mem _ hp)) f args H nx v H' nx' h1 w0 σ w vals hG hr hL
def saysTrue:Res→Bool
 | .ok (.v (.bool b)) _ _=> b
 | _=> false
set_option maxRecDepth 100000 in
theorem head_fn {tbl:List (FuncId×List D×Bool)} (hF:∀p∈tbl,Fn False Tryz.prog p.1 (p.2.1.map AV.d) (.d (.v (.bool p.2.2)))) {k n:Nat} {f:FuncId} (he:∀(args:Array Value) (w:World),(callFunc f args).run Tryz.prog w= .ok (.enter f args) w) (h:saysTrue (rc Tryz.prog (extL (xK tbl)) k n f [] .e 0)=true):
  Fn False Tryz.prog f [] (.d (.v (.bool true))):=by
 refine ⟨he,fun w A vals hI hA hrel=> ?_⟩
 have hv:vals= #[]:=by
  have:=hrel.nil_inv
  apply Array.ext'
  simpa using this
 subst hv
 unfold saysTrue at h
 split at h
 ·rename_i b H' nx' hrc
  subst h
  have hE:=extL_ok (G:=Go.Proofs.YtiklglcjecopcaaGreatDoor.Inv) (fun w0 w hG hb=> tab0 (invB hG hb)) (xK_ok hF)
  refine (rc_ok mixed hE k n f [] .e 0 _ H' nx' hrc w (fun _=> none) w #[] hI (R.start w) (VRL.nil _)).2.mono ?_
  rintro e w' ⟨x,rfl,σ',_,_,hR,_,hx⟩
  refine ⟨x,A,[none],rfl,⟨hR.below,fun h=> h.elim⟩,fun b hb=> ⟨Nat.lt_of_lt_of_le (hA b hb) hR.below.size,Or.inl hb⟩,⟨none,rfl,?_,rfl⟩,by simp [Apart],fun b hb=> by simp at hb⟩
  rw [hx.val]
  exact .v _ rfl
 ·cases h
end Go.Proofs.YtiklglcjecopcaaGreatDoor.Ci
namespace Go.Proofs.YtiklglcjecopcaaGreatDoor
open Go.RowKit
def CK.desc:CK→TypeDesc
 | .i k=> .int k
 | .b=> .bool
 | .s=> .string
 | .st _=> .bool
def EqFields (P:Program):Nat→List CK→List Field→Prop
 | _,[],[]=> True
 | o,c::cs,f::fs=> (f.offset=o∧f.name≠ "_" ∧SizeIs P f.type 1∧P.underlying f.type=some c.desc)∧EqFields P (o + 1) cs fs
 | _,_,_=> False
section
variable {P : Program} {κ : Cx}
theorem eqCell_inv {c:CK} {x y:AV} {b:Bool} (h:eqCell c x y=some b):∃u v,x= .d (.v u)∧y= .d (.v v)∧∀(P:Program) (w:World) (t:TypeId) (d:Nat),P.underlying t=some c.desc→(Op.equalIn (d + 1) t u v).run P w= .ok b w:=by
 unfold eqCell at h
 split at h
 ·rename_i k0 k p k' q
  by_cases hk:k=k0∧k'=k0
  ·obtain ⟨rfl,rfl⟩:=hk
   rw [if_pos ⟨rfl,rfl⟩] at h
   injection h with h
   subst h
   exact ⟨_,_,rfl,rfl,fun P w t d hu=> run_equalIn_int w d t _ _ p q hu⟩
  ·rw [if_neg hk] at h;cases h
 ·rename_i p q
  injection h with h
  subst h
  exact ⟨_,_,rfl,rfl,fun P w t d hu=> run_equalIn_bool' w d t p q hu⟩
 ·rename_i p q
  injection h with h
  subst h
  exact ⟨_,_,rfl,rfl,fun P w t d hu=> by rw [run_equalIn_string w d t p q hu,beq_toListBytes]⟩
 ·cases h
theorem eqCells_inv {c:CK} {ks:List CK} {cs ds:List AV} {b:Bool} (h:eqCells (c::ks) cs ds=some b):∃x y r r' b0 b1,cs= .d (.v x)::r∧ds= .d (.v y)::r'∧eqCells ks r r'=some b1∧b=(b0 && b1)∧∀(P:Program) (w:World) (t:TypeId) (d:Nat),P.underlying t=some c.desc→(Op.equalIn (d + 1) t x y).run P w= .ok b0 w:=by
 cases cs with
 | nil=> cases h
 | cons x r=>
  cases ds with
  | nil=> cases h
  | cons y r'=>
   simp only [eqCells] at h
   cases h0:eqCell c x y with
   | none=> rw [h0] at h;cases h
   | some b0=>
    rw [h0] at h
    cases h1:eqCells ks r r' with
    | none=> rw [h1] at h;cases h
    | some b1=>
     rw [h1] at h
     injection h with h
     obtain ⟨u,v,rfl,rfl,hr⟩:=eqCell_inv h0
     exact ⟨u,v,r,r',b0,b1,rfl,rfl,h1,h.symm,hr⟩
theorem eqFields_run (w:World) (d:Nat):∀(ks:List CK) (fs:List Field) (o:Nat) (xs ys:Array Value) (cs ds:List AV) (b:Bool),EqFields P o ks fs→RelL κ cs (xs.toList.drop o)→RelL κ ds (ys.toList.drop o)→eqCells ks cs ds=some b→(Op.eqFields (d + 1) xs ys fs).run P w= .ok b w
 | [],[],o,xs,ys,cs,ds,b,hf,hx,hy,he=> by
  cases cs with
  | nil=>
   cases ds with
   | nil=>
    injection he with he
    subst he
    rfl
   | cons=> cases he
  | cons=> cases he
 | [],_::_,o,xs,ys,cs,ds,b,hf,hx,hy,he=> hf.elim
 | _::_,[],o,xs,ys,cs,ds,b,hf,hx,hy,he=> hf.elim
 | k::ks,f::fs,o,xs,ys,cs,ds,b,hf,hx,hy,he=> by
  obtain ⟨⟨ho,hn,hz,hu⟩,hf⟩:=hf
  obtain ⟨x0,y0,r,r',b0,b1,rfl,rfl,he2,rfl,hrun⟩:=eqCells_inv he
  obtain ⟨x,xs',ex,hcx,hx'⟩:=hx.cons_inv
  obtain ⟨y,ys',ey,hcy,hy'⟩:=hy.cons_inv
  have hxv:=hcx.val
  have hyv:=hcy.val
  subst hxv hyv
  have gx:xs[o]? =some x:=by
   have:=congrArg (fun l=> l[0]?) ex
   simpa using this
  have gy:ys[o]? =some y:=by
   have:=congrArg (fun l=> l[0]?) ey
   simpa using this
  have dx:xs.toList.drop (o + 1)=xs':=by rw [←List.drop_drop,ex];rfl
  have dy:ys.toList.drop (o + 1)=ys':=by rw [←List.drop_drop,ey];rfl
  rw [←dx] at hx'
  rw [←dy] at hy'
  have hr:k.desc.isRow=false:=by cases k <;> rfl
  have part:∀(zs:Array Value) (z:Value),zs[o]? =some z→(part f.type zs f.offset).run P w= .ok z w:=by
   intro zs z hz'
   rw [run_part hu hz,hr,ho,hz']
   rfl
  have ih:=eqFields_run w d ks fs (o + 1) xs ys r r' b1 hf hx' hy' he2
  simp only [Op.eqFields,hn,ne_eq,not_false_eq_true,if_true,Sem.run_bind,part xs x gx,part ys y gy,Result.andThen_ok,hrun P w f.type d hu]
  cases b0
  ·simp
  ·simp [ih]
theorem checkFields (w:World) (em:Bool):∀(ks:List CK) (fs:List Field) (o:Nat) (xs:Array Value),EqFields P o ks fs→ks.all isI64=true→(xs.toList.drop o).length=ks.length→(xs.toList.drop o).all i64V=true→
  (forIn fs PUnit.unit fun (f:Field) (_:PUnit)=> (do
   if f.name≠ "_" then
    Instr.checkKey em 9999 f.type (←part f.type xs f.offset)
    pure (ForInStep.yield PUnit.unit)
   else pure (ForInStep.yield PUnit.unit):Sem (ForInStep PUnit))).run P w= .ok PUnit.unit w
 | [],[],o,xs,hf,hk,hl,hx=> rfl
 | [],_::_,o,xs,hf,hk,hl,hx=> hf.elim
 | _::_,[],o,xs,hf,hk,hl,hx=> hf.elim
 | k::ks,f::fs,o,xs,hf,hk,hl,hx=> by
  obtain ⟨⟨ho,hn,hz,hu⟩,hf⟩:=hf
  rw [List.all_cons,Bool.and_eq_true] at hk
  have hk1:k= .i .i64:=by
   have:=hk.1
   unfold isI64 at this
   split at this
   ·rfl
   ·cases this
  subst hk1
  cases hd:xs.toList.drop o with
  | nil=> rw [hd] at hl;simp at hl
  | cons x xs'=>
   rw [hd] at hl hx
   rw [List.all_cons,Bool.and_eq_true] at hx
   have gx:xs[o]? =some x:=by
    have:=congrArg (fun l=> l[0]?) hd
    simpa using this
   have dx:xs.toList.drop (o + 1)=xs':=by rw [←List.drop_drop,hd];rfl
   have hv:∃n,x= .int .i64 n:=by
    have:=hx.1
    unfold i64V at this
    split at this
    ·exact ⟨_,rfl⟩
    ·cases this
   obtain ⟨n,rfl⟩:=hv
   have hpart:(part f.type xs f.offset).run P w= .ok (.int .i64 n) w:=by
    rw [run_part hu hz,show (CK.i .i64).desc.isRow=false from rfl,ho,gx]
    rfl
   have hc:(Instr.checkKey em 9999 f.type (.int .i64 n)).run P w= .ok () w:=MapKept.run_checkKey hu (by trivial) em 9998
   have ih:=checkFields w em ks fs (o + 1) xs hf hk.2 (by rw [dx];simpa using hl) (by rw [dx];exact hx.2)
   simp only [List.forIn_cons,hn,ne_eq,not_false_eq_true,if_true,Sem.run_bind,hpart,hc,Result.andThen_ok,Sem.run_pure]
   exact ih
theorem eq_struct {t:TypeId} (ks:List CK) (hu:P.underlying t=some (.struct (P.fieldsOf t))) (hp:P.stoodInHeld t=false) (hm:P.eqGuardType P.depth t=false) (hf:EqFields P 0 ks (P.fieldsOf t).toList):EqS P t ks where
 eq w xs ys cs ds b x y κ hx hy he:=by
  refine ⟨run_eqGuard_agg w .eql t x y xs ys hm,run_eqGuard_agg w .neq t x y xs ys hm,?_⟩
  show (Op.equalIn (9999 + 1) t (.agg xs) (.agg ys)).run P w=_
  rw [run_equalIn_agg w 9999 t xs ys hu hp]
  exact eqFields_run w 9998 ks _ 0 xs ys cs ds b hf hx hy he
 key hk w e xs hl hx:=by
  unfold Instr.checkKey
  simp only [Sem.run_bind,run_underlying hu,Result.andThen_ok]
  rw [←Array.forIn_toList]
  have h:=checkFields w e ks _ 0 xs hf hk (by simpa using hl) (by simpa using hx)
  exact (congrArg (fun r=> Result.andThen r fun a w'=> Sem.run P (pure ()) w') h).trans rfl
theorem eq_struct_of {t:TypeId} {fs:Array Field} (ks:List CK) (hu:P.underlying t=some (.struct fs)) (hp:P.stoodInHeld t=false) (hm:P.eqGuardType P.depth t=false) (hf:EqFields P 0 ks fs.toList):EqS P t ks:=by
 have e:P.fieldsOf t=fs:=by
  unfold Program.fieldsOf
  rw [hu]
 exact eq_struct ks (by rw [e];exact hu) hp hm (by rw [e];exact hf)
end
end Go.Proofs.YtiklglcjecopcaaGreatDoor

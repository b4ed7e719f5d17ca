/-
Evaluation of Go code on plain data: code and functions. Over any program.
-/
import Derived.Test.YtmgcnoigihdhpaaGreatDoorQ13
import Derived.Deep.LoopGhost
namespace Go.Proofs.YtmgcnoigihdhpaaGreatDoor
open Go.RowKit
def Holds (w0:Start) (A:Nat→Prop) (nt:Nat) (R:ASt→Prop) (a:Act) (w:World):Prop:=∃st κ,κ.w=w∧Sim w0 A st.m κ∧EnvOk κ st.env a.tmps∧a.tmps.size=nt∧a.defers= []∧R st
theorem Holds.mono {w0:Start} {A:Nat→Prop} {nt:Nat} {R R':ASt→Prop} {a:Act} {w:World} (h:Holds w0 A nt R a w) (hr:∀st,R st→R' st):Holds w0 A nt R' a w:=
 let ⟨st,κ,h1,h2,h3,h4,h5,h6⟩:=h
 ⟨st,κ,h1,h2,h3,h4,h5,hr st h6⟩
def Lift (w0:Start) (A:Nat→Prop) (nt:Nat) (Q:Ex→ASt→Prop):Exit→Act→World→Prop
 | .normal,a,w=> Holds w0 A nt (Q .normal) a w
 | .exit i,a,w=> Holds w0 A nt (Q (.exit i)) a w
 | .ret,a,w=> Holds w0 A nt (Q .ret) a w
 | _,_,_=> False
theorem put_size (a:Act) (dst:Option Tmp) (x:Value):(a.put dst x).tmps.size=a.tmps.size:=by
 cases dst <;> simp [Act.put]
theorem put_defers (a:Act) (dst:Option Tmp) (x:Value):(a.put dst x).defers=a.defers:=by
 cases dst <;> rfl
theorem EnvOk.put {κ:Cx} {env:Nat→Option AV} {a:Act} {o:Oper} {v:AV} {x:Value} {nt:Nat} (h:EnvOk κ env a.tmps) (hn:a.tmps.size=nt) (hd:dstOk nt o=true) (hx:Rel κ v x):EnvOk κ (putE env o.dst v) (a.put o.dst x).tmps:=by
 unfold dstOk at hd
 cases hdst:o.dst with
 | none=> exact h
 | some d=>
  rw [hdst] at hd
  have hd:d < nt:=Nat.lt_of_succ_le (Nat.le_of_ble_eq_true hd)
  intro t u ht
  simp only [putE,updT,beq_dec] at ht
  by_cases htd:t=d
  ·subst htd
   simp at ht
   subst ht
   exact ⟨x,by simp [Act.put,hn,hd],hx⟩
  ·simp [htd] at ht
   obtain ⟨y,hy,hr⟩:=h t u ht
   refine ⟨y,?_,hr⟩
   simp only [Act.put]
   rw [Array.getElem?_setIfInBounds_ne (Ne.symm htd)]
   exact hy
section
variable {P : Program} {T : Nat → TI} {base nt : Nat} {F : FuncId → List AV → AV → Prop} {w0 : Start} {A : Nat → Prop}
theorem undef_rel (κ:Cx):Rel κ (.tup []) undef:= .tup rfl fun j c v hc=> by simp at hc
theorem env_known {κ:Cx} {env:Nat→Option AV} {tmps:Array Value} {t:Nat} {b:Bool} (he:EnvOk κ env tmps) (ht:env t=some (.d (.v (.bool b)))):EnvOk κ (updT env t (some (.kb b))) tmps:=by
 intro x v hx
 simp only [updT,beq_dec] at hx
 by_cases h:x=t
 ·subst h
  simp at hx
  subst hx
  obtain ⟨y,hy,hr⟩:=he x _ ht
  have:=hr.val
  subst this
  exact ⟨_,hy,.kb b⟩
 ·simp [h] at hx
  exact he x v hx
theorem runL_step (hT:TOk P T) (heq:∀t,(T t).eqs=true→(T t).known=true) (hF:∀f args r,F f args r→FnX w0.dr P f args r) {ops:Array Oper} {o:Oper} {r:List Oper} {K:ASt→Prop} {N:Act→World→Prop} {Q:Exit→Act→World→Prop} {st:ASt} {κ:Cx} {a:Act}
  (hs:Sim w0 A st.m κ) (he:EnvOk κ st.env a.tmps) (hn:a.tmps.size=nt) (hd:a.defers= []) (h:runL T base nt F ops.toList (o::r) st K)
  (hN:∀st' κ' a',Sim w0 A st'.m κ'→EnvOk κ' st'.env a'.tmps→a'.tmps.size=nt→a'.defers= []→runL T base nt F ops.toList r st' K→N a' κ'.w):
  if Region.wanted o (yielded ops a.tmps) then o.wp P a κ.w N Q else N (a.put o.dst undef) κ.w:=by
 unfold runL at h
 cases hdo:dstOk nt o
 ·rw [hdo] at h;exact h.elim
 ·rw [hdo] at h
  simp only [Bool.not_true,cond_false] at h
  have exec:∀env,EnvOk κ env a.tmps→(opF T base env o).wp F st.m (fun v m=> runL T base nt F ops.toList r ⟨putE env o.dst v,m⟩ K)→o.wp P a κ.w N Q:=by
   intro env he h
   obtain ⟨v,m',hr,hk⟩:=Step.wp_runs _ _ _ h
   refine Oper.wp_mono ?_ (op_sim hT heq hF hs he hr)
   rintro a' w' ⟨κ',rfl,h1,h2,x,rfl,hx⟩
   exact hN ⟨putE env o.dst v,m'⟩ κ' _ h1 ((he.mono h2).put hn hdo hx) (by rw [put_size,hn]) (by rw [put_defers,hd]) hk
  have skip:∀env,EnvOk κ env a.tmps→runL T base nt F ops.toList r ⟨putE env o.dst (.tup []),st.m⟩ K→N (a.put o.dst undef) κ.w:=fun env he h=>
   hN ⟨putE env o.dst (.tup []),st.m⟩ κ _ hs (he.put hn hdo (undef_rel κ)) (by rw [put_size,hn]) (by rw [put_defers,hd]) h
  cases hg:o.guard with
  | none=>
   rw [hg] at h
   have:Region.wanted o (yielded ops a.tmps)=true:=by simp [Region.wanted,hg]
   rw [if_pos this]
   exact exec _ he h
  | some p=>
   obtain ⟨j,want⟩:=p
   rw [hg] at h
   dsimp only at h
   cases hj:gdst ops.toList j with
   | none=> rw [hj] at h;exact h.elim
   | some t=>
    rw [hj] at h
    dsimp only at h
    have hy:∀x,a.tmps[t]? =some x→yielded ops a.tmps j=match x with | .bool b=> some b | _=> none:=by
     intro x hx
     unfold yielded
     have hb:(ops[j]?).bind (·.dst)=some t:=by
      unfold gdst at hj
      rw [←Array.getElem?_toList]
      cases hq:ops.toList[j]? with
      | none=> rw [hq] at hj;cases hj
      | some q=> rw [hq] at hj;exact hj
     rw [hb]
     simp only [Option.bind_some,hx]
     cases x <;> rfl
    have go:∀(b:Bool) (env:Nat→Option AV),EnvOk κ env a.tmps→a.tmps[t]? =some (.bool b)→(bif want then (bif b then (opF T base env o).wp F st.m (fun v m=> runL T base nt F ops.toList r ⟨putE env o.dst v,m⟩ K) else runL T base nt F ops.toList r ⟨putE env o.dst (.tup []),st.m⟩ K)
      else (bif b then runL T base nt F ops.toList r ⟨putE env o.dst (.tup []),st.m⟩ K else (opF T base env o).wp F st.m (fun v m=> runL T base nt F ops.toList r ⟨putE env o.dst v,m⟩ K)))→
      if Region.wanted o (yielded ops a.tmps) then o.wp P a κ.w N Q else N (a.put o.dst undef) κ.w:=by
     intro b env he hx h
     have hy:=hy _ hx
     dsimp only at hy
     cases want <;> cases b
     ·have:Region.wanted o (yielded ops a.tmps)=true:=by simp [Region.wanted,hg,hy]
      rw [if_pos this]
      exact exec env he h
     ·have:Region.wanted o (yielded ops a.tmps)=false:=by simp [Region.wanted,hg,hy]
      rw [this]
      exact skip env he h
     ·have:Region.wanted o (yielded ops a.tmps)=false:=by simp [Region.wanted,hg,hy]
      rw [this]
      exact skip env he h
     ·have:Region.wanted o (yielded ops a.tmps)=true:=by simp [Region.wanted,hg,hy]
      rw [if_pos this]
      exact exec env he h
    split at h
    ·rename_i hb
     obtain ⟨x,hx,hr⟩:=he t _ hb
     cases hr
     exact go true _ he hx (by cases want <;> exact h)
    ·rename_i hb
     obtain ⟨x,hx,hr⟩:=he t _ hb
     cases hr
     exact go false _ he hx (by cases want <;> exact h)
    ·rename_i b hb
     obtain ⟨x,hx,hr⟩:=he t _ hb
     have:=hr.val
     subst this
     have he':=env_known he hb
     cases b
     ·exact go false _ he' hx (by cases want <;> exact h.2 rfl)
     ·exact go true _ he' hx (by cases want <;> exact h.1 rfl)
    ·rename_i hb
     obtain ⟨x,hx,hr⟩:=he t _ hb
     obtain ⟨vs,rfl,_⟩:=hr.tup_inv
     have hy:=hy _ hx
     dsimp only at hy
     have:Region.wanted o (yielded ops a.tmps)=false:=by simp [Region.wanted,hg,hy]
     rw [this]
     exact skip _ he h
    ·exact h.elim
theorem runL_sound (hT:TOk P T) (heq:∀t,(T t).eqs=true→(T t).known=true) (hF:∀f args r,F f args r→FnX w0.dr P f args r) {ops:Array Oper} {K:ASt→Prop} {Q:Exit→Act→World→Prop} (hQ:∀a w,Holds w0 A nt K a w→Q .normal a w):
  ∀(l:List Oper) (st:ASt) (κ:Cx) (a:Act),Sim w0 A st.m κ→EnvOk κ st.env a.tmps→a.tmps.size=nt→a.defers= []→runL T base nt F ops.toList l st K→wpList P ops Q l a κ.w
 | [],st,κ,a,hs,he,hn,hd,h=> hQ a κ.w ⟨st,κ,rfl,hs,he,hn,hd,h⟩
 | o::r,st,κ,a,hs,he,hn,hd,h=> by
  refine wpList_step fun K' hK'=> ?_
  exact runL_step hT heq hF hs he hn hd h fun st' κ' a' h1 h2 h3 h4 h5=> hK' _ _ (runL_sound hT heq hF hQ r st' κ' a' h1 h2 h3 h4 h5)
end
def Cx.ren (κ:Cx) (σ:List (Nat×Nat×Nat)):Cx:=⟨fun s _=> κ.φ (sig σ s).1 (sig σ s).2,fun _=> 1,κ.S,κ.w⟩
theorem ren1_rel {κ:Cx} {σ:List (Nat×Nat×Nat)} {v:AV} {x:Value} (hl:low1 v=true) (h:Rel κ (ren1 σ v) x):Rel (κ.ren σ) v x:=by
 have one:∀{g:Nat},Nat.beq g 1=true→g≤1:=fun hg=> by rw [Nat.eq_of_beq_eq_true hg];exact Nat.le_refl _
 cases v with
 | lp s g o=> cases h with | lp hg hb=> exact .lp (one hl) hb
 | rp s g i o=>
  cases h with
  | rp hg hb=> exact Rel.rp (κ:=κ.ren σ) (s:=s) (g:=g) (i:=i) (o:=o) (one hl) hb
 | row s g n=>
  cases h with
  | row0 A' hg hb hz=> exact .row0 A' (one hl) hb hz
  | row hg hb=> exact Rel.row (κ:=κ.ren σ) (s:=s) (g:=g) (one hl) hb
 | sub s g o n=>
  cases h with
  | sub0 A' hg hb hz=> exact .sub0 A' (one hl) hb hz
  | sub A' hg hb hA hn=> exact Rel.sub (κ:=κ.ren σ) (s:=s) (g:=g) A' (one hl) hb hA hn
 | d y=> cases h with | d h=> exact .d h
 | nl=> cases h with | nl A'=> exact .nl A'
 | fp cs=> cases h with | fp vs hb hc hr=> exact .fp vs hb hc hr
 | mp s g=> cases h with | mp hg hb=> exact .mp (one hl) hb
 | _=> cases hl
theorem renL_rel {κ:Cx} {σ:List (Nat×Nat×Nat)} {cs:List AV} {vs:Array Value} (hl:cs.all low1=true) (hn:vs.size=(cs.map (ren1 σ)).length) (h:∀(j:Nat) (c:AV) (v:Value),(cs.map (ren1 σ))[j]? =some c→vs[j]? =some v→Rel κ c v):
  vs.size=cs.length∧∀(j:Nat) (c:AV) (v:Value),cs[j]? =some c→vs[j]? =some v→Rel (κ.ren σ) c v:=
 ⟨by simpa using hn,fun j c v hc hv=> ren1_rel (List.all_eq_true.1 hl c (List.mem_of_getElem? hc)) (h j _ v (by rw [List.getElem?_map,hc];rfl) hv)⟩
theorem renV_rel {κ:Cx} {σ:List (Nat×Nat×Nat)} {v:AV} {x:Value} (hl:lowV v=true) (h:Rel κ (renV σ v) x):Rel (κ.ren σ) v x:=by
 have h1:= @ren1_rel κ σ v x
 cases v with
 | agg cs=> cases h with | agg hn h=> exact let ⟨q1,q2⟩:=renL_rel hl hn h;.agg q1 q2
 | tup cs=> cases h with | tup hn h=> exact let ⟨q1,q2⟩:=renL_rel hl hn h;.tup q1 q2
 | fn f cs=> cases h with | fn hn h=> exact let ⟨q1,q2⟩:=renL_rel hl hn h;.fn q1 q2
 | _=> exact h1 hl h
theorem mapO_some {α β:Type} {f:α→β} {o:Option α} {y:β} (h:mapO f o=some y):∃x,o=some x∧f x=y:=by
 cases o with
 | none=> cases h
 | some x=> exact ⟨x,rfl,by injection h⟩
theorem frzM_sim {w0:Start} {A:Nat→Prop}:∀(fl:List (Nat×Nat)) (m:Mem) (κ:Cx) (m':Mem),Sim w0 A m κ→frzM m fl=some m'→∃κ',Sim w0 A m' κ'∧κ.Le κ'∧κ'.w=κ.w
 | [],m,κ,m',hs,h=> by
  injection h with h
  subst h
  exact ⟨κ,hs,.refl κ,rfl⟩
 | (s,g)::r,m,κ,m',hs,h=> by
  simp only [frzM] at h
  split at h
  ·rename_i sz es ro hi
   obtain ⟨q1,q2⟩:=hs.frz hi
   obtain ⟨κ',r1,r2,r3⟩:=frzM_sim r _ _ m' q1 h
   exact ⟨κ',r1,q2.trans r2,r3.trans rfl⟩
  ·cases h
theorem sepM_get {σ:List (Nat×Nat×Nat)}:∀{M:List (Nat×Inst)},sepM σ M=true→∀s s' i i',lookM M s=some i→lookM M s'=some i'→(sig σ s).1=(sig σ s').1→(sig σ s).2=(sig σ s').2→s=s'
 | [],_,s,s',i,i',h,_,_,_=> by cases h
 | (l,q)::M,hs,s,s',i,i',h,h',e1,e2=> by
  simp only [sepM,Bool.and_eq_true] at hs
  have mem:∀{M:List (Nat×Inst)} {t:Nat} {j:Inst},lookM M t=some j→∃p∈M,p.1=t:=by
   intro M
   induction M with
   | nil=> intro t j h;cases h
   | cons p M ih=>
    obtain ⟨pl,pi⟩:=p
    intro t j h
    simp only [lookM,beq_dec] at h
    by_cases ht:t=pl
    ·exact ⟨(pl,pi),by simp,ht.symm⟩
    ·simp [ht] at h
     obtain ⟨p,hp,e⟩:=ih h
     exact ⟨p,by simp [hp],e⟩
  have far:∀{t:Nat} {j:Inst},lookM M t=some j→¬((sig σ l).1=(sig σ t).1∧(sig σ l).2=(sig σ t).2):=by
   intro t j h
   obtain ⟨p,hp,rfl⟩:=mem h
   have:=List.all_eq_true.1 hs.1 p hp
   simp only [beq_dec,Bool.not_eq_true',Bool.and_eq_false_imp,decide_eq_true_eq,decide_eq_false_iff_not] at this
   exact fun h=> this h.1 h.2
  simp only [lookM,beq_dec] at h h'
  by_cases hl:s=l <;> by_cases hl':s'=l
  ·rw [hl,hl']
  ·simp [hl'] at h'
   subst hl
   exact absurd ⟨e1,e2⟩ (far h')
  ·simp [hl] at h
   subst hl'
   exact absurd ⟨e1.symm,e2.symm⟩ (far h)
  ·simp [hl] at h
   simp [hl'] at h'
   exact sepM_get hs.2 s s' i i' h h' e1 e2
theorem sepM_pin {σ:List (Nat×Nat×Nat)}:∀{M:List (Nat×Inst)},sepM σ M=true→pinS σ=true
 | [],h=> h
 | (l,q)::M,h=> by
  simp only [sepM,Bool.and_eq_true] at h
  exact sepM_pin h.2
theorem sig_pin:∀{σ:List (Nat×Nat×Nat)},pinS σ=true→∀x,1000000 < x→sig σ x=(x,1)
 | [],_,x,_=> rfl
 | (l,p)::r,h,x,hx=> by
  unfold pinS at h
  rw [List.all_cons,Bool.and_eq_true] at h
  have h1:=Nat.le_of_ble_eq_true h.1
  have hne:x≠l:=by
   have h1:l≤1000000:=h1
   omega
  simp only [sig,beq_dec,hne,decide_false,cond_false]
  exact sig_pin h.2 x hx
section
variable {w0 : Start} {A : Nat → Prop} {m : Mem} {κ : Cx}
theorem viewA_rel (hs:Sim w0 A m κ) {v x:AV} {y:Value} (h:Rel κ x y):Rel κ (viewA m v x) y:=by
 unfold viewA
 split
 ·split
  ·rename_i s g n
   cases h with
   | row0 A' hg hb hz=> exact .sub0 A' hg hb hz
   | row hg hb=> exact Rel.sub (κ:=κ) (s:=s) (g:=g) (o:=0) _ hg hb (Or.inr (by simp)) (by omega)
  ·exact h
 ·split
  ·rename_i s g n
   split
   ·rename_i sz es hi
    exact .d (row_read hs hi h (fun _ h=> h) fun b hb=> hs.isS s g _ b hi hb rfl).1
   ·exact h
  ·rename_i s g o n
   split
   ·rename_i sz es hi
    exact .d (sub_read hs hi h (fun _ h=> h) fun b hb=> hs.isS s g _ b hi hb rfl).1
   ·exact h
  ·cases h with
   | nl A'=> exact .d (.fz0 A' 0 fun _=> rfl)
  ·exact h
 ·exact h
theorem viewL_rel (hs:Sim w0 A m κ):∀(vs xs:List AV) (ys:List Value),(∀(j:Nat) (c:AV) (y:Value),xs[j]? =some c→ys[j]? =some y→Rel κ c y)→(viewL m vs xs).length=xs.length∧∀(j:Nat) (c:AV) (y:Value),(viewL m vs xs)[j]? =some c→ys[j]? =some y→Rel κ c y
 | [],xs,ys,h=> ⟨by cases xs <;> rfl,fun j c y hc hy=> h j c y (by cases xs <;> exact hc) hy⟩
 | v::vs,[],ys,h=> ⟨rfl,fun j c y hc hy=> by simp [viewL] at hc⟩
 | v::vs,x::xs,ys,h=> by
  cases ys with
  | nil=> exact ⟨by simp [viewL,(viewL_rel hs vs xs [] (fun j c y _ hy=> by simp at hy)).1],fun j c y _ hy=> by simp at hy⟩
  | cons y0 ys=>
   obtain ⟨q1,q2⟩:=viewL_rel hs vs xs ys fun j c y hc hy=> h (j + 1) c y (by simpa using hc) (by simpa using hy)
   refine ⟨by simp [viewL,q1],fun j c y hc hy=> ?_⟩
   cases j with
   | zero=>
    simp [viewL] at hc hy
    subst hc hy
    exact viewA_rel hs (h 0 x _ rfl rfl)
   | succ j=> exact q2 j c y (by simpa [viewL] using hc) (by simpa using hy)
theorem viewV_rel (hs:Sim w0 A m κ) {v x:AV} {y:Value} (h:Rel κ x y):Rel κ (viewV m v x) y:=by
 unfold viewV
 split
 ·rename_i vs
  split
  ·rename_i xs
   cases h with
   | @agg _ ys hl h=>
    obtain ⟨q1,q2⟩:=viewL_rel hs vs xs ys.toList fun j c y hc hy=> h j c y hc (by simpa using hy)
    exact .agg (by rw [hl,q1]) fun j c y hc hy=> q2 j c y hc (by simpa using hy)
  ·exact h
 ·exact viewA_rel hs h
end
theorem chkE_get {σ:List (Nat×Nat×Nat)} {st:ASt}:∀{E:List (Nat×AV)},chkE σ st E→∀t v,lookE E t=some v→lowV v=true∧mapO (viewV st.m v) (unkO (st.env t))=some (renV σ v)
 | [],_,t,v,h=> by cases h
 | (t',v')::E,hc,t,v,h=> by
  simp only [chkE] at hc
  simp only [lookE,beq_dec] at h
  cases hl:lowV v'
  ·rw [hl] at hc;exact hc.elim
  ·rw [hl] at hc
   by_cases ht:t=t'
   ·subst ht
    simp at h
    subst h
    exact ⟨hl,hc.1⟩
   ·simp [ht] at h
    exact chkE_get hc.2 t v h
theorem chkM_get {σ:List (Nat×Nat×Nat)} {st:ASt}:∀{M:List (Nat×Inst)},chkM σ st M→∀s i,lookM M s=some i→lowI i=true∧mapO (viewI st.m i) (st.m.at_ (sig σ s).1 (sig σ s).2)=some (renI σ i)
 | [],_,t,v,h=> by cases h
 | (t',v')::E,hc,t,v,h=> by
  simp only [chkM] at hc
  simp only [lookM,beq_dec] at h
  cases hl:lowI v'
  ·rw [hl] at hc;exact hc.elim
  ·rw [hl] at hc
   by_cases ht:t=t'
   ·subst ht
    simp at h
    subst h
    exact ⟨hl,hc.1⟩
   ·simp [ht] at h
    exact chkM_get hc.2 t v h
theorem enters_sim {w0:Start} {A:Nat→Prop} {st:ASt} {κ:Cx} {tmps:Array Value} {E:List (Nat×AV)} {M:List (Nat×Inst)} (hs:Sim w0 A st.m κ) (he:EnvOk κ st.env tmps) (h:Enters st E M):
  ∃κ',κ'.w=κ.w∧Sim w0 A (mkSt E M).m κ'∧EnvOk κ' (mkSt E M).env tmps:=by
 obtain ⟨fl,σ,h⟩:=h
 split at h
 rotate_left
 ·exact h.elim
 rename_i mf hfl
 obtain ⟨κ1,hs1,hle1,hw1⟩:=frzM_sim fl _ κ mf hs hfl
 have he1:=he.mono hle1
 rw [←hw1]
 obtain ⟨hsep,hE,hM⟩:=h
 have inst:∀s g i,(mkSt E M).m.at_ s g=some i→lookM M s=some i:=by
  intro s g i hi
  simp only [mkSt,beq_dec] at hi
  by_cases hg:g=1
  ·simpa [hg] using hi
  ·simp [hg] at hi
 have mem:∀s g i,(mkSt E M).m.at_ s g=some i→g=1∧lowI i=true∧∃j,mf.at_ (sig σ s).1 (sig σ s).2=some j∧viewI mf i j=renI σ i:=by
  intro s g i hi
  have hg:g=1:=by
   simp only [mkSt,beq_dec] at hi
   by_cases hg:g=1
   ·exact hg
   ·simp [hg] at hi
  obtain ⟨q1,q2⟩:=chkM_get hM s i (inst s g i hi)
  exact ⟨hg,q1,mapO_some q2⟩
 have rwi:∀i:Inst,(renI σ i).rw_=i.rw_:=fun i=> by cases i <;> rfl
 have rwv:∀i j:Inst,(viewI mf i j).rw_=j.rw_:=fun i j=> by cases i <;> cases j <;> rfl
 have rwj:∀i j:Inst,viewI mf i j=renI σ i→j.rw_=i.rw_:=fun i j h=> by rw [←rwv i j,h,rwi]
 refine ⟨κ1.ren σ,rfl,⟨hs1.below,rfl,?_,?_,?_,?_,?_,?_,hs1.st,hs1.args,fun i hi=> ⟨by
  show κ1.φ (sig σ (1000001 + i)).1 (sig σ (1000001 + i)).2=_
  rw [sig_pin (sepM_pin hsep) _ (by omega)]
  exact (hs1.pin i hi).1,Nat.le_refl 1⟩⟩,fun t v ht=> ?_⟩
 ·intro s g i hi
  obtain ⟨rfl,hl,j,h1,h2⟩:=mem s g i hi
  have hok:=hs1.ok _ _ _ h1
  show InstOk (κ1.ren σ) (κ1.φ (sig σ s).1 (sig σ s).2) i
  cases i with
  | box cs=>
   cases j with
   | rows=> cases h2
   | mapi=> cases h2
   | box xs=>
    obtain ⟨b,T,vs,hb,hh,hn,hr⟩:=hok
    have h2:Inst.box (viewL mf cs xs)= .box (cs.map (ren1 σ)):=h2
    injection h2 with h2
    obtain ⟨q1,q2⟩:=viewL_rel hs1 cs xs vs.toList fun j c y hc hy=> (hr j c y hc (by simpa using hy)).1
    have hlen:xs.length=cs.length:=by rw [←q1,h2,List.length_map]
    refine ⟨b,T,vs,hb,hh,by rw [hn,hlen],fun j c v hc hv=> ?_⟩
    have hj:j < xs.length:=by rw [hlen];exact (List.getElem?_eq_some_iff.1 hc).1
    refine ⟨ren1_rel (List.all_eq_true.1 hl c (List.mem_of_getElem? hc)) (q2 j _ v (by rw [h2,List.getElem?_map,hc];rfl) (by simpa using hv)),(hr j xs[j] v (List.getElem?_eq_getElem hj) hv).2⟩
  | rows sz es ro=>
   cases j with
   | box=> cases h2
   | mapi=> cases h2
   | rows sz' es' ro'=>
    have h2:Inst.rows sz' es' ro'= .rows sz es ro:=h2
    rw [h2] at hok
    exact hok
  | mapi ck es=>
   cases j with
   | box=> cases h2
   | rows=> cases h2
   | mapi ck' es'=>
    have h2:Inst.mapi ck' es'= .mapi ck es:=h2
    rw [h2] at hok
    exact hok
 ·intro s g i hi
  obtain ⟨rfl,_,_⟩:=mem s g i hi
  exact Nat.le_refl _
 ·intro s g i b hi hb
  obtain ⟨rfl,_,j,h1,h2⟩:=mem s g i hi
  exact hs1.own _ _ _ b h1 hb
 ·intro s g i b hi hb hr
  obtain ⟨rfl,_,j,h1,h2⟩:=mem s g i hi
  exact hs1.notS _ _ _ b h1 hb (by rw [rwj i j h2];exact hr)
 ·intro s g i b hi hb hr
  obtain ⟨rfl,_,j,h1,h2⟩:=mem s g i hi
  exact hs1.isS _ _ _ b h1 hb (by rw [rwj i j h2];exact hr)
 ·intro s g i s' g' i' b hi hi' hb hb' hr
  obtain ⟨rfl,_,j,h1,h2⟩:=mem s g i hi
  obtain ⟨rfl,_,j',h1',h2'⟩:=mem s' g' i' hi'
  have:=hs1.sep _ _ _ _ _ _ b h1 h1' hb hb' (by rw [rwj i j h2];exact hr)
  exact ⟨sepM_get hsep s s' i i' (inst _ _ _ hi) (inst _ _ _ hi') this.1 this.2,rfl⟩
 ·obtain ⟨hl,h1⟩:=chkE_get hE t v ht
  obtain ⟨q,hq,h1⟩:=mapO_some h1
  dsimp only at hq h1
  cases hq':st.env t with
  | none=> rw [hq'] at hq;cases hq
  | some q'=>
   rw [hq'] at hq
   injection hq with hq
   obtain ⟨x,hx,hr⟩:=he1 t _ hq'
   refine ⟨x,hx,renV_rel hl ?_⟩
   rw [←h1,←hq]
   exact viewV_rel hs1 hr.unk
end Go.Proofs.YtmgcnoigihdhpaaGreatDoor
namespace Go.Proofs.YtmgcnoigihdhpaaGreatDoor
open Go.RowKit
def refs1:AV→List (Nat×Nat)
 | .lp s g _=> [(s,g)]
 | .rp s g _ _=> [(s,g)]
 | .row s g _=> [(s,g)]
 | .sub s g _ _=> [(s,g)]
 | .mp s g=> [(s,g)]
 | _=> []
def Step.Fits (R:Nat→Nat→Prop) (Z:Nat→Prop):Step→Prop
 | .ret _=> True
 | .rdb s g k=> R s g∧∀c:List AV,(∀p∈c.flatMap refs1,R p.1 p.2)→(k c).Fits R Z
 | .rdr s g k=> R s g∧∀c,(k c).Fits R Z
 | .rdm s g k=> R s g∧∀c e,(k c e).Fits R Z
 | .rww _ _ _=> False
 | .rdz s g _ k=> R s g∧k.Fits R Z
 | .wr _ _ _ _=> False
 | .new s _ k=> Z s∧∀g,(k g).Fits R Z
 | .app _ _ _ _ _=> False
 | .frz s g k=> R s g∧k.Fits R Z
 | .elem _ _ k=> ∀c,(k c).Fits R Z
 | .call _ _ k=> ∀r,(k r).Fits R Z
 | .chk _ k=> k.Fits R Z
 | .br _ x y=> x.Fits R Z∧y.Fits R Z
 | .fail=> True
inductive Eff where
 | add (s:Nat) (i:Inst)
 | frz (s g:Nat)
def frzI:Option Inst→Option Inst
 | some (.rows sz es _)=> some (.rows sz es true)
 | i=> i
def Eff.ap:Eff→Mem→Mem
 | .add s i,m=> m.add s i
 | .frz s g,m=> {m with at_:=fun x y=> if x=s∧y=g then frzI (m.at_ x y) else m.at_ x y}
def apL:List Eff→Mem→Mem
 | [],m=> m
 | e::es,m=> apL es (e.ap m)
def Eff.In (G:Nat→Nat) (Z:Nat→Prop):Eff→Prop
 | .add s _=> Z s
 | .frz s g=> g≤G s∨Z s
theorem mem_ext {m m':Mem} (h:∀x y,m.at_ x y=m'.at_ x y) (hg:∀x,m.gen x=m'.gen x):m=m':=by
 cases m;cases m'
 simp only [Mem.mk.injEq]
 exact ⟨funext fun x=> funext fun y=> h x y,funext hg⟩
theorem frz_set {m:Mem} {s g sz:Nat} {es:List (List D)} {ro:Bool} (h:m.at_ s g=some (.rows sz es ro)):m.set s g (some (.rows sz es true))=(Eff.frz s g).ap m:=by
 refine mem_ext (fun x y=> ?_) (fun x=> rfl)
 rw [setAt]
 show _=if x=s∧y=g then frzI (m.at_ x y) else m.at_ x y
 split
 ·rename_i hxy
  rw [hxy.1,hxy.2,h]
  rfl
 ·rfl
theorem ap_at (e:Eff) (m:Mem) (x y:Nat) (hy:y≤m.gen x):(e.ap m).at_ x y=m.at_ x y∨(e.ap m).at_ x y=frzI (m.at_ x y):=by
 cases e with
 | add s i=>
  left
  show (m.add s i).at_ x y=_
  rw [addAt,if_neg]
  rintro ⟨rfl,rfl⟩
  omega
 | frz s g=>
  show (if x=s∧y=g then frzI (m.at_ x y) else m.at_ x y)=_∨_=frzI (m.at_ x y)
  split
  ·right;show (if x=s∧y=g then frzI (m.at_ x y) else m.at_ x y)=_;rw [if_pos (by assumption)]
  ·left;rfl
theorem ap_gen (e:Eff) (m:Mem) (x:Nat):m.gen x≤(e.ap m).gen x:=by
 cases e with
 | add s i=>
  show m.gen x≤(m.add s i).gen x
  rw [addGen]
  split
  ·rename_i h;subst h;omega
  ·exact Nat.le_refl _
 | frz s g=> exact Nat.le_refl _
theorem frzI_idem (i:Option Inst):frzI (frzI i)=frzI i:=by
 cases i with
 | none=> rfl
 | some i=> cases i <;> rfl
theorem apL_gen:∀(es:List Eff) (m:Mem) (x:Nat),m.gen x≤(apL es m).gen x
 | [],_,_=> Nat.le_refl _
 | e::es,m,x=> Nat.le_trans (ap_gen e m x) (apL_gen es (e.ap m) x)
theorem apL_at:∀(es:List Eff) (m:Mem) (x y:Nat),y≤m.gen x→frzI ((apL es m).at_ x y)=frzI (m.at_ x y)
 | [],_,_,_,_=> rfl
 | e::es,m,x,y,h=> by
  rw [apL,apL_at es (e.ap m) x y (Nat.le_trans h (ap_gen e m x))]
  rcases ap_at e m x y h with h1 | h1
  ·rw [h1]
  ·rw [h1,frzI_idem]
theorem apL_gen_out {G:Nat→Nat} {Z:Nat→Prop}:∀(es:List Eff),(∀e∈es,e.In G Z)→∀(m:Mem) (x:Nat),¬Z x→(apL es m).gen x=m.gen x
 | [],_,_,_,_=> rfl
 | e::es,h,m,x,hx=> by
  rw [apL,apL_gen_out es (fun e' he'=> h e' (by simp [he'])) (e.ap m) x hx]
  have he:=h e (by simp)
  cases e with
  | add s i=>
   show (m.add s i).gen x=_
   rw [addGen,if_neg]
   rintro rfl
   exact hx he
  | frz s g=> rfl
theorem ap_comm {e f:Eff} {m:Mem} (h:∀s i t j,e= .add s i→f= .add t j→s≠t) (h1:∀s g t j,e= .frz s g→f= .add t j→¬(s=t∧g=m.gen t + 1)) (h2:∀s g t j,f= .frz s g→e= .add t j→¬(s=t∧g=m.gen t + 1)):e.ap (f.ap m)=f.ap (e.ap m):=by
 have frzadd:∀(s g t:Nat) (j:Inst),¬(s=t∧g=m.gen t + 1)→(Eff.frz s g).ap ((Eff.add t j).ap m)=(Eff.add t j).ap ((Eff.frz s g).ap m):=by
  intro s g t j hne
  refine mem_ext (fun x y=> ?_) (fun x=> rfl)
  show (if x=s∧y=g then frzI ((m.add t j).at_ x y) else (m.add t j).at_ x y)=(((Eff.frz s g).ap m).add t j).at_ x y
  rw [addAt,addAt]
  show _=(if x=t∧y=m.gen t + 1 then some j else if x=s∧y=g then frzI (m.at_ x y) else m.at_ x y)
  by_cases hx:x=s∧y=g
  ·obtain ⟨rfl,rfl⟩:=hx
   rw [if_pos ⟨rfl,rfl⟩,if_neg hne,if_neg hne,if_pos ⟨rfl,rfl⟩]
  ·rw [if_neg hx]
   split
   ·rfl
   ·rfl
 cases e with
 | add s i=>
  cases f with
  | add t j=>
   have hne:=h s i t j rfl rfl
   have g1:(m.add t j).gen s=m.gen s:=by rw [addGen,if_neg hne]
   have g2:(m.add s i).gen t=m.gen t:=by rw [addGen,if_neg (Ne.symm hne)]
   refine mem_ext (fun x y=> ?_) (fun x=> ?_)
   ·show ((m.add t j).add s i).at_ x y=((m.add s i).add t j).at_ x y
    rw [addAt,addAt,addAt,addAt,g1,g2]
    by_cases hx:x=s
    ·subst hx
     simp [hne]
    ·simp [hx]
   ·show ((m.add t j).add s i).gen x=((m.add s i).add t j).gen x
    rw [addGen (m:=m.add t j),addGen (m:=m.add s i),g1,g2,addGen,addGen]
    by_cases hx:x=s
    ·subst hx
     simp [hne]
    ·simp [hx]
  | frz t g=> exact (frzadd t g s i (h2 t g s i rfl rfl)).symm
 | frz s g=>
  cases f with
  | add t j=> exact frzadd s g t j (h1 s g t j rfl rfl)
  | frz t q=>
   refine mem_ext (fun x y=> ?_) (fun x=> rfl)
   show (if x=s∧y=g then frzI (if x=t∧y=q then frzI (m.at_ x y) else m.at_ x y) else if x=t∧y=q then frzI (m.at_ x y) else m.at_ x y)=(if x=t∧y=q then frzI (if x=s∧y=g then frzI (m.at_ x y) else m.at_ x y) else if x=s∧y=g then frzI (m.at_ x y) else m.at_ x y)
   by_cases h1:x=s∧y=g
   ·by_cases h2:x=t∧y=q
    ·rw [if_pos h1,if_pos h2,if_pos h2,if_pos h1]
    ·rw [if_pos h1,if_neg h2,if_neg h2,if_pos h1]
   ·by_cases h2:x=t∧y=q
    ·rw [if_neg h1,if_pos h2,if_pos h2,if_neg h1]
    ·rw [if_neg h1,if_neg h2,if_neg h2,if_neg h1]
theorem in_comm {G:Nat→Nat} {Z Z':Nat→Prop} (hd:∀s,Z s→Z' s→False) {e f:Eff} {m:Mem} (hg:∀s,G s≤m.gen s) (he:e.In G Z) (hf:f.In G Z'):e.ap (f.ap m)=f.ap (e.ap m):=by
 refine ap_comm ?_ ?_ ?_
 ·rintro s i t j rfl rfl rfl
  exact hd s he hf
 ·rintro s g t j rfl rfl ⟨rfl,rfl⟩
  rcases he with he | he
  ·have:=hg s;omega
  ·exact hd s he hf
 ·rintro s g t j rfl rfl ⟨rfl,rfl⟩
  rcases hf with hf | hf
  ·have:=hg s;omega
  ·exact hd s he hf
theorem ap_apL_comm {G:Nat→Nat} {Z Z':Nat→Prop} (hd:∀s,Z s→Z' s→False) (e:Eff) (he:e.In G Z):∀(es:List Eff) (m:Mem),(∀f∈es,f.In G Z')→(∀s,G s≤m.gen s)→apL es (e.ap m)=e.ap (apL es m)
 | [],_,_,_=> rfl
 | f::es,m,h,hg=> by
  rw [apL,apL,←in_comm hd hg he (h f (by simp))]
  exact ap_apL_comm hd e he es (f.ap m) (fun f' hf'=> h f' (by simp [hf'])) (fun s=> Nat.le_trans (hg s) (ap_gen f m s))
theorem apL_comm {G:Nat→Nat} {Z Z':Nat→Prop} (hd:∀s,Z s→Z' s→False):∀(a b:List Eff) (m:Mem),(∀f∈a,f.In G Z)→(∀f∈b,f.In G Z')→(∀s,G s≤m.gen s)→apL b (apL a m)=apL a (apL b m)
 | [],b,m,_,_,_=> rfl
 | e::a,b,m,ha,hb,hg=> by
  rw [apL,apL,apL_comm hd a b (e.ap m) (fun f hf=> ha f (by simp [hf])) hb (fun s=> Nat.le_trans (hg s) (ap_gen e m s)),ap_apL_comm hd e (ha e (by simp)) b m hb hg]
def MemWF (m:Mem):Prop:=∀s g i,m.at_ s g=some i→g≤m.gen s
theorem MemWF.add {m:Mem} (h:MemWF m) (s:Nat) (i:Inst):MemWF (m.add s i):=by
 intro x y j hj
 rw [addAt] at hj
 rw [addGen]
 split at hj
 ·rename_i hxy
  rw [if_pos hxy.1,hxy.2]
  exact Nat.le_refl _
 ·have:=h x y j hj
  split
  ·rename_i hx;subst hx;omega
  ·exact this
theorem MemWF.set {m:Mem} (h:MemWF m) {s g:Nat} {i:Inst} (hi:m.at_ s g=some i) (j:Option Inst):MemWF (m.set s g j):=by
 intro x y k hk
 rw [setAt] at hk
 split at hk
 ·rename_i hxy
  rw [hxy.1,hxy.2]
  exact h s g i hi
 ·exact h x y k hk
theorem frzI_box {i:Option Inst} {cs:List AV} (h:frzI i=frzI (some (.box cs))):i=some (.box cs):=by
 cases i with
 | none=> cases h
 | some i=> cases i with
  | rows=> cases h
  | _=> exact h
theorem frzI_map {i:Option Inst} {ck:CK} {es:List (Value×D)} (h:frzI i=frzI (some (.mapi ck es))):i=some (.mapi ck es):=by
 cases i with
 | none=> cases h
 | some i=>
  cases i with
  | rows sz es ro=> cases h
  | _=> exact h
theorem frzI_rows {i:Option Inst} {sz:Nat} {es:List (List D)} {ro:Bool} (h:frzI i=frzI (some (.rows sz es ro))):∃ro',i=some (.rows sz es ro'):=by
 cases i with
 | none=> cases h
 | some i=> cases i with
  | box=> cases h
  | mapi=> cases h
  | rows sz' es' ro'=>
   simp only [frzI,Option.some.injEq,Inst.rows.injEq,and_true] at h
   obtain ⟨rfl,rfl⟩:=h
   exact ⟨ro',rfl⟩
def RCl (R:Nat→Nat→Prop) (m:Mem):Prop:=(∀s g,R s g)∨((∀s g,R s g→g≤m.gen s)∧∀s g cs,R s g→m.at_ s g=some (.box cs)→∀p∈cs.flatMap refs1,R p.1 p.2)
theorem RCl.box {R:Nat→Nat→Prop} {m:Mem} (h:RCl R m) {s g:Nat} {cs:List AV} (hr:R s g) (hi:m.at_ s g=some (.box cs)):∀p∈cs.flatMap refs1,R p.1 p.2:=fun p hp=> h.elim (fun h=> h _ _) fun h=> h.2 s g cs hr hi p hp
theorem RCl.add {R:Nat→Nat→Prop} {m:Mem} (h:RCl R m) (s:Nat) (i:Inst):RCl R (m.add s i):=h.imp id fun ⟨h1,h2⟩=> ⟨fun x y hr=> Nat.le_trans (h1 x y hr) (by rw [addGen];split <;> rename_i hx <;> first | (subst hx;omega) | exact Nat.le_refl _),fun x y cs hr hi=> h2 x y cs hr (by
 rw [addAt,if_neg] at hi
 ·exact hi
 ·rintro ⟨rfl,rfl⟩
  have:=h1 _ _ hr
  omega)⟩
theorem RCl.set {R:Nat→Nat→Prop} {m:Mem} (h:RCl R m) (s g sz:Nat) (es:List (List D)) (ro:Bool):RCl R (m.set s g (some (.rows sz es ro))):=h.imp id fun ⟨h1,h2⟩=> ⟨h1,fun x y cs hr hi=> h2 x y cs hr (by
 rw [setAt] at hi
 split at hi
 ·cases hi
 ·exact hi)⟩
theorem Step.Fits.runs {F:FuncId→List AV→AV→Prop} {R:Nat→Nat→Prop} {Z:Nat→Prop} {x:Step} {m m':Mem} {v:AV} (hr:x.Runs F m v m'):x.Fits R Z→RCl R m→MemWF m→
  ∃es,m'=apL es m∧((∀e∈es,e.In m.gen Z)∧∀s g,Eff.frz s g∈es→R s g∧(Z s∨∃i,m.at_ s g=some i))∧MemWF m'∧∀q:Mem,(∀s,Z s→q.gen s=m.gen s)→(∀s g,R s g→(∃i,m.at_ s g=some i)→frzI (q.at_ s g)=frzI (m.at_ s g))→x.Runs F q v (apL es q):=by
 induction hr with
 | ret=> exact fun _ _ hw=> ⟨[],rfl,⟨by simp,by simp⟩,hw,fun q _ _=> .ret⟩
 | rdb h r ih=>
  intro hf hc hw
  obtain ⟨es,h1,h2,h3,h4⟩:=ih (hf.2 _ (hc.box hf.1 h)) hc hw
  refine ⟨es,h1,h2,h3,fun q hz hq=> ?_⟩
  have:=hq _ _ hf.1 ⟨_,h⟩
  rw [h] at this
  exact .rdb (frzI_box this) (h4 q hz hq)
 | rdr h r ih=>
  intro hf hc hw
  obtain ⟨es,h1,h2,h3,h4⟩:=ih (hf.2 _) hc hw
  refine ⟨es,h1,h2,h3,fun q hz hq=> ?_⟩
  have:=hq _ _ hf.1 ⟨_,h⟩
  rw [h] at this
  obtain ⟨ro',h5⟩:=frzI_rows this
  exact .rdr h5 (h4 q hz hq)
 | rdm h r ih=>
  intro hf hc hw
  obtain ⟨es,h1,h2,h3,h4⟩:=ih (hf.2 _ _) hc hw
  refine ⟨es,h1,h2,h3,fun q hz hq=> ?_⟩
  have:=hq _ _ hf.1 ⟨_,h⟩
  rw [h] at this
  exact .rdm (frzI_map this) (h4 q hz hq)
 | rww=> exact fun hf=> hf.elim
 | rdz h r ih=>
  intro hf hc hw
  obtain ⟨es,h1,h2,h3,h4⟩:=ih hf.2 hc hw
  refine ⟨es,h1,h2,h3,fun q hz hq=> ?_⟩
  have:=hq _ _ hf.1 ⟨_,h⟩
  rw [h] at this
  obtain ⟨ro',h5⟩:=frzI_rows this
  exact .rdz h5 (h4 q hz hq)
 | wr=> exact fun hf=> hf.elim
 | @new s i k m m' v r ih=>
  intro hf hc hw
  obtain ⟨es,h1,h2,h3,h4⟩:=ih (hf.2 _) (hc.add s i) (hw.add s i)
  refine ⟨.add s i::es,h1,⟨fun e he=> ?_,fun s' g' he=> ?_⟩,h3,fun q hz hq=> ?_⟩
  ·rcases List.mem_cons.1 he with rfl | he
   ·exact hf.1
   ·have:=h2.1 e he
    cases e with
    | add=> exact this
    | frz s' g'=>
     rcases this with this | this
     ·rw [addGen] at this
      split at this
      ·rename_i hs;subst hs;exact Or.inr hf.1
      ·exact Or.inl this
     ·exact Or.inr this
  ·obtain ⟨k1,k2⟩:=h2.2 s' g' (by simpa using he)
   refine ⟨k1,?_⟩
   rcases k2 with k2 | ⟨i',k2⟩
   ·exact Or.inl k2
   ·rw [addAt] at k2
    split at k2
    ·rename_i hx
     exact Or.inl (hx.1 ▸ hf.1)
    ·exact Or.inr ⟨i',k2⟩
  ·refine .new ?_
   rw [hz s hf.1]
   refine h4 (q.add s i) (fun s' hs'=> ?_) (fun s' g' hr' hi'=> ?_)
   ·rw [addGen,addGen,hz s hf.1,hz s' hs']
   ·rw [addAt,addAt,hz s hf.1]
    split
    ·rfl
    ·refine hq s' g' hr' ?_
     obtain ⟨i',hi'⟩:=hi'
     rw [addAt,if_neg (by assumption)] at hi'
     exact ⟨i',hi'⟩
 | app=> exact fun hf=> hf.elim
 | @frz s g sz es0 ro k m m' v h r ih=>
  intro hf hc hw
  obtain ⟨es,h1,h2,h3,h4⟩:=ih hf.2 (hc.set _ _ _ _ _) (hw.set h _)
  refine ⟨.frz s g::es,by rw [h1,frz_set h];rfl,⟨fun e he=> ?_,fun s' g' he=> ?_⟩,h3,fun q hz hq=> ?_⟩
  ·rcases List.mem_cons.1 he with rfl | he
   ·exact Or.inl (hw s g _ h)
   ·exact h2.1 e he
  ·rcases List.mem_cons.1 he with he | he
   ·injection he with q1 q2
    subst q1 q2
    exact ⟨hf.1,Or.inr ⟨_,h⟩⟩
   ·obtain ⟨k1,k2⟩:=h2.2 s' g' he
    refine ⟨k1,?_⟩
    rcases k2 with k2 | ⟨i',k2⟩
    ·exact Or.inl k2
    ·rw [setAt] at k2
     split at k2
     ·rename_i hx
      obtain ⟨rfl,rfl⟩:=hx
      exact Or.inr ⟨_,h⟩
     ·exact Or.inr ⟨i',k2⟩
  ·have:=hq _ _ hf.1 ⟨_,h⟩
   rw [h] at this
   obtain ⟨ro',h5⟩:=frzI_rows this
   refine .frz h5 ?_
   have:=h4 (q.set s g (some (.rows sz es0 true))) hz (fun s' g' hr' hi'=> ?_)
   ·rw [frz_set h5] at this ⊢
    exact this
   ·rw [setAt,setAt]
    split
    ·rfl
    ·refine hq s' g' hr' ?_
     obtain ⟨i',hi'⟩:=hi'
     rw [setAt,if_neg (by assumption)] at hi'
     exact ⟨i',hi'⟩
 | elem h r ih=>
  intro hf hc hw
  obtain ⟨es,h1,h2,h3,h4⟩:=ih (hf _) hc hw
  exact ⟨es,h1,h2,h3,fun q hz hq=> .elem h (h4 q hz hq)⟩
 | call h r ih=>
  intro hf hc hw
  obtain ⟨es,h1,h2,h3,h4⟩:=ih (hf _) hc hw
  exact ⟨es,h1,h2,h3,fun q hz hq=> .call h (h4 q hz hq)⟩
 | chk h r ih=>
  intro hf hc hw
  obtain ⟨es,h1,h2,h3,h4⟩:=ih hf hc hw
  exact ⟨es,h1,h2,h3,fun q hz hq=> .chk h (h4 q hz hq)⟩
 | @br b x y m m' v r ih=>
  intro hf hc hw
  obtain ⟨es,h1,h2,h3,h4⟩:=ih (by cases b;exact hf.2;exact hf.1) hc hw
  exact ⟨es,h1,h2,h3,fun q hz hq=> .br (h4 q hz hq)⟩
theorem fits_swap {F:FuncId→List AV→AV→Prop} {G:Nat→Nat} {Z Z':Nat→Prop} {x y:Step} (hx:x.Fits (fun _ _=> True) Z) (hy:y.Fits (fun s g=> g≤G s) Z') (hd:∀s,Z s→Z' s→False) {m m1 m2:Mem} {v u:AV} (hw:MemWF m) (hG:∀s,G s≤m.gen s) (hbox:∀s g cs,g≤G s→m.at_ s g=some (.box cs)→∀p∈cs.flatMap refs1,p.2≤G p.1) (h1:x.Runs F m v m1) (h2:y.Runs F m1 u m2):
  ∃m1',y.Runs F m u m1'∧x.Runs F m1' v m2:=by
 have hold:∀s g,g≤G s→g≤m.gen s:=fun s g h=> Nat.le_trans h (hG s)
 obtain ⟨ex,e1,⟨e2,_⟩,e3,e4⟩:=Step.Fits.runs h1 hx (Or.inl fun _ _=> trivial) hw
 subst e1
 obtain ⟨ey,f1,⟨f2,f2'⟩,f3,f4⟩:=Step.Fits.runs h2 hy (Or.inr ⟨fun s g h=> Nat.le_trans (hold s g h) (apL_gen ex m s),fun s g cs hr hi=> hbox s g cs hr (frzI_box (by rw [←apL_at ex m s g (hold s g hr),hi]))⟩) e3
 have hgy:∀s,Z' s→m.gen s=(apL ex m).gen s:=fun s hs=> (apL_gen_out ex e2 m s fun hz=> hd s hz hs).symm
 have r1:=f4 m hgy (fun s g hr hi=> (apL_at ex m s g (hold s g hr)).symm)
 refine ⟨apL ey m,r1,?_⟩
 have fy:∀f∈ey,f.In m.gen Z':=by
  intro f hf
  have:=f2 f hf
  cases f with
  | add=> exact this
  | frz s g=> exact Or.inl (hold s g (f2' s g hf).1)
 have r2:=e4 (apL ey m) (fun s hs=> apL_gen_out ey fy m s fun hz=> hd s hs hz) (fun s g hr hi=> by
  obtain ⟨i,hi⟩:=hi
  exact apL_at ey m s g (hw s g i hi))
 rw [apL_comm hd ex ey m e2 fy (fun s=> Nat.le_refl _)] at f1
 rw [f1]
 exact r2
def refsOf:AV→List (Nat×Nat)
 | .agg cs=> cs.flatMap refs1
 | .tup cs=> cs.flatMap refs1
 | .fn _ cs=> cs.flatMap refs1
 | v=> refs1 v
theorem refs1_rel {κ:Cx} {v:AV} {x:Value} (h:Rel κ v x):∀p∈refs1 v,p.2≤κ.gn p.1:=by
 cases h with
 | lp hg hb=> simpa [refs1] using hg
 | rp hg hb=> simpa [refs1] using hg
 | row0 A hg=> simpa [refs1] using hg
 | row hg=> simpa [refs1] using hg
 | sub0 A hg=> simpa [refs1] using hg
 | sub A hg=> simpa [refs1] using hg
 | mp hg=> simpa [refs1] using hg
 | _=> simp [refs1]
theorem refsOf_rel {κ:Cx} {v:AV} {x:Value} (h:Rel κ v x):∀p∈refsOf v,p.2≤κ.gn p.1:=by
 have many:∀{cs:List AV} {vs:Array Value},vs.size=cs.length→(∀(j:Nat) (c:AV) (v:Value),cs[j]? =some c→vs[j]? =some v→Rel κ c v)→∀p∈cs.flatMap refs1,p.2≤κ.gn p.1:=by
  intro cs vs hl h p hp
  obtain ⟨c,hc,hp⟩:=List.mem_flatMap.1 hp
  obtain ⟨j,hj,rfl⟩:=List.getElem_of_mem hc
  exact refs1_rel (h j cs[j] _ (List.getElem?_eq_getElem hj) (Array.getElem?_eq_getElem (by omega))) p hp
 have h1:=refs1_rel h
 cases h with
 | agg hl h=> exact many hl h
 | tup hl h=> exact many hl h
 | fn hl h=> exact many hl h
 | _=> exact h1
theorem refs1_unk (v:AV):refs1 (unk1 v)=refs1 v:=by cases v <;> rfl
theorem refsOf_unk (v:AV):refsOf (unk v)=refsOf v:=by
 cases v with
 | agg cs=>
  simp only [unk,refsOf,List.flatMap_map]
  congr 1
  funext x
  exact refs1_unk x
 | _=> rfl
section
variable {R : Nat → Nat → Prop} {Z : Nat → Prop}
theorem settle_fits {s:Nat} (hz:∀k,Z (s + 65536 * k)) (cz:List Nat):∀(cs:List AV) (j:Nat) (k:List AV→Step),(∀r,(k r).Fits R Z)→(settle s cz j cs k).Fits R Z
 | [],j,k,h=> h []
 | c::cs,j,k,h=> by
  have gen:(settle s cz (j + 1) cs fun r=> k (c::r)).Fits R Z:=settle_fits hz cz cs (j + 1) _ fun r=> h _
  cases c with
  | nl=> exact ⟨hz (j + 1),fun g=> settle_fits hz cz cs (j + 1) _ fun r=> h _⟩
  | _=> exact gen
theorem dataOf_fits {v:AV} (hr:∀p∈refs1 v,R p.1 p.2) {k:D→Step} (h:∀x,(k x).Fits R Z):(dataOf v k).Fits R Z:=by
 cases v with
 | d x=> exact h x
 | nl=> exact h _
 | row s g n=> exact ⟨hr (s,g) (by simp [refs1]),fun c=> ⟨hr (s,g) (by simp [refs1]),h _⟩⟩
 | sub s g o n=> exact ⟨hr (s,g) (by simp [refs1]),fun c=> ⟨hr (s,g) (by simp [refs1]),h _⟩⟩
 | _=> exact trivial
theorem dataList_fits:∀(vs:List AV),(∀p∈vs.flatMap refs1,R p.1 p.2)→∀(k:List D→Step),(∀x,(k x).Fits R Z)→(dataList vs k).Fits R Z
 | [],_,k,h=> h []
 | v::vs,hr,k,h=> dataOf_fits (fun p hp=> hr p (by simp [hp])) fun x=> dataList_fits vs (fun p hp=> hr p (by
   rw [List.flatMap_cons];exact List.mem_append_right _ hp)) _ fun xs=> h _
theorem drop_refs (cs:List AV) (o:Nat):∀p∈(cs.drop o).flatMap refs1,p∈cs.flatMap refs1:=by
 intro p hp
 obtain ⟨c,hc,hp⟩:=List.mem_flatMap.1 hp
 exact List.mem_flatMap.2 ⟨c,List.mem_of_mem_drop hc,hp⟩
theorem cellL0_fits:∀(cs:List AV),(∀p∈cs.flatMap refs1,R p.1 p.2)→∀(k:List D→List (Nat×Nat)→Step),(∀ds l,(∀p∈l,R p.1 p.2)→(k ds l).Fits R Z)→(cellL0 cs k).Fits R Z
 | [],_,k,h=> h [] [] (by simp)
 | c::cs,hr,k,h=> by
  have hr':∀p∈cs.flatMap refs1,R p.1 p.2:=fun p hp=> hr p (by rw [List.flatMap_cons];exact List.mem_append_right _ hp)
  have hc:∀p∈refs1 c,R p.1 p.2:=fun p hp=> hr p (by rw [List.flatMap_cons];exact List.mem_append_left _ hp)
  have more:∀(q:Nat×Nat),R q.1 q.2→∀(x:D),(cellL0 cs fun ds l=> k (x::ds) (q::l)).Fits R Z:=fun q hq x=> cellL0_fits cs hr' _ fun ds l hl=> h _ _ fun p hp=> by
   rcases List.mem_cons.1 hp with rfl | hp
   ·exact hq
   ·exact hl p hp
  cases c with
  | d x=> exact cellL0_fits cs hr' _ fun ds l hl=> h _ _ hl
  | mp s g=> exact ⟨hc (s,g) (by simp [refs1]),fun ck es=> more (s,g) (hc (s,g) (by simp [refs1])) _⟩
  | row s g n=> exact ⟨hc (s,g) (by simp [refs1]),fun es=> more (s,g) (hc (s,g) (by simp [refs1])) _⟩
  | _=> exact trivial
theorem cellL_fits:∀(cs:List AV),(∀p∈cs.flatMap refs1,R p.1 p.2)→∀(k:List D→List (Nat×Nat)→Step),(∀ds l,(∀p∈l,R p.1 p.2)→(k ds l).Fits R Z)→(cellL cs k).Fits R Z
 | [],_,k,h=> h [] [] (by simp)
 | c::cs,hr,k,h=> by
  have hr':∀p∈cs.flatMap refs1,R p.1 p.2:=fun p hp=> hr p (by rw [List.flatMap_cons];exact List.mem_append_right _ hp)
  have hc:∀p∈refs1 c,R p.1 p.2:=fun p hp=> hr p (by rw [List.flatMap_cons];exact List.mem_append_left _ hp)
  have more:∀(q:Nat×Nat),R q.1 q.2→∀(x:D),(cellL cs fun ds l=> k (x::ds) (q::l)).Fits R Z:=fun q hq x=> cellL_fits cs hr' _ fun ds l hl=> h _ _ fun p hp=> by
   rcases List.mem_cons.1 hp with rfl | hp
   ·exact hq
   ·exact hl p hp
  cases c with
  | d x=> exact cellL_fits cs hr' _ fun ds l hl=> h _ _ hl
  | fp ds0=> exact cellL_fits cs hr' _ fun ds l hl=> h _ _ hl
  | mp s g=> exact ⟨hc (s,g) (by simp [refs1]),fun ck es=> more (s,g) (hc (s,g) (by simp [refs1])) _⟩
  | row s g n=> exact ⟨hc (s,g) (by simp [refs1]),fun es=> more (s,g) (hc (s,g) (by simp [refs1])) _⟩
  | lp s g o=> exact ⟨hc (s,g) (by simp [refs1]),fun c0 hc0=> cellL0_fits _ (fun p hp=> hc0 p (drop_refs _ _ p hp)) _ fun ds0 l0 hl0=> cellL_fits cs hr' _ fun ds l hl=> h _ _ fun p hp=> by
    rcases List.mem_cons.1 hp with rfl | hp
    ·exact hc (s,g) (by simp [refs1])
    ·rcases List.mem_append.1 hp with hp | hp
     ·exact hl0 p hp
     ·exact hl p hp⟩
  | _=> exact trivial
theorem arg0_fits {v:AV} (hr:∀p∈refs1 v,R p.1 p.2) {k:AV→List (Nat×Nat)→Step} (h:∀x l,(∀p∈l,R p.1 p.2)→(k x l).Fits R Z):(arg0 v k).Fits R Z:=by
 cases v with
 | d x=> exact h _ [] (by simp)
 | nl=> exact h _ [] (by simp)
 | row s g n=> exact ⟨hr (s,g) (by simp [refs1]),fun c=> h _ [(s,g)] (by simpa using hr (s,g) (by simp [refs1]))⟩
 | sub s g o n=> exact ⟨hr (s,g) (by simp [refs1]),fun c=> h _ [(s,g)] (by simpa using hr (s,g) (by simp [refs1]))⟩
 | lp s g o=>
  refine ⟨hr (s,g) (by simp [refs1]),fun c hc=> cellL_fits _ (fun p hp=> hc p (drop_refs _ _ p hp)) _ fun ds l hl=> h _ _ fun p hp=> ?_⟩
  rcases List.mem_cons.1 hp with rfl | hp
  ·exact hr (s,g) (by simp [refs1])
  ·exact hl p hp
 | fp ds=> exact h _ [] (by simp)
 | _=> exact trivial
theorem argL_fits:∀(vs:List AV),(∀p∈vs.flatMap refs1,R p.1 p.2)→∀(k:List AV→List (Nat×Nat)→Step),(∀x l,(∀p∈l,R p.1 p.2)→(k x l).Fits R Z)→(argL vs k).Fits R Z
 | [],_,k,h=> h [] [] (by simp)
 | v::vs,hr,k,h=> arg0_fits (fun p hp=> hr p (by simp [hp])) fun x l hl=> argL_fits vs (fun p hp=> hr p (by
   rw [List.flatMap_cons];exact List.mem_append_right _ hp)) _ fun xs l' hl'=> h _ _ fun p hp=> by
   rcases List.mem_append.1 hp with hp | hp
   ·exact hl p hp
   ·exact hl' p hp
theorem arg1_fits {v:AV} (hr:∀p∈refsOf v,R p.1 p.2) {k:AV→List (Nat×Nat)→Step} (h:∀x l,(∀p∈l,R p.1 p.2)→(k x l).Fits R Z):(arg1 v k).Fits R Z:=by
 cases v with
 | fn f cs=> exact argL_fits cs hr _ fun x l hl=> h _ l hl
 | agg cs=> exact trivial
 | tup cs=> exact trivial
 | _=> exact arg0_fits (v:=_) (by simpa [refsOf] using hr) h
theorem argT_fits:∀(vs:List (Option AV)),(∀v,some v∈vs→∀p∈refsOf v,R p.1 p.2)→∀(k:List AV→List (Nat×Nat)→Step),(∀x l,(∀p∈l,R p.1 p.2)→(k x l).Fits R Z)→(argT vs k).Fits R Z
 | [],_,k,h=> h [] [] (by simp)
 | none::vs,_,k,h=> trivial
 | some v::vs,hr,k,h=> by
  have next:∀(x:AV) (l:List (Nat×Nat)),(∀p∈l,R p.1 p.2)→(argT vs fun xs m=> k (x::xs) (l ++ m)).Fits R Z:=fun x l hl=>
   argT_fits vs (fun v hv=> hr v (by simp [hv])) _ fun xs l' hl'=> h _ _ fun p hp=> by
    rcases List.mem_append.1 hp with hp | hp
    ·exact hl p hp
    ·exact hl' p hp
  have hv:=hr v (by simp)
  have one:(∀p∈refsOf v,R p.1 p.2)→(arg1 v fun x l=> argT vs fun xs m=> k (x::xs) (l ++ m)).Fits R Z:=fun h1=> arg1_fits h1 next
  cases v with
  | agg cs=> exact argL_fits cs hv _ fun x l hl=> next _ l hl
  | tup cs=> exact trivial
  | _=> exact one hv
theorem frzL_fits:∀(l:List (Nat×Nat)) (k:Step),(∀p∈l,R p.1 p.2)→k.Fits R Z→(frzL l k).Fits R Z
 | [],k,_,h=> h
 | (s,g)::l,k,hl,h=> ⟨hl (s,g) (by simp),frzL_fits l k (fun p hp=> hl p (by simp [hp])) h⟩
theorem recv1_fits {s:Nat} (hz:Z s) (v:AV) {k:AV→Step} (h:∀x,(k x).Fits R Z):(recv1 s v k).Fits R Z:=by
 cases v with
 | ow sz es=> exact ⟨hz,fun g=> h _⟩
 | d x=> exact h _
 | _=> exact trivial
theorem recvL_fits {s:Nat} (hz:∀k,Z (s + 65536 * k)):∀(vs:List AV) (j:Nat) (k:List AV→Step),(∀r,(k r).Fits R Z)→(recvL s j vs k).Fits R Z
 | [],_,_k,h=> h []
 | v::vs,j,_k,h=> recv1_fits (hz (j + 1)) v fun _x=> recvL_fits hz vs (j + 1) _ fun _r=> h _
theorem recvC_fits {s:Nat} (hz:∀k,Z (s + 65536 * k)) (v:AV) {k:AV→Step} (h:∀x,(k x).Fits R Z):(recvC s v k).Fits R Z:=by
 have one:(recv1 s v k).Fits R Z:=recv1_fits (hz 0) v h
 cases v with
 | agg cs=> exact recvL_fits hz cs 0 _ fun r=> h _
 | _=> exact one
theorem recvT_fits {s:Nat} (hz:∀k,Z (s + 65536 * k)):∀(vs:List AV) (j:Nat) (k:List AV→Step),(∀r,(k r).Fits R Z)→(recvT s j vs k).Fits R Z
 | [],j,k,h=> h []
 | v::vs,j,k,h=> recvC_fits (fun k'=> by have:=hz (16 * (j + 1) + k');rw [Nat.mul_add,←Nat.add_assoc,←Nat.mul_assoc] at this;exact this) v fun x=> recvT_fits hz vs (j + 1) _ fun r=> h _
theorem recv_fits {s:Nat} (hz:∀k,Z (s + 65536 * k)) (v:AV) {k:AV→Step} (h:∀x,(k x).Fits R Z):(recv s v k).Fits R Z:=by
 have one:(recvC s v k).Fits R Z:=recvC_fits hz v h
 cases v with
 | tup cs=> exact recvT_fits hz cs 0 _ fun r=> h _
 | _=> exact one
theorem argS1_fits {v:AV} (hr:∀p∈refsOf v,R p.1 p.2) {k:AV→Step} (h:∀x,(∀p∈refs1 x,R p.1 p.2)→(k x).Fits R Z):(argS1 v k).Fits R Z:=by
 have gen:(∀p∈refs1 v,R p.1 p.2)→(dataOf v fun d=> k (.d d)).Fits R Z:=fun hr=> dataOf_fits hr fun x=> h _ (by simp [refs1])
 cases v with
 | lp s g o=> exact h _ (by simpa [refsOf] using hr)
 | mp s g=> exact h _ (by simpa [refsOf] using hr)
 | fp cs=> exact h _ (by simp [refs1])
 | agg cs=> exact dataList_fits cs hr _ fun ds=> h _ (by simp [refs1])
 | tup cs=> exact trivial
 | fn f cs=> exact trivial
 | _=> exact gen (by simpa [refsOf] using hr)
theorem argS_fits:∀(xs:List (Option AV)),(∀v,some v∈xs→∀p∈refsOf v,R p.1 p.2)→∀(k:List AV→Step),(∀ys,(∀y∈ys,∀p∈refs1 y,R p.1 p.2)→(k ys).Fits R Z)→(argS xs k).Fits R Z
 | [],_,k,h=> h [] (by simp)
 | none::xs,_,k,h=> trivial
 | some v::xs,hr,k,h=> argS1_fits (hr v (by simp)) fun x hx=> argS_fits xs (fun v hv=> hr v (by simp [hv])) _ fun ys hys=> h _ fun y hy=> by
   rcases List.mem_cons.1 hy with rfl | hy
   ·exact hx
   ·exact hys y hy
theorem objC_fits:∀(cs:List AV),(∀p∈cs.flatMap refs1,R p.1 p.2)→∀(n:Nat) (k:List AV→List (Nat×Nat)→List AV→Step),(∀zs l is,(k zs l is).Fits R Z)→(objC cs n k).Fits R Z
 | [],_,n,k,h=> h [] [] []
 | c::cs,hr,n,k,h=> by
  have hr':∀p∈cs.flatMap refs1,R p.1 p.2:=fun p hp=> hr p (by rw [List.flatMap_cons];exact List.mem_append_right _ hp)
  have hc:∀p∈refs1 c,R p.1 p.2:=fun p hp=> hr p (by rw [List.flatMap_cons];exact List.mem_append_left _ hp)
  cases c with
  | d x=> exact objC_fits cs hr' n _ fun zs l is=> h _ _ _
  | mp s g=> exact ⟨hc (s,g) (by simp [refs1]),fun ck es=> objC_fits cs hr' (n + 1) _ fun zs l is=> h _ _ _⟩
  | _=> exact trivial
theorem objL_fits:∀(ys:List AV),(∀y∈ys,∀p∈refs1 y,R p.1 p.2)→∀(n:Nat) (k:List AV→List (Nat×Nat)→List AV→Step),(∀zs l is,(k zs l is).Fits R Z)→(objL ys n k).Fits R Z
 | [],_,n,k,h=> h [] [] []
 | y::ys,hr,n,k,h=> by
  have hr':∀y∈ys,∀p∈refs1 y,R p.1 p.2:=fun y hy=> hr y (by simp [hy])
  have hc:=hr y (by simp)
  have dat:(bif datA y then objL ys n fun zs l' is'=> k (y::zs) l' is' else .fail:Step).Fits R Z:=by
   cases datA y
   ·exact trivial
   ·exact objL_fits ys hr' n _ fun zs l is=> h _ _ _
  cases y with
  | lp s g o=> exact ⟨hc (s,g) (by simp [refs1]),fun cs hcs=> objC_fits cs hcs _ _ fun zs l is=> objL_fits ys hr' _ _ fun zs' l' is'=> h _ _ _⟩
  | mp s g=> exact ⟨hc (s,g) (by simp [refs1]),fun ck es=> objL_fits ys hr' _ _ fun zs' l' is'=> h _ _ _⟩
  | _=> exact dat
theorem objN_fits {s:Nat} (hz:∀k,Z (s + 65536 * k)):∀(rest:List AV) (j:Nat) (L:List (Nat×Nat)) (k:List (Nat×Nat)→Step),(∀L,(k L).Fits R Z)→(objN s j L rest k).Fits R Z
 | [],j,L,k,h=> h L
 | b::rest,j,L,k,h=> by
  unfold objN
  split
  ·refine ⟨?_,fun g=> objN_fits hz rest _ _ _ h⟩
   have:=hz (4096 * (j + 1))
   rwa [←Nat.mul_assoc] at this
  ·trivial
theorem objV_fits {s:Nat} (hz:∀k,Z (s + 65536 * k)) (L:List (Nat×Nat)) (v:AV):(objV s L v).Fits R Z:=by
 have one:(recv s v .ret).Fits R Z:=recv_fits hz v fun x=> trivial
 cases v with
 | lp s' g o=> exact (by cases h:ofC L (.lp s' g o) <;> simp only [objV,h] <;> trivial)
 | mp s' g=> exact (by cases h:ofC L (.mp s' g) <;> simp only [objV,h] <;> trivial)
 | _=> exact one
theorem objCall_fits {s:Nat} (hz:∀k,Z (s + 65536 * k)) (f:FuncId) (xs:List (Option AV)) (hr:∀v,some v∈xs→∀p∈refsOf v,R p.1 p.2):(objCall s 7 f xs).Fits R Z:=by
 refine argS_fits xs hr _ fun ys hys=> objL_fits ys hys 0 _ fun zs l is=> ?_
 cases nodupL l
 ·trivial
 ·intro r
  cases r with
  | hp is2=>
   cases is2 with
   | nil=> trivial
   | cons v js=>
    show (bif (js.take l.length).all isNlA then _ else _:Step).Fits R Z
    cases (js.take l.length).all isNlA
    ·trivial
    ·exact objN_fits hz _ _ _ _ fun L=> objV_fits hz L v
  | _=> trivial
theorem boxF_fits {t:TI} {s:Nat} (hz:∀k,Z (s + 65536 * k)) (v:AV):(boxF t s v).Fits R Z:=by
 unfold boxF
 cases (cellsOf v).all isOne
 ·trivial
 ·exact settle_fits hz _ _ _ _ fun r=> ⟨hz 0,fun g=> trivial⟩
theorem ldA_fits {t:TI} {cs:List AV}:(ldA t cs).Fits R Z:=by
 unfold ldA
 cases t.known
 ·trivial
 ·cases t.agg
  ·cases cs <;> trivial
  ·simp only [Bool.not_true,cond_false,cond_true]
   cases Nat.ble t.size cs.length <;> trivial
theorem ldD_fits {t:TI} {cs:List D}:(ldD t cs).Fits R Z:=by rw [ldD_eq];exact ldA_fits
theorem retO_fits {x:Option AV}:(retO x).Fits R Z:=by cases x <;> trivial
theorem buildEs_fits (sz n:Nat):∀(parts:List (Nat×Option AV)) (i:Nat) (k:List (List D)→Step),(∀p∈parts,∀v,p.2=some v→∀q∈(cellsOf v).flatMap refs1,R q.1 q.2)→(∀es,(k es).Fits R Z)→(buildEs sz n i parts k).Fits R Z
 | [],i,k,_,h=> by
  simp only [buildEs]
  cases Nat.beq i n
  ·trivial
  ·exact h []
 | (j,none)::r,i,k,_,h=> trivial
 | (j,some v)::r,i,k,hr,h=> by
  simp only [buildEs]
  cases (Nat.beq i j && Nat.beq (cellsOf v).length sz && (cellsOf v).all isOne)
  ·trivial
  ·exact dataList_fits _ (hr (j,some v) (by simp) v rfl) _ fun ds=> buildEs_fits sz n r (i + 1) _ (fun p hp=> hr p (by simp [hp])) fun es=> h _
end
end Go.Proofs.YtmgcnoigihdhpaaGreatDoor
namespace Go.Proofs.YtmgcnoigihdhpaaGreatDoor
open Go.RowKit
def opRefs (E:Nat→Option AV) (o:Oper) (s g:Nat):Prop:=∃x∈o.op.operands,∃v,rawOf E x=some v∧(s,g)∈refsOf v
theorem opRefs_rho {E:Nat→Option AV} {o:Oper} {x:Operand} (hx:x∈o.op.operands) {v:AV} (hv:rhoOf E x=some v):∀p∈refsOf v,opRefs E o p.1 p.2:=by
 intro p hp
 unfold rhoOf at hv
 cases hq:rawOf E x with
 | none=> rw [hq] at hv;cases hv
 | some q=>
  rw [hq] at hv
  injection hv with hv
  subst hv
  rw [refsOf_unk] at hp
  exact ⟨x,hx,q,hq,hp⟩
theorem refs1_sub (v:AV):∀p∈refs1 v,p∈refsOf v:=by
 intro p hp
 cases v with
 | agg=> simp [refs1] at hp
 | tup=> simp [refs1] at hp
 | fn=> simp [refs1] at hp
 | _=> exact hp
theorem cells_refs (v:AV):∀p∈(cellsOf v).flatMap refs1,p∈refsOf v:=by
 intro p hp
 have one:p∈ [v].flatMap refs1→p∈refsOf v:=fun h=> refs1_sub v p (by simpa using h)
 cases v with
 | agg cs=> exact hp
 | _=> exact one hp
theorem retA_fits {R:Nat→Nat→Prop} {Z:Nat→Prop} {x:Option (List AV)}:(retA x).Fits R Z:=by cases x <;> trivial
section
variable {T : Nat → TI} {base : Nat} {E : Nat → Option AV} {o : Oper}
theorem opF_fits0 (h:opKind T o.op=0) {R:Nat→Nat→Prop} {Z:Nat→Prop}:(opF T base E o).Fits R Z:=by
 unfold opF
 split
 all_goals rename_i ho
 all_goals try (rw [ho] at h;cases h;done)
 ·unfold pickF
  split
  ·exact retO_fits
  ·exact retO_fits
  ·exact ⟨retO_fits,retO_fits⟩
  ·trivial
 ·unfold buildF
  split
  ·exact retA_fits
  ·exact retA_fits
  ·trivial
 ·unfold nilckF
  split <;> trivial
 ·show (bif isNilP _ then _ else _:Step).Fits _ _
  cases isNilP _
  case true=>
   show (nilpF _ _ _).Fits _ _
   unfold nilpF
   split <;> trivial
  show (bif isNilC _ then _ else _:Step).Fits _ _
  cases isNilC _
  case true=>
   show (nilF _ _ _).Fits _ _
   unfold nilF
   split <;> trivial
  show (bopF _ _ _ _).Fits _ _
  unfold bopF
  split
  ·split <;> trivial
  ·unfold binF
   split
   ·split
    ·trivial
    ·unfold intF
     split
     ·trivial
     ·split <;> trivial
   ·split <;> trivial
   ·split
    ·split <;> trivial
    ·trivial
   ·trivial
  ·trivial
 ·unfold unF
  split <;> trivial
 ·unfold convF
  split <;> trivial
 ·unfold mfuncF
  split <;> trivial
 ·unfold faddrF
  split
  ·split <;> trivial
  ·trivial
 ·unfold fieldF
  split
  ·split
   ·exact ldA_fits
   ·trivial
  ·trivial
 ·unfold indexF
  split
  ·trivial
  ·exact ldA_fits
  ·trivial
 ·unfold extractF
  split
  ·exact retO_fits
  ·trivial
 ·rename_i x t
  have hm:∀a b,(T t).k≠ .map a b:=by
   intro a b e
   rw [ho] at h
   have h:(bif [t].any fun t=> (T t).k.isMap then 1 else 0)=0:=h
   simp [e,TK.isMap] at h
  show (lenF (T t).k (rhoOf E x)).Fits _ _
  generalize (T t).k=k at hm
  unfold lenF
  split
  all_goals first
   | trivial
   | exact absurd rfl (hm _ _)
 ·unfold minF
  split <;> trivial
 ·unfold maxF
  split <;> trivial
 ·exfalso
  rw [ho] at h
  rename_i fv xs ts
  have h:(bif Nat.beq (ownOf T fv) 0 || Nat.beq (ownOf T fv) 7 then 1 else 2)=0:=h
  cases hb:(Nat.beq (ownOf T fv) 0 || Nat.beq (ownOf T fv) 7) <;> rw [hb] at h <;> cases h
 ·trivial
theorem opF_fits1 (h:opKind T o.op=1) {d:Nat} (hd:o.dst=some d) {R:Nat→Nat→Prop} (hop:∀s g,opRefs E o s g→R s g):(opF T base E o).Fits R (fun s=> ∃k,s=base + d + 65536 * k):=by
 have hz:∀k,∃k',base + o.dst.getD 0 + 65536 * k=base + d + 65536 * k':=fun k=> ⟨k,by rw [hd];rfl⟩
 have hz0:∃k',base + o.dst.getD 0=base + d + 65536 * k':=⟨0,by rw [hd];rfl⟩
 have mv:∀(sz:Nat) (x:Option AV),(mvF (base + o.dst.getD 0) sz x).Fits R (fun s=> ∃k,s=base + d + 65536 * k):=by
  intro sz x
  unfold mvF
  split
  ·exact ⟨hz0,fun g=> trivial⟩
  ·exact retO_fits
 unfold opF
 split
 all_goals rename_i ho
 all_goals try (rw [ho] at h;cases h;done)
 ·exact mv _ _
 ·exact mv _ _
 ·unfold allocF
  cases (T _).known
  ·trivial
  ·exact boxF_fits hz _
 ·unfold boxO
  split
  ·exact boxF_fits hz _
  ·trivial
 ·rename_i t n parts
  split
  ·rename_i e z hk
   show (bsliceF (T e) (base + o.dst.getD 0) n (parts.toList.map fun p=> (p.1,rhoOf E p.2))).Fits _ _
   unfold bsliceF
   cases ((T e).known && Nat.ble (n * (T e).size) 1000000 && Nat.blt 0 (T e).size)
   ·trivial
   ·refine buildEs_fits _ _ _ _ _ (fun p hp v hv q hq=> ?_) fun es=> ⟨hz0,fun g=> trivial⟩
    obtain ⟨p',hp',rfl⟩:=List.mem_map.1 hp
    refine hop _ _ (opRefs_rho (x:=p'.2) ?_ hv q (cells_refs v q hq))
    rw [ho]
    simp only [Op.operands]
    simp
    exact ⟨p'.1,by simpa using hp'⟩
  ·trivial
 ·rename_i t x
  show (loadF (T t) (rhoOf E x)).Fits _ _
  have hx:∀v,rhoOf E x=some v→∀p∈refsOf v,R p.1 p.2:=fun v hv p hp=> hop _ _ (opRefs_rho (by rw [ho];simp [Op.operands]) hv p hp)
  unfold loadF
  split
  ·exact ldD_fits
  ·rename_i s g q hv
   exact ⟨hx _ hv (s,g) (by simp [refsOf,refs1]),fun c _=> ldA_fits⟩
  ·rename_i s g i q hv
   exact ⟨hx _ hv (s,g) (by simp [refsOf,refs1]),fun c c'=> ldD_fits⟩
  ·trivial
 ·rename_i t x lo hi
  show (sliceF (T t).k (rhoOf E x) (lo.map (rhoOf E)) (hi.map (rhoOf E))).Fits _ _
  have hx:∀v,rhoOf E x=some v→∀p∈refsOf v,R p.1 p.2:=fun v hv p hp=> hop _ _ (opRefs_rho (by rw [ho];simp [Op.operands]) hv p hp)
  unfold sliceF
  split
  ·split <;> trivial
  ·split <;> trivial
  ·rename_i hv
   split
   ·exact ⟨hx _ hv (_,_) (by simp [refsOf,refs1]),trivial⟩
   ·trivial
  ·rename_i hv
   split
   ·exact ⟨hx _ hv (_,_) (by simp [refsOf,refs1]),trivial⟩
   ·trivial
  ·trivial
 ·rename_i t x ix
  show (iaddrF (T t).k (rhoOf E x) (rhoOf E ix)).Fits _ _
  have hx:∀v,rhoOf E x=some v→∀p∈refsOf v,R p.1 p.2:=fun v hv p hp=> hop _ _ (opRefs_rho (by rw [ho];simp [Op.operands]) hv p hp)
  generalize hq:rhoOf E x=c at hx
  unfold iaddrF
  split
  ·trivial
  ·trivial
  ·trivial
  ·exact fun c=> trivial
  ·exact ⟨hx _ rfl (_,_) (by simp [refsOf,refs1]),trivial⟩
  ·exact ⟨hx _ rfl (_,_) (by simp [refsOf,refs1]),trivial⟩
  ·trivial
 ·rename_i x t
  show (lenF (T t).k (rhoOf E x)).Fits _ _
  have hx:∀v,rhoOf E x=some v→∀p∈refsOf v,R p.1 p.2:=fun v hv p hp=> hop _ _ (opRefs_rho (by rw [ho];simp [Op.operands,Call.operands]) hv p hp)
  generalize rhoOf E x=c at hx
  unfold lenF
  split
  all_goals first
   | trivial
   | exact ⟨hx _ rfl (_,_) (by simp [refsOf,refs1]),fun _ _=> trivial⟩
 ·show (mkmapF _ _ _).Fits _ _
  unfold mkmapF
  split
  ·split
   ·exact ⟨hz0,fun g=> trivial⟩
   ·trivial
  ·trivial
 ·rename_i t x k ok
  show (lookupF T (T t).k ok (rhoOf E x) (rhoOf E k)).Fits _ _
  have hx:∀v,rhoOf E x=some v→∀p∈refsOf v,R p.1 p.2:=fun v hv p hp=> hop _ _ (opRefs_rho (by rw [ho];simp [Op.operands]) hv p hp)
  generalize hq:rhoOf E x=c at hx
  unfold lookupF
  split
  ·split
   ·cases ((T _).known && ckHas _ _)
    ·trivial
    ·refine ⟨hx _ rfl (_,_) (by simp [refsOf,refs1]),fun ck es=> ?_⟩
     show (bif ckSame _ ck then Step.ret _ else Step.fail).Fits _ _
     cases ckSame _ ck
     ·exact trivial
     ·exact trivial
   ·trivial
  ·split
   ·cases ((T _).known && ckHas _ _ && ckSame _ _)
    ·trivial
    ·trivial
   ·trivial
  ·trivial
 ·rename_i fv xs ts
  rw [ho] at h
  cases hb:Nat.beq (ownOf T fv) 0
  ·have h7:Nat.beq (ownOf T fv) 7=true:=by
    have h:(bif Nat.beq (ownOf T fv) 0 || Nat.beq (ownOf T fv) 7 then 1 else 2)=1:=h
    rw [hb] at h
    cases hb:Nat.beq (ownOf T fv) 7
    ·rw [hb] at h;cases h
    ·rfl
   show (ocallF T (base + o.dst.getD 0) fv (xs.toList.map (rhoOf E))).Fits _ _
   cases fv with
   | func f=>
    have h7:ownF T f=7:=Nat.eq_of_beq_eq_true h7
    show (bif Nat.beq (ownF T f) 3 then _ else bif Nat.beq (ownF T f) 4 then _ else bif Nat.beq (ownF T f) 7 then _ else _:Step).Fits _ _
    rw [h7]
    refine objCall_fits hz f _ fun v hv p hp=> ?_
    obtain ⟨x,hx,he⟩:=List.mem_map.1 hv
    exact hop _ _ (opRefs_rho (by rw [ho];simp only [Op.operands,Call.operands];simp;right;simpa using hx) he p hp)
   | _=> exact trivial
  show (fcallF (base + o.dst.getD 0) (rhoOf E fv) (xs.toList.map (rhoOf E))).Fits _ _
  generalize hfv:rhoOf E fv=c
  unfold fcallF
  split
  ·rename_i f cs
   cases hcap:cs.all cap1
   ·exact trivial
   simp only [cond_true]
   refine argT_fits _ (fun v hv p hp=> ?_) _ fun ys l hl=> fun r=> ?_
   ·rcases List.mem_append.1 hv with hv | hv
    ·obtain ⟨x,hx,he⟩:=List.mem_map.1 hv
     exact hop _ _ (opRefs_rho (by rw [ho];simp only [Op.operands,Call.operands];simp;right;simpa using hx) he p hp)
    ·obtain ⟨x,hx,he⟩:=List.mem_map.1 hv
     injection he with he
     subst he
     refine hop _ _ (opRefs_rho (x:=fv) (by rw [ho];simp only [Op.operands,Call.operands];simp) hfv p ?_)
     refine List.mem_flatMap.2 ⟨x,hx,?_⟩
     have:=List.all_eq_true.1 hcap x hx
     cases x <;> first | exact hp | cases this
   ·show (bif scalar r then _ else _:Step).Fits _ _
    cases scalar r
    ·exact frzL_fits _ _ hl (recv_fits hz _ fun x=> trivial)
    ·exact recv_fits hz _ fun x=> trivial
  ·trivial
 ·trivial
theorem congr_pairs {E E':Nat→Option AV} (parts:Array (Nat×Operand)) (h:∀x∈(parts.toList.map (·.2)),rhoOf E x=rhoOf E' x):(parts.toList.map fun p=> (p.1,rhoOf E p.2))=(parts.toList.map fun p=> (p.1,rhoOf E' p.2)):=
 List.map_congr_left fun p hp=> by rw [h p.2 (List.mem_map.2 ⟨p,hp,rfl⟩)]
theorem opF_congr {E E':Nat→Option AV} (h:∀x∈o.op.operands,rawOf E x=rawOf E' x):opF T base E o=opF T base E' o:=by
 have hr:∀x∈o.op.operands,rhoOf E x=rhoOf E' x:=fun x hx=> by unfold rhoOf;rw [h x hx]
 unfold opF
 split
 all_goals rename_i ho
 all_goals try rw [ho] at h hr
 all_goals try simp only [Op.operands] at h hr
 ·rw [h _ (by simp)]
 ·rw [h _ (by simp)]
 ·rename_i c x y
  rw [h c (by simp),h x (by simp),h y (by simp)]
 ·rw [hr _ (by simp)]
 ·rw [congr_pairs _ fun x hx=> hr x (by simpa using hx)]
 ·rw [congr_pairs _ fun x hx=> hr x (by simpa using hx)]
 ·rw [hr _ (by simp)]
 ·rename_i x y
  rw [hr x (by simp),hr y (by simp)]
 ·rw [hr _ (by simp)]
 ·rename_i x y _
  rw [hr x (by simp),hr y (by simp)]
 ·rw [hr _ (by simp)]
 ·rw [hr _ (by simp)]
 ·rename_i f first cap
  have e1:first.toList.map (rhoOf E)=first.toList.map (rhoOf E'):=List.map_congr_left fun x hx=> hr x (by simp;left;simpa using hx)
  have e2:∀(l:List Operand),(∀x∈l,rhoOf E x=rhoOf E' x)→l.mapM (rhoOf E)=l.mapM (rhoOf E'):=by
   intro l
   induction l with
   | nil=> intro _;rfl
   | cons x l ih=>
    intro hl
    rw [List.mapM_cons,List.mapM_cons,hl x (by simp),ih fun y hy=> hl y (by simp [hy])]
  rw [e1,e2 _ fun x hx=> hr x (by simp;right;simpa using hx)]
 ·rename_i t x lo hi
  have e1:lo.map (rhoOf E)=lo.map (rhoOf E'):=by
   cases lo with
   | none=> rfl
   | some l=> simp only [Option.map_some];rw [hr l (by simp)]
  have e2:hi.map (rhoOf E)=hi.map (rhoOf E'):=by
   cases hi with
   | none=> rfl
   | some l=> simp only [Option.map_some];rw [hr l (by simp)]
  rw [hr x (by simp),e1,e2]
 ·rw [hr _ (by simp)]
 ·rw [hr _ (by simp)]
 ·rename_i x y
  rw [hr x (by simp),hr y (by simp)]
 ·rename_i x y
  rw [hr x (by simp),hr y (by simp)]
 ·rw [hr _ (by simp)]
 ·rw [hr _ (by simp [Call.operands])]
 ·rename_i x y t t'
  rw [hr x (by simp [Call.operands]),hr y (by simp [Call.operands])]
 ·rename_i x y t t'
  rw [hr x (by simp [Call.operands]),hr y (by simp [Call.operands])]
 ·rename_i x t
  rw [hr x (by simp [Call.operands])]
 ·rename_i t x y
  rw [hr x (by simp),hr y (by simp)]
 ·rename_i t x k ok
  rw [hr x (by simp),hr k (by simp)]
 ·rename_i t x k y
  rw [hr x (by simp),hr k (by simp),hr y (by simp)]
 ·rename_i t x k y
  rw [hr x (by simp),hr k (by simp),hr y (by simp)]
 ·rename_i x k t t'
  rw [hr x (by simp [Call.operands]),hr k (by simp [Call.operands])]
 ·rename_i x y _
  rw [hr x (by simp [Call.operands]),hr y (by simp [Call.operands])]
 ·rename_i x y _
  rw [hr x (by simp [Call.operands]),hr y (by simp [Call.operands])]
 ·rename_i fv xs ts
  have e1:xs.toList.map (rhoOf E)=xs.toList.map (rhoOf E'):=List.map_congr_left fun x hx=> hr x (by simp [Call.operands];right;simpa using hx)
  rw [hr fv (by simp [Call.operands]),e1]
 ·rfl
end
end Go.Proofs.YtmgcnoigihdhpaaGreatDoor
namespace Go.Proofs.YtmgcnoigihdhpaaGreatDoor
open Go.RowKit
def unkE (env:Nat→Option AV):Nat→Option AV:=fun t=> unkO (env t)
theorem unk1_idem (v:AV):unk1 (unk1 v)=unk1 v:=by cases v <;> rfl
theorem unk_idem (v:AV):unk (unk v)=unk v:=by
 have h:=unk1_idem v
 cases v with
 | agg cs=>
  simp only [unk,List.map_map]
  congr 1
  apply List.map_congr_left
  intro x _
  exact unk1_idem x
 | _=> first | rfl | exact h
theorem unkO_idem (v:Option AV):unkO (unkO v)=unkO v:=by
 cases v with
 | none=> rfl
 | some v=> simp only [unkO,unk_idem]
theorem raw_unkE (env:Nat→Option AV) (x:Operand):unkO (rawOf (unkE env) x)=unkO (rawOf env x):=by
 cases x with
 | tmp t=> exact unkO_idem _
 | _=> rfl
theorem rho_unkE (env:Nat→Option AV):rhoOf (unkE env)=rhoOf env:=funext fun x=> raw_unkE env x
section
variable {T : Nat → TI} {base nt : Nat} {F : FuncId → List AV → AV → Prop}
theorem mv_unk {s sz:Nat} {x y:Option AV} (h:unkO x=unkO y) {m m':Mem} {v:AV} (hr:(mvF s sz x).Runs F m v m'):∃v',(mvF s sz y).Runs F m v' m'∧unk v'=unk v:=by
 cases x with
 | none=> cases hr
 | some x=>
  cases y with
  | none=> cases h
  | some y=>
   have h:unk x=unk y:=Option.some.inj h
   by_cases hx:x= .nl
   ·subst hx
    have hy:y= .nl:=by
     cases y <;> first | rfl | cases h
    subst hy
    exact ⟨v,hr,rfl⟩
   ·have hy:y≠ .nl:=by
     rintro rfl
     apply hx
     cases x <;> first | rfl | cases h
    have e1:mvF s sz (some x)= .ret x:=by cases x <;> first | rfl | exact absurd rfl hx
    have e2:mvF s sz (some y)= .ret y:=by cases y <;> first | rfl | exact absurd rfl hy
    rw [e1] at hr
    cases hr with
    | ret=> exact ⟨y,by rw [e2];exact .ret,h.symm⟩
theorem retO_unk {x y:Option AV} (h:unkO x=unkO y) {m m':Mem} {v:AV} (hr:(retO x).Runs F m v m'):∃v',(retO y).Runs F m v' m'∧unk v'=unk v:=by
 cases x with
 | none=> cases hr
 | some x=>
  cases y with
  | none=> cases h
  | some y=>
   cases hr with
   | ret=> exact ⟨y,.ret,(Option.some.inj h).symm⟩
theorem pick_unk {c c' x x' y y':Option AV} (hc:unkO c=unkO c') (hx:unkO x=unkO x') (hy:unkO y=unkO y') {m m':Mem} {v:AV} (hr:(pickF c x y).Runs F m v m'):∃v',(pickF c' x' y').Runs F m v' m'∧unk v'=unk v:=by
 obtain ⟨t,ht,hr⟩:=pickF_inv hr
 have hb:unkO c'=some (.d (.v (.bool t))):=by
  rw [←hc]
  rcases ht with rfl | rfl <;> rfl
 have hc':c'=some (.d (.v (.bool t)))∨c'=some (.kb t):=by
  cases c' with
  | none=> cases hb
  | some c'=>
   cases c' with
   | d z=> left;exact hb
   | kb b=> right;injection hb with hb;injection hb with hb;injection hb with hb;injection hb with hb;rw [hb]
   | _=> cases hb
 have fin:∃v',(bif t then retO x' else retO y').Runs F m v' m'∧unk v'=unk v:=by
  cases t
  ·exact retO_unk hy hr
  ·exact retO_unk hx hr
 obtain ⟨v',h1,h2⟩:=fin
 refine ⟨v',?_,h2⟩
 rcases hc' with rfl | rfl
 ·exact .br h1
 ·cases t <;> exact h1
theorem opF_unk {env env':Nat→Option AV} (h:unkE env=unkE env') {o:Oper} {m m':Mem} {v:AV} (hr:(opF T base env o).Runs F m v m'):∃v',(opF T base env' o).Runs F m v' m'∧unk v'=unk v:=by
 have hraw:∀x,unkO (rawOf env x)=unkO (rawOf env' x):=fun x=> by rw [←raw_unkE env,←raw_unkE env',h]
 have hrho:rhoOf env=rhoOf env':=funext hraw
 unfold opF at hr ⊢
 split at hr
 all_goals rename_i ho
 ·exact mv_unk (hraw _) hr
 ·exact mv_unk (hraw _) hr
 ·exact pick_unk (hraw _) (hraw _) (hraw _) hr
 all_goals first | exact ⟨v,hr,rfl⟩ | (rw [←hrho];exact ⟨v,hr,rfl⟩)
def Go1 (T:Nat→TI) (base:Nat) (F:FuncId→List AV→AV→Prop) (ops:Array Oper) (o:Oper) (env:Nat→Option AV) (v:AV) (m m1:Mem):Prop:=
 match o.guard with
 | none=> ∃v',(opF T base env o).Runs F m v' m1∧v=unk v'
 | some (j,want)=> ∃t,gdst ops.toList j=some t∧((∃b,env t=some (.d (.v (.bool b)))∧((b=want∧∃v',(opF T base env o).Runs F m v' m1∧v=unk v')∨(b≠want∧v= .tup []∧m1=m)))∨(env t=some (.tup [])∧v= .tup []∧m1=m))
def StepN (T:Nat→TI) (base nt:Nat) (F:FuncId→List AV→AV→Prop) (ops:Array Oper) (o:Oper) (st st':ASt):Prop:=dstOk nt o=true∧∃v,Go1 T base F ops o st.env v st.m st'.m∧st'.env=putE st.env o.dst v
def ChainN (T:Nat→TI) (base nt:Nat) (F:FuncId→List AV→AV→Prop) (ops:Array Oper):List Oper→ASt→ASt→Prop
 | [],st,st'=> st'=st
 | o::r,st,st'=> ∃st1,StepN T base nt F ops o st st1∧ChainN T base nt F ops r st1 st'
theorem unkE_put (env:Nat→Option AV) (d:Option Tmp) (v:AV):unkE (putE env d v)=putE (unkE env) d (unk v):=by
 funext t
 cases d with
 | none=> rfl
 | some d=>
  simp only [unkE,putE,updT,beq_dec]
  by_cases h:t=d <;> simp [h,unkO]
theorem unkE_idem (env:Nat→Option AV):unkE (unkE env)=unkE env:=funext fun _=> unkO_idem _
theorem unkE_known {env:Nat→Option AV} {t:Nat} {b:Bool} (h:env t=some (.d (.v (.bool b)))):unkE (updT env t (some (.kb b)))=unkE env:=by
 funext x
 simp only [unkE,updT,beq_dec]
 by_cases hx:x=t
 ·subst hx;simp [h,unkO,unk,unk1]
 ·simp [hx]
theorem runL_chain {ops:Array Oper} {K:ASt→Prop}:∀(l:List Oper) (st:ASt),runL T base nt F ops.toList l st K→∃st',ChainN T base nt F ops l ⟨unkE st.env,st.m⟩ ⟨unkE st'.env,st'.m⟩∧K st'
 | [],st,h=> ⟨st,rfl,h⟩
 | o::r,st,h=> by
  unfold runL at h
  cases hdo:dstOk nt o
  ·rw [hdo] at h;exact h.elim
  ·rw [hdo] at h
   simp only [Bool.not_true,cond_false] at h
   have exec:∀env,unkE env=unkE st.env→(opF T base env o).wp F st.m (fun v m=> runL T base nt F ops.toList r ⟨putE env o.dst v,m⟩ K)→
     ∃v' m1 st',(opF T base (unkE st.env) o).Runs F st.m v' m1∧ChainN T base nt F ops r ⟨putE (unkE st.env) o.dst (unk v'),m1⟩ ⟨unkE st'.env,st'.m⟩∧K st':=by
    intro env he h
    obtain ⟨v,m1,h1,h2⟩:=Step.wp_runs _ _ _ h
    obtain ⟨st',h3,h4⟩:=runL_chain r _ h2
    obtain ⟨v',h5,h6⟩:=opF_unk (env':=unkE st.env) (by rw [he,unkE_idem]) h1
    refine ⟨v',m1,st',h5,?_,h4⟩
    simp only [unkE_put,he] at h3
    rw [h6]
    exact h3
   have skip:∀env,unkE env=unkE st.env→runL T base nt F ops.toList r ⟨putE env o.dst (.tup []),st.m⟩ K→∃st',ChainN T base nt F ops r ⟨putE (unkE st.env) o.dst (.tup []),st.m⟩ ⟨unkE st'.env,st'.m⟩∧K st':=by
    intro env he h
    obtain ⟨st',h3,h4⟩:=runL_chain r _ h
    simp only [unkE_put,he] at h3
    exact ⟨st',h3,h4⟩
   cases hg:o.guard with
   | none=>
    rw [hg] at h
    obtain ⟨v',m1,st',h1,h2,h3⟩:=exec _ rfl h
    exact ⟨st',⟨_,⟨hdo,unk v',by unfold Go1;rw [hg];exact ⟨v',h1,rfl⟩,rfl⟩,h2⟩,h3⟩
   | some p=>
    obtain ⟨j,want⟩:=p
    rw [hg] at h
    dsimp only at h
    cases hj:gdst ops.toList j with
    | none=> rw [hj] at h;exact h.elim
    | some t=>
     rw [hj] at h
     dsimp only at h
     have yes:∀(b:Bool) (env:Nat→Option AV),unkE env=unkE st.env→unkO (st.env t)=some (.d (.v (.bool b)))→b=want→(opF T base env o).wp F st.m (fun v m=> runL T base nt F ops.toList r ⟨putE env o.dst v,m⟩ K)→∃st',ChainN T base nt F ops (o::r) ⟨unkE st.env,st.m⟩ ⟨unkE st'.env,st'.m⟩∧K st':=by
      intro b env he hb hw h
      obtain ⟨v',m1,st',h1,h2,h3⟩:=exec env he h
      exact ⟨st',⟨_,⟨hdo,unk v',by unfold Go1;rw [hg];exact ⟨t,hj,Or.inl ⟨b,hb,Or.inl ⟨hw,v',h1,rfl⟩⟩⟩,rfl⟩,h2⟩,h3⟩
     have no:∀(b:Bool) (env:Nat→Option AV),unkE env=unkE st.env→unkO (st.env t)=some (.d (.v (.bool b)))→b≠want→runL T base nt F ops.toList r ⟨putE env o.dst (.tup []),st.m⟩ K→∃st',ChainN T base nt F ops (o::r) ⟨unkE st.env,st.m⟩ ⟨unkE st'.env,st'.m⟩∧K st':=by
      intro b env he hb hw h
      obtain ⟨st',h2,h3⟩:=skip env he h
      exact ⟨st',⟨_,⟨hdo,.tup [],by unfold Go1;rw [hg];exact ⟨t,hj,Or.inl ⟨b,hb,Or.inr ⟨hw,rfl,rfl⟩⟩⟩,rfl⟩,h2⟩,h3⟩
     split at h
     ·rename_i hb
      have hb':unkO (st.env t)=some (.d (.v (.bool true))):=by rw [hb];rfl
      cases want
      ·exact no true _ rfl hb' (by decide) h
      ·exact yes true _ rfl hb' rfl h
     ·rename_i hb
      have hb':unkO (st.env t)=some (.d (.v (.bool false))):=by rw [hb];rfl
      cases want
      ·exact yes false _ rfl hb' rfl h
      ·exact no false _ rfl hb' (by decide) h
     ·rename_i b hb
      have hb':unkO (st.env t)=some (.d (.v (.bool b))):=by rw [hb];rfl
      have he:=unkE_known hb
      cases b
      ·cases want
       ·exact yes false _ he hb' rfl (h.2 rfl)
       ·exact no false _ he hb' (by decide) (h.2 rfl)
      ·cases want
       ·exact no true _ he hb' (by decide) (h.1 rfl)
       ·exact yes true _ he hb' rfl (h.1 rfl)
     ·rename_i hb
      have hb':unkO (st.env t)=some (.tup []):=by rw [hb];rfl
      obtain ⟨st',h2,h3⟩:=skip _ rfl h
      exact ⟨st',⟨_,⟨hdo,.tup [],by unfold Go1;rw [hg];exact ⟨t,hj,Or.inr ⟨hb',rfl,rfl⟩⟩,rfl⟩,h2⟩,h3⟩
     ·exact h.elim
end
end Go.Proofs.YtmgcnoigihdhpaaGreatDoor
namespace Go.Proofs.YtmgcnoigihdhpaaGreatDoor
open Go.RowKit
section
variable {P : Program} {T : Nat → TI} {base nt : Nat} {F : FuncId → List AV → AV → Prop} {w0 : Start} {A : Nat → Prop} {ops : Array Oper}
theorem pure_runs {x:Step} {m m':Mem} {v:AV} (hr:x.Runs F m v m'):x.Fits (fun _ _=> False) (fun _=> False)→m'=m∧∀q,x.Runs F q v q:=by
 induction hr with
 | ret=> exact fun _=> ⟨rfl,fun q=> .ret⟩
 | rdb h r ih=> exact fun hf=> hf.1.elim
 | rdr h r ih=> exact fun hf=> hf.1.elim
 | rdm h r ih=> exact fun hf=> hf.1.elim
 | rww=> exact fun hf=> hf.elim
 | rdz h r ih=> exact fun hf=> hf.1.elim
 | wr=> exact fun hf=> hf.elim
 | new r ih=> exact fun hf=> hf.1.elim
 | app=> exact fun hf=> hf.elim
 | frz h r ih=> exact fun hf=> hf.1.elim
 | elem h r ih=> exact fun hf=> let ⟨h1,h2⟩:=ih (hf _);⟨h1,fun q=> .elem h (h2 q)⟩
 | call h r ih=> exact fun hf=> let ⟨h1,h2⟩:=ih (hf _);⟨h1,fun q=> .call h (h2 q)⟩
 | chk h r ih=> exact fun hf=> let ⟨h1,h2⟩:=ih hf;⟨h1,fun q=> .chk h (h2 q)⟩
 | @br b x y m m' v r ih=> exact fun hf=> let ⟨h1,h2⟩:=ih (by cases b;exact hf.2;exact hf.1);⟨h1,fun q=> .br (h2 q)⟩
theorem rawOf_put {E:Nat→Option AV} {d:Option Tmp} {v:AV} {x:Operand} (h:∀t,d=some t→x≠ .tmp t):rawOf (putE E d v) x=rawOf E x:=by
 cases d with
 | none=> rfl
 | some t=>
  cases x with
  | tmp u=>
   have hne:u≠t:=fun e=> h t rfl (by rw [e])
   simp [rawOf,putE,updT,beq_dec,hne]
  | _=> rfl
theorem looks_operand {o:Oper} {x:Operand} (hx:x∈o.op.operands) {t:Tmp} (e:x= .tmp t):t∈o.looksAt ops:=by
 unfold Oper.looksAt
 refine List.mem_append_left _ (List.mem_filterMap.2 ⟨x,by simpa using hx,?_⟩)
 rw [e]
theorem looks_guard {o:Oper} {j:Nat} {w:Bool} (hg:o.guard=some (j,w)) {t:Tmp} (ht:gdst ops.toList j=some t):t∈o.looksAt ops:=by
 unfold Oper.looksAt
 rw [hg]
 refine List.mem_append_right _ ?_
 show t∈((ops[j]?).bind (·.dst)).toList
 unfold gdst at ht
 rw [←Array.getElem?_toList]
 cases hq:ops.toList[j]? with
 | none=> rw [hq] at ht;cases ht
 | some q=> rw [hq] at ht;simp [ht]
theorem Go1.put {o:Oper} {E:Nat→Option AV} {d:Option Tmp} {u v:AV} {m m1:Mem} (h:∀t,d=some t→t∉o.looksAt ops):Go1 T base F ops o (putE E d u) v m m1↔Go1 T base F ops o E v m m1:=by
 have e:opF T base (putE E d u) o=opF T base E o:=opF_congr fun x hx=> rawOf_put fun t ht e=> h t ht (looks_operand hx e)
 unfold Go1
 cases hg:o.guard with
 | none=> simp only [e]
 | some p=>
  obtain ⟨j,w⟩:=p
  simp only [e]
  have hE:∀t,gdst ops.toList j=some t→(putE E d u) t=E t:=by
   intro t ht
   have:=rawOf_put (E:=E) (d:=d) (v:=u) (x:= .tmp t) fun t' ht' e=> h t' ht' (by injection e with e;rw [←e];exact looks_guard hg ht)
   exact this
  constructor
  ·rintro ⟨t,ht,h2⟩
   rw [hE t ht] at h2
   exact ⟨t,ht,h2⟩
  ·rintro ⟨t,ht,h2⟩
   refine ⟨t,ht,?_⟩
   rw [hE t ht]
   exact h2
theorem Go1.cases {o:Oper} {E:Nat→Option AV} {v:AV} {m m1:Mem} (h:Go1 T base F ops o E v m m1):
  (∃v',(opF T base E o).Runs F m v' m1∧v=unk v'∧∀q q1,(opF T base E o).Runs F q v' q1→Go1 T base F ops o E v q q1)∨(m1=m∧∀q,Go1 T base F ops o E v q q):=by
 unfold Go1 at h ⊢
 cases hg:o.guard with
 | none=>
  rw [hg] at h
  obtain ⟨v',h1,h2⟩:=h
  exact Or.inl ⟨v',h1,h2,fun q q1 hq=> ⟨v',hq,h2⟩⟩
 | some p=>
  obtain ⟨j,w⟩:=p
  rw [hg] at h
  rcases h with ⟨t,ht,⟨b,hb,⟨hw,v',h1,h2⟩ | ⟨hw,h1,h2⟩⟩ | ⟨hb,h1,h2⟩⟩
  ·exact Or.inl ⟨v',h1,h2,fun q q1 hq=> ⟨t,ht,Or.inl ⟨b,hb,Or.inl ⟨hw,v',hq,h2⟩⟩⟩⟩
  ·exact Or.inr ⟨h2,fun q=> ⟨t,ht,Or.inl ⟨b,hb,Or.inr ⟨hw,h1,rfl⟩⟩⟩⟩
  ·exact Or.inr ⟨h2,fun q=> ⟨t,ht,Or.inr ⟨hb,h1,rfl⟩⟩⟩
theorem Sim.boxes {w0:Start} {A:Nat→Prop} {m:Mem} {κ:Cx} (hs:Sim w0 A m κ) {s g:Nat} {cs:List AV} (hi:m.at_ s g=some (.box cs)):∀p∈cs.flatMap refs1,p.2≤m.gen p.1:=by
 obtain ⟨b,T,vs,hb,hh,hn,hr⟩:=hs.ok s g _ hi
 intro p hp
 obtain ⟨c,hc,hp⟩:=List.mem_flatMap.1 hp
 obtain ⟨j,hj,rfl⟩:=List.getElem_of_mem hc
 have:=refs1_rel (hr j cs[j] _ (List.getElem?_eq_getElem hj) (Array.getElem?_eq_getElem (by omega))).1 p hp
 rw [hs.gn] at this
 exact this
structure OldAt (G:Nat→Nat) (E:Nat→Option AV) (y:Oper) (m:Mem):Prop where
 wf:MemWF m
 refs:∀s g,opRefs E y s g→g≤G s
 gen:∀s,G s≤m.gen s
 box:∀s g cs,g≤G s→m.at_ s g=some (.box cs)→∀p∈cs.flatMap refs1,p.2≤G p.1
def Compat (T:Nat→TI) (x y:Oper):Prop:=opKind T x.op=0∨opKind T y.op=0∨(opKind T x.op=1∧opKind T y.op=1∧∃d e:Nat,x.dst=some d∧y.dst=some e∧d < 65536∧e < 65536∧d≠e)
theorem swap_mem {x y:Oper} {E:Nat→Option AV} {v u:AV} {m m1 m2:Mem} (hc:Compat T x y) {G:Nat→Nat} (hold:opKind T y.op=1→OldAt G E y m) (h1:Go1 T base F ops x E v m m1) (h2:Go1 T base F ops y E u m1 m2):
  ∃m1',Go1 T base F ops y E u m m1'∧Go1 T base F ops x E v m1' m2:=by
 rcases h1.cases with ⟨v',r1,_,k1⟩ | ⟨rfl,k1⟩
 ·rcases h2.cases with ⟨u',r2,_,k2⟩ | ⟨rfl,k2⟩
  ·rcases hc with hc | hc | ⟨hx,hy,d,e,hd,he,hd1,he1,hne⟩
   ·obtain ⟨rfl,p1⟩:=pure_runs r1 (opF_fits0 hc)
    exact ⟨m2,h2,k1 _ _ (p1 m2)⟩
   ·obtain ⟨rfl,p2⟩:=pure_runs r2 (opF_fits0 hc)
    exact ⟨m,k2 _ _ (p2 m),h1⟩
   ·have ho:=hold hy
    obtain ⟨m1',q1,q2⟩:=fits_swap (opF_fits1 hx hd fun _ _ _=> trivial) (opF_fits1 hy he ho.refs) (fun s=> by
     rintro ⟨k,hk⟩ ⟨k',hk'⟩
     exact hne (by omega)) ho.wf ho.gen ho.box r1 r2
    exact ⟨m1',k2 _ _ q1,k1 _ _ q2⟩
  ·exact ⟨m,k2 m,h1⟩
 ·exact ⟨m2,h2,k1 m2⟩
theorem swap_step {x y:Oper} {s s1 s2:ASt} (ha:x.apart ops y=true) (hc:Compat T x y) {G:Nat→Nat} (hold:opKind T y.op=1→OldAt G s.env y s.m) (h1:StepN T base nt F ops x s s1) (h2:StepN T base nt F ops y s1 s2):
  ∃s1',StepN T base nt F ops y s s1'∧StepN T base nt F ops x s1' s2:=by
 obtain ⟨a1,a2,a3⟩:=Oper.apart_spec ha
 obtain ⟨d1,v,g1,e1⟩:=h1
 obtain ⟨d2,u,g2,e2⟩:=h2
 rw [e1] at g2
 have g2:=(Go1.put a1).1 g2
 obtain ⟨m1',q1,q2⟩:=swap_mem hc hold g1 g2
 refine ⟨⟨putE s.env y.dst u,m1'⟩,⟨d2,u,q1,rfl⟩,⟨d1,v,(Go1.put a3).2 q2,?_⟩⟩
 rw [e2,e1]
 funext t
 cases hx:x.dst with
 | none=> rfl
 | some d=>
  cases hy:y.dst with
  | none=> rfl
  | some e=>
   have hne:d≠e:=fun h=> a2 d hx (by rw [hy,h])
   simp only [putE,updT,beq_dec]
   by_cases h1:t=d
   ·subst h1;simp [hne]
   ·simp [h1]
theorem keep_old {x y:Oper} {s s1:ASt} (ha:x.apart ops y=true) (hc:Compat T x y) {G:Nat→Nat} (hold:opKind T y.op=1→OldAt G s.env y s.m) (h1:StepN T base nt F ops x s s1):
  opKind T y.op=1→OldAt G s1.env y s1.m:=by
 intro hy
 have ho:=hold hy
 obtain ⟨a1,a2,a3⟩:=Oper.apart_spec ha
 obtain ⟨d1,v,g1,e1⟩:=h1
 have hrefs:∀a g,opRefs s1.env y a g→opRefs s.env y a g:=by
  rintro a g ⟨x',hx',v',hv',hp⟩
  rw [e1,rawOf_put fun t ht e=> a1 t ht (looks_operand hx' e)] at hv'
  exact ⟨x',hx',v',hv',hp⟩
 rcases g1.cases with ⟨v',r1,_,_⟩ | ⟨hm,_⟩
 ·rcases hc with hc | hc | ⟨hx,_,d,e,hd,_⟩
  ·obtain ⟨hm,_⟩:=pure_runs r1 (opF_fits0 hc)
   rw [hm]
   exact ⟨ho.wf,fun a g h=> ho.refs a g (hrefs a g h),ho.gen,ho.box⟩
  ·rw [hc] at hy;cases hy
  ·obtain ⟨es,f1,_,f3,_⟩:=Step.Fits.runs r1 (opF_fits1 hx hd fun _ _ _=> trivial) (Or.inl fun _ _=> trivial) ho.wf
   refine ⟨f3,fun a g h=> ho.refs a g (hrefs a g h),fun a=> Nat.le_trans (ho.gen a) (by rw [f1];exact apL_gen es s.m a),fun a g cs hg hi=> ho.box a g cs hg ?_⟩
   rw [f1] at hi
   exact frzI_box (by rw [←apL_at es s.m a g (Nat.le_trans hg (ho.gen a)),hi])
 ·rw [hm]
  exact ⟨ho.wf,fun a g h=> ho.refs a g (hrefs a g h),ho.gen,ho.box⟩
theorem chain_front {G:Nat→Nat} {y:Oper} {post:List Oper} {s':ASt}:∀(pre:List Oper) (s:ASt),(∀x∈pre,x.apart ops y=true∧Compat T x y)→(opKind T y.op=1→OldAt G s.env y s.m)→ChainN T base nt F ops (pre ++ y::post) s s'→
  ∃s1,StepN T base nt F ops y s s1∧ChainN T base nt F ops (pre ++ post) s1 s'
 | [],s,_,_,h=> h
 | x::pre,s,hp,ho,h=> by
  obtain ⟨sa,h1,h2⟩:=h
  obtain ⟨hx1,hx2⟩:=hp x (by simp)
  obtain ⟨sb,h3,h4⟩:=chain_front pre sa (fun z hz=> hp z (by simp [hz])) (keep_old hx1 hx2 ho h1) h2
  obtain ⟨s1,h5,h6⟩:=swap_step hx1 hx2 ho h1 h3
  exact ⟨s1,h5,sb,h6,h4⟩
theorem stepN_sim (hT:TOk P T) (heq:∀t,(T t).eqs=true→(T t).known=true) (hF:∀f args r,F f args r→FnX w0.dr P f args r) {o:Oper} {N:Act→World→Prop} {Q:Exit→Act→World→Prop} {st st1:ASt} {κ:Cx} {a:Act}
  (hs:Sim w0 A st.m κ) (he:EnvOk κ st.env a.tmps) (hn:a.tmps.size=nt) (hd:a.defers= []) (h:StepN T base nt F ops o st st1)
  (hN:∀κ' a',Sim w0 A st1.m κ'→EnvOk κ' st1.env a'.tmps→a'.tmps.size=nt→a'.defers= []→N a' κ'.w):
  if Region.wanted o (yielded ops a.tmps) then o.wp P a κ.w N Q else N (a.put o.dst undef) κ.w:=by
 obtain ⟨hdo,v,hg1,he1⟩:=h
 have exec:∀v',(opF T base st.env o).Runs F st.m v' st1.m→v=unk v'→o.wp P a κ.w N Q:=by
  intro v' hr hv
  refine Oper.wp_mono ?_ (op_sim hT heq hF hs he hr)
  rintro a' w' ⟨κ',rfl,h1,h2,x,rfl,hx⟩
  refine hN κ' _ h1 ?_ (by rw [put_size,hn]) (by rw [put_defers,hd])
  rw [he1,hv]
  exact (he.mono h2).put hn hdo hx.unk
 have skip:v= .tup []→st1.m=st.m→N (a.put o.dst undef) κ.w:=by
  intro hv hm
  refine hN κ _ (by rw [hm];exact hs) ?_ (by rw [put_size,hn]) (by rw [put_defers,hd])
  rw [he1,hv]
  exact he.put hn hdo (undef_rel κ)
 unfold Go1 at hg1
 cases hg:o.guard with
 | none=>
  rw [hg] at hg1
  obtain ⟨v',h1,h2⟩:=hg1
  have:Region.wanted o (yielded ops a.tmps)=true:=by simp [Region.wanted,hg]
  rw [if_pos this]
  exact exec v' h1 h2
 | some p=>
  obtain ⟨j,want⟩:=p
  rw [hg] at hg1
  obtain ⟨t,hj,hg1⟩:=hg1
  have hy:∀x,a.tmps[t]? =some x→yielded ops a.tmps j=match x with | .bool b=> some b | _=> none:=by
   intro x hx
   unfold yielded
   have hb:(ops[j]?).bind (·.dst)=some t:=by
    unfold gdst at hj
    rw [←Array.getElem?_toList]
    cases hq:ops.toList[j]? with
    | none=> rw [hq] at hj;cases hj
    | some q=> rw [hq] at hj;exact hj
   rw [hb]
   simp only [Option.bind_some,hx]
   cases x <;> rfl
  rcases hg1 with ⟨b,hb,⟨rfl,v',h1,h2⟩ | ⟨hw,h1,h2⟩⟩ | ⟨hb,h1,h2⟩
  ·obtain ⟨x,hx,hr⟩:=he t _ hb
   have:=hr.val
   subst this
   have hy:=hy _ hx
   have:Region.wanted o (yielded ops a.tmps)=true:=by simp [Region.wanted,hg,hy]
   rw [if_pos this]
   exact exec v' h1 h2
  ·obtain ⟨x,hx,hr⟩:=he t _ hb
   have:=hr.val
   subst this
   have hy:=hy _ hx
   have:Region.wanted o (yielded ops a.tmps)=false:=by simp [Region.wanted,hg,hy,hw]
   rw [this]
   exact skip h1 h2
  ·obtain ⟨x,hx,hr⟩:=he t _ hb
   obtain ⟨vs,rfl,_⟩:=hr.tup_inv
   have hy:=hy _ hx
   have:Region.wanted o (yielded ops a.tmps)=false:=by simp [Region.wanted,hg,hy]
   rw [this]
   exact skip h1 h2
end
end Go.Proofs.YtmgcnoigihdhpaaGreatDoor

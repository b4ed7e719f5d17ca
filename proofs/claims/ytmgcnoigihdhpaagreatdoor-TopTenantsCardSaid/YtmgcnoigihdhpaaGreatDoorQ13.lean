/-
Evaluation of Go code on plain data: clear. Over any program.
-/
import Derived.Test.YtmgcnoigihdhpaaGreatDoorQ12
namespace Go.Proofs.YtmgcnoigihdhpaaGreatDoor
open Go.RowKit
theorem rowat_over {κ κ':Cx} (hle:κ.Le κ') {cur:Array Value} {sz q:Nat} {es ys:List (List D)} {news:List Value} (hcur:es.length * sz≤cur.size) (hr:RowAt κ cur sz es) (hes:∀e∈es,e.length=sz) (hys:∀e∈ys,e.length=sz)
  (hq:q + ys.length≤es.length) (hnl:news.length=ys.length * sz) (hn:∀(i j:Nat) (e:List D) (x:D),ys[i]? =some e→e[j]? =some x→∃u,news[i * sz + j]? =some u∧RelD κ'.S κ'.w x u):
  (q * sz + news.length≤cur.toList.length)∧RowAt κ' (over cur.toList (q * sz) news).toArray sz (es.take q ++ ys ++ es.drop (q + ys.length)):=by
 have hfit:q * sz + news.length≤cur.toList.length:=by
  rw [hnl,←Nat.add_mul,Array.length_toList]
  exact Nat.le_trans (Nat.mul_le_mul_right _ hq) hcur
 refine ⟨hfit,fun i j e x hi hx=> ?_⟩
 have hget:∀p,((over cur.toList (q * sz) news).toArray)[p]? =if p < q * sz then cur[p]? else if p < q * sz + news.length then news[p - q * sz]? else cur[p]? :=by
  intro p
  have:=over_get cur.toList (q * sz) news hfit p
  rw [List.getElem?_toArray,this]
  simp
 have htl:(es.take q).length=q:=by rw [List.length_take];omega
 have hmem:e∈es.take q ++ ys ++ es.drop (q + ys.length):=List.mem_of_getElem? hi
 have hez:e.length=sz:=by
  rcases List.mem_append.1 hmem with h | h
  ·rcases List.mem_append.1 h with h | h
   ·exact hes e (List.mem_of_mem_take h)
   ·exact hys e h
  ·exact hes e (List.mem_of_mem_drop h)
 have hj:j < sz:=by rw [←hez];exact (List.getElem?_eq_some_iff.1 hx).1
 by_cases h1:i < q
 ·have h2:es[i]? =some e:=by
   rw [List.append_assoc,List.getElem?_append_left (by omega),List.getElem?_take,if_pos h1] at hi
   exact hi
  obtain ⟨u,hu,hd⟩:=hr i j e x h2 hx
  refine ⟨u,?_,hle.relD hd⟩
  have hp:i * sz + j < q * sz:=by
   have:(i + 1) * sz≤q * sz:=Nat.mul_le_mul_right _ (by omega)
   rw [Nat.add_mul] at this
   omega
  rw [hget,if_pos hp]
  exact hu
 ·by_cases h2:i < q + ys.length
  ·have h3:ys[i - q]? =some e:=by
    rw [List.append_assoc,List.getElem?_append_right (by omega),htl,List.getElem?_append_left (by omega)] at hi
    exact hi
   obtain ⟨u,hu,hd⟩:=hn (i - q) j e x h3 hx
   have e1:i * sz=q * sz + (i - q) * sz:=by rw [←Nat.add_mul];congr 1;omega
   have e2:(i - q) * sz + j < news.length:=(List.getElem?_eq_some_iff.1 hu).1
   refine ⟨u,?_,hd⟩
   rw [hget,if_neg (by omega),if_pos (by omega)]
   have:i * sz + j - q * sz=(i - q) * sz + j:=by omega
   rw [this]
   exact hu
  ·have h3:es[i]? =some e:=by
    rw [List.getElem?_append_right (by rw [List.length_append,htl];omega),List.length_append,htl,List.getElem?_drop] at hi
    have:q + ys.length + (i - (q + ys.length))=i:=by omega
    rw [this] at hi
    exact hi
   obtain ⟨u,hu,hd⟩:=hr i j e x h3 hx
   refine ⟨u,?_,hle.relD hd⟩
   have e1:(q + ys.length) * sz≤i * sz:=Nat.mul_le_mul_right _ (by omega)
   rw [Nat.add_mul] at e1
   rw [hget,if_neg (by omega),if_neg (by omega)]
   exact hu
section
variable {P : Program} {T : Nat → TI} {base : Nat} {F : FuncId → List AV → AV → Prop} {w0 : Start} {A : Nat → Prop} {m m' : Mem} {κ : Cx} {a : Act} {env : Nat → Option AV} {v : AV} {o : Oper} {Q : Exit → Act → World → Prop}
theorem zero_get (z:Array Value) (n p:Nat) (h:p < n * z.size):(Builtin.zeroCells z n).toList[p]? =some (z[p % z.size]!):=by
 simp [Builtin.zeroCells,h]
theorem datasZ_one:∀(cs:List AV) (ds:List D),datasZ cs=some ds→cs.all isOne=true:=by
 intro cs
 induction cs with
 | nil=> intro _ _;rfl
 | cons c cs ih=>
  intro ds hds
  cases c with
  | d y=>
   simp only [datasZ] at hds
   cases hq:datasZ cs with
   | none=> rw [hq] at hds;cases hds
   | some l=> simp [isOne,ih l hq]
  | nl=>
   simp only [datasZ] at hds
   cases hq:datasZ cs with
   | none=> rw [hq] at hds;cases hds
   | some l=> simp [isOne,ih l hq]
  | _=> cases hds
theorem sim_clear (hT:TOk P T) (hs:Sim w0 A m κ) (he:EnvOk κ env a.tmps) {x:Operand} {t e z:Nat} (ho:o.op= .call {callee:= .builtin .clear,args:= #[x],argTypes:= #[t]}) (hk:(T t).k= .slice e z) (h:(clearF (T e) (rhoOf env x)).Runs F m v m'):
  o.wp P a κ.w (fun a' w'=> After w0 A κ o v m' a a' w') Q:=by
 unfold clearF at h
 cases hb:((T e).known && Nat.blt 0 (T e).size)
 ·rw [hb] at h;cases h
 ·rw [hb] at h
  simp only [Bool.and_eq_true] at hb
  obtain ⟨hkn,hpos⟩:=hb
  have hpos:0 < (T e).size:=Nat.lt_of_succ_le (Nat.le_of_ble_eq_true hpos)
  have ht:=hT e hkn
  obtain ⟨it,hit,hsz,hby,hz⟩:=ht.info
  obtain ⟨dd,hu,hd,_⟩:=hT.kok hk (by simp)
  have hd:dd=_:=hd
  subst hd
  generalize hx:rhoOf env x=xa at h
  generalize hzd:zeroD (T e)=za at h
  simp only [cond_true] at h
  have fin:∀(s g q n:Nat) (zd:List D) (es:List (List D)) (y:Value),zeroD (T e)=some zd→m.at_ s g=some (.rows (T e).size es false)→a.eval x=y→v= .tup []→m'=m.set s g (some (.rows (T e).size (es.take q ++ List.replicate n zd ++ es.drop (q + n)) false))→q + n≤es.length→
    ((n=0∧∃A' c,y= .slice A' 0 c)∨∃b c,(κ.φ s g).blk=some b∧y= .slice (some ⟨b,q * (T e).size,none⟩) n c)→o.wp P a κ.w (fun a' w'=> After w0 A κ o v m' a a' w') Q:=by
   rintro s g q n zd es y hzd' hi hy rfl rfl hqn hcase
   have hrun:∀(w':World),(Builtin.clear_ #[t] o.type #[a.eval x]).run P κ.w= .ok (.tuple #[]) w'→After w0 A κ o (.tup []) (m.set s g (some (.rows (T e).size (es.take q ++ List.replicate n zd ++ es.drop (q + n)) false))) a (a.put o.dst (.tuple #[])) w'→o.wp P a κ.w (fun a' w'=> After w0 A κ o (.tup []) (m.set s g (some (.rows (T e).size (es.take q ++ List.replicate n zd ++ es.drop (q + n)) false))) a a' w') Q:=by
    intro w' hr hK
    refine wp_val ?_ hK
    unfold execOp
    rw [ho]
    simp only [resolve,List.map_toArray,List.map_cons,List.map_nil,Sem.run_bind,Sem.run_pure,Result.andThen_ok,invoke,builtin,hr]
   obtain ⟨hlen,hes,h3⟩:=hs.ok s g _ hi
   have htup:∀κ':Cx,Rel κ' (.tup []) (.tuple #[]):=fun κ'=> .tup rfl fun j c u hc=> by simp at hc
   by_cases hn0:n=0
   ·subst hn0
    have hsame:es.take q ++ List.replicate 0 zd ++ es.drop (q + 0)=es:=by simp
    have hclr:(Builtin.clear_ #[t] o.type #[a.eval x]).run P κ.w= .ok (.tuple #[]) κ.w:=by
     rw [hy]
     rcases hcase with ⟨_,A',c,rfl⟩ | ⟨b,c,_,rfl⟩
     ·cases A' <;> simp [Builtin.clear_,run_underlying hu]
     ·simp [Builtin.clear_,run_underlying hu]
    refine hrun _ hclr ?_
    rw [hsame]
    have:=hs.set (i':= .rows (T e).size es false) (w':=κ.w) hi rfl rfl (Nat.le_refl _) rfl rfl rfl rfl (fun _ _=> rfl) (fun hle=> (hs.ok s g _ hi).mono hle fun b hb=> rfl)
    exact ⟨_,rfl,this.1,this.2,_,rfl,htup _⟩
   ·rcases hcase with ⟨h0,_⟩ | ⟨b,c,hb,rfl⟩
    ·exact absurd h0 hn0
    ·rcases h3 with ⟨h4,_⟩ | ⟨b',tt,cur,hb',hzz,hh,hlc,hcm,hcs,hra⟩
     ·rw [h4] at hb;cases hb
     ·rw [hb] at hb'
      injection hb' with hb'
      subst hb'
      have hzr:=(ofConst_rel κ _ ht.zok).unk
      obtain ⟨hzc,_⟩:=hzr.cells (datasZ_one _ _ hzd')
      obtain ⟨hzl,hzg⟩:=datasZ_get hzd' hzc
      have hsize:(T e).zero.cells.size=(T e).size:=ht.zsz
      have hzsz:zd.length=(T e).size:=by rw [hzl,Array.length_toList,hsize]
      have hnl:(Builtin.zeroCells (T e).zero.cells n).toList.length=n * (T e).size:=by rw [Array.length_toList,size_zeroCells,hsize]
      have hmod:∀p,p < n * (T e).size→∃x,zd[p % (T e).size]? =some x∧∃u,(Builtin.zeroCells (T e).zero.cells n).toList[p]? =some u∧RelD κ.S κ.w x u:=by
       intro p hp
       have hlt:p % (T e).size < (T e).size:=Nat.mod_lt _ hpos
       have hjz:p % (T e).size < (T e).zero.cells.size:=by rw [hsize];exact hlt
       have hx:zd[p % (T e).size]? =some (zd[p % (T e).size]'(by rw [hzsz];exact hlt)):=List.getElem?_eq_getElem _
       refine ⟨_,hx,(T e).zero.cells[p % (T e).size],?_,hzg _ _ _ hx (by simp [hjz])⟩
       rw [zero_get _ _ _ (by rw [hsize];exact hp),hsize,getElem!_pos (T e).zero.cells _ hjz]
      have hzone:∀u∈(Builtin.zeroCells (T e).zero.cells n).toList,u.oneCell'=true:=by
       intro u hu'
       obtain ⟨p,hp⟩:=List.mem_iff_getElem?.1 hu'
       have hlt:p < n * (T e).size:=by rw [←hnl];exact (List.getElem?_eq_some_iff.1 hp).1
       obtain ⟨x,_,u',h1,h2⟩:=hmod p hlt
       rw [hp] at h1
       injection h1 with h1
       rw [h1]
       exact h2.one
      have hcur:es.length * (T e).size≤cur.size:=by rw [hcs];exact Nat.mul_le_mul_right _ (by omega)
      have hov:∀κ':Cx,κ.Le κ'→(q * (T e).size + (Builtin.zeroCells (T e).zero.cells n).toList.length≤cur.toList.length)∧RowAt κ' (over cur.toList (q * (T e).size) (Builtin.zeroCells (T e).zero.cells n).toList).toArray (T e).size (es.take q ++ List.replicate n zd ++ es.drop (q + n)):=by
       intro κ' hle
       have:=rowat_over hle (q:=q) (ys:=List.replicate n zd) (news:=(Builtin.zeroCells (T e).zero.cells n).toList) hcur hra hes (fun e' he'=> by rw [List.eq_of_mem_replicate he'];exact hzsz) (by simpa using hqn) (by rw [hnl];simp) (fun i j e' x' hi' hx'=> by
        rw [List.getElem?_replicate] at hi'
        split at hi'
        ·rename_i hin
         injection hi' with hi'
         subst hi'
         have hj:j < (T e).size:=by rw [←hzsz];exact (List.getElem?_eq_some_iff.1 hx').1
         have hlt:i * (T e).size + j < n * (T e).size:=by
          have:(i + 1) * (T e).size≤n * (T e).size:=Nat.mul_le_mul_right _ (by omega)
          rw [Nat.add_mul] at this
          omega
         obtain ⟨x,k1,u,k2,k3⟩:=hmod _ hlt
         have hmd:(i * (T e).size + j) % (T e).size=j:=by rw [Nat.add_comm,Nat.add_mul_mod_self_right,Nat.mod_eq_of_lt hj]
         rw [hmd,hx'] at k1
         injection k1 with k1
         subst k1
         exact ⟨u,k2,hle.relD k3⟩
        ·cases hi')
       simpa using this
      have hfit:=(hov κ (.refl κ)).1
      have hst:=run_storeCells_at P b (q * (T e).size) tt (Builtin.zeroCells (T e).zero.cells n).toList 0 cur κ.w hh (by simpa using hfit) hzone
      simp only [Nat.add_zero] at hst
      have hclr:(Builtin.clear_ #[t] o.type #[a.eval x]).run P κ.w= .ok (.tuple #[]) (κ.w.setRow b (over cur.toList (q * (T e).size) (Builtin.zeroCells (T e).zero.cells n).toList).toArray):=by
       rw [hy]
       obtain ⟨k,rfl⟩:∃k,n=k + 1:=⟨n - 1,by omega⟩
       simp only [Array.length_toList] at hst
       simp [Builtin.clear_,run_underlying hu,typeInfo,zeroValue,hit,hz,hst,over]
      refine hrun _ hclr ?_
      have:=hs.set (i':= .rows (T e).size (es.take q ++ List.replicate n zd ++ es.drop (q + n)) false) (w':=κ.w.setRow b (over cur.toList (q * (T e).size) (Builtin.zeroCells (T e).zero.cells n).toList).toArray) hi rfl rfl (Nat.le_refl _) rfl rfl rfl (setRow_size _ _ _)
       (fun k' hk'=> by
        rw [setRow_other]
        rintro rfl
        exact hk' hb)
       (fun hle=> ⟨by simp;omega,fun e' he'=> by
         rcases List.mem_append.1 he' with h | h
         ·rcases List.mem_append.1 h with h | h
          ·exact hes e' (List.mem_of_mem_take h)
          ·rw [List.eq_of_mem_replicate h];exact hzsz
         ·exact hes e' (List.mem_of_mem_drop h),
        Or.inr ⟨_,tt,_,hb,hzz,setRow_heap _ _ cur _ tt _ hh,hlc,hcm,by
         rw [List.size_toArray,over_length _ _ _ hfit]
         simpa using hcs,(hov _ hle).2⟩⟩)
      exact ⟨_,rfl,this.1,this.2,_,rfl,htup _⟩
  split at h
  ·rename_i s g n zd
   cases h with
   | rww hi h=>
    rename_i sz es
    dsimp only at h
    cases hbe:Nat.beq sz (T e).size
    ·rw [hbe] at h;cases h
    ·rw [hbe] at h
     have hbe:=Nat.eq_of_beq_eq_true hbe
     subst hbe
     cases h with
     | wr h=>
      obtain ⟨rfl,rfl⟩:=ret_inv h
      obtain ⟨hlen,_,h3⟩:=hs.ok s g _ hi
      have hr:=ev_rel he hx
      generalize hyx:a.eval x=yx at hr
      cases hr with
      | row0 A' hg hb hl=> exact fin s g 0 0 zd es _ hzd hi hyx rfl (by simp [List.eq_nil_of_length_eq_zero (hlen.trans hl)]) (Nat.zero_le _) (Or.inl ⟨rfl,_,_,rfl⟩)
      | row hg hb=>
       have e1:m.set s g (some (.rows (T e).size (List.replicate (κ.φ s g).len zd) false))=m.set s g (some (.rows (T e).size (es.take 0 ++ List.replicate (κ.φ s g).len zd ++ es.drop (0 + (κ.φ s g).len)) false)):=by rw [←hlen];simp
       exact fin s g 0 (κ.φ s g).len zd es _ hzd hi hyx rfl e1 (by omega) (Or.inr ⟨_,(κ.φ s g).cap,hb,by rw [Nat.zero_mul]⟩)
  ·rename_i s g q n zd
   cases h with
   | rww hi h=>
    rename_i sz es
    dsimp only at h
    cases hbe:Nat.beq sz (T e).size
    ·rw [hbe] at h;cases h
    ·rw [hbe] at h
     have hbe:=Nat.eq_of_beq_eq_true hbe
     subst hbe
     cases h with
     | wr h=>
      obtain ⟨rfl,rfl⟩:=ret_inv h
      obtain ⟨hlen,_,h3⟩:=hs.ok s g _ hi
      have hr:=ev_rel he hx
      generalize hyx:a.eval x=yx at hr
      cases hr with
      | sub0 A' hg hb hl=> exact fin s g 0 0 zd es _ hzd hi hyx rfl rfl (Nat.zero_le _) (Or.inl ⟨rfl,_,_,rfl⟩)
      | sub A' hg hb hA hn=>
       rcases h3 with ⟨h4,_⟩ | ⟨b',tt,cur,hb',hzz,_⟩
       ·rw [h4] at hb;cases hb
       ·refine fin s g q n zd es _ hzd hi hyx rfl rfl (by omega) ?_
        rcases hA with ⟨rfl,hA⟩ | rfl
        ·exact Or.inl ⟨rfl,_,_,rfl⟩
        ·exact Or.inr ⟨_,_,hb,by rw [hzz]⟩
  ·cases h
end
end Go.Proofs.YtmgcnoigihdhpaaGreatDoor
namespace Go.Proofs.YtmgcnoigihdhpaaGreatDoor
open Go.RowKit
section
variable {F : FuncId → List AV → AV → Prop} {w0 : Start} {A : Nat → Prop} {m m' : Mem} {κ κ' : Cx} {v : AV}
theorem Sim.many (h:Sim w0 A m κ) {w':World} {B:Nat→Prop} (hb:BelowX w0.dr B κ.w w') {l:Nat→Nat→Prop} (hl:∀s g,l s g→∃i,m.at_ s g=some i∧i.rw_=true) (hB:∀c,B c→∃s g,l s g∧(κ.φ s g).blk=some c)
  {S':Nat→Prop} (h1:∀c,κ.S c→S' c) (h2:∀c,S' c→κ.S c∨(κ.w.heap.size≤c∧c < w'.heap.size)) {m1:Mem} (hg:m1.gen=m.gen) (hm1:∀s g,¬l s g→m1.at_ s g=m.at_ s g)
  (hm2:κ.Le {κ with w:=w',S:=S'}→∀s g,l s g→∃i,m1.at_ s g=some i∧i.rw_=true∧InstOk {κ with w:=w',S:=S'} (κ.φ s g) i):Sim w0 A m1 {κ with w:=w',S:=S'}∧κ.Le {κ with w:=w',S:=S'}:=by
 have hz:=h.below.size
 have nS:∀c,B c→¬κ.S c:=fun c hc hS=> by
  obtain ⟨s,g,hsg,hbk⟩:=hB c hc
  obtain ⟨i,hi,hrw⟩:=hl s g hsg
  exact h.notS s g i c hi hbk hrw hS
 have hle:κ.Le {κ with w:=w',S:=S'}:=⟨fun _=> Nat.le_refl _,fun _ _ _=> rfl,h1,fun c hS=> hb.block c (h.st c hS).1 fun e=> nS c e hS⟩
 have hm2:=hm2 hle
 have hbel:BelowX w0.dr w0.o w0.w w':=h.below.step hb.os hb.tape hb.output hb.size hb.drawn fun k hk hne=> hb.block k (by omega) fun e=> by
  obtain ⟨s,g,hsg,hbk⟩:=hB k e
  obtain ⟨i,hi,hrw⟩:=hl s g hsg
  rcases (h.own s g i k hi hbk).1 with h3 | h3
  ·omega
  ·exact hne h3
 have old:∀s g i,m1.at_ s g=some i→∃i0,m.at_ s g=some i0∧((l s g∧i0.rw_=true∧i.rw_=true∧InstOk {κ with w:=w',S:=S'} (κ.φ s g) i)∨(¬l s g∧i0=i)):=by
  intro s g i hi
  by_cases hsg:l s g
  ·obtain ⟨i0,q1,q2⟩:=hl s g hsg
   obtain ⟨i',q3,q4,q5⟩:=hm2 s g hsg
   rw [hi] at q3
   injection q3 with q3
   subst q3
   exact ⟨i0,q1,Or.inl ⟨hsg,q2,q4,q5⟩⟩
  ·rw [hm1 s g hsg] at hi
   exact ⟨i,hi,Or.inr ⟨hsg,rfl⟩⟩
 refine ⟨⟨hbel,h.gn.trans hg.symm,?_,?_,?_,?_,?_,?_,?_,fun b hA=> h1 b (h.args b hA),h.pin⟩,hle⟩
 ·intro s g i hi
  obtain ⟨i0,q1,⟨_,_,_,q2⟩ | ⟨q2,rfl⟩⟩:=old s g i hi
  ·exact q2
  ·refine (h.ok s g i0 q1).mono hle fun c hc=> hb.block c (h.own s g i0 c q1 hc).2 fun e=> ?_
   obtain ⟨s',g',hsg,hbk⟩:=hB c e
   obtain ⟨i',hi',hrw⟩:=hl s' g' hsg
   have:=h.sep s' g' i' s g i0 c hi' q1 hbk hc hrw
   rw [this.1,this.2] at hsg
   exact q2 hsg
 ·intro s g i hi
  obtain ⟨i0,q1,_⟩:=old s g i hi
  rw [hg]
  exact h.gens s g i0 q1
 ·intro s g i b hi hbk
  obtain ⟨i0,q1,_⟩:=old s g i hi
  have:=h.own s g i0 b q1 hbk
  exact ⟨this.1,Nat.lt_of_lt_of_le this.2 hb.size⟩
 ·intro s g i b hi hbk hrw hS
  obtain ⟨i0,q1,q2⟩:=old s g i hi
  have hrw0:i0.rw_=true:=by
   rcases q2 with ⟨_,q2,_⟩ | ⟨_,rfl⟩
   ·exact q2
   ·exact hrw
  rcases h2 b hS with hS | hS
  ·exact h.notS s g i0 b q1 hbk hrw0 hS
  ·have:=(h.own s g i0 b q1 hbk).2
   omega
 ·intro s g i b hi hbk hrw
  obtain ⟨i0,q1,⟨_,_,q2,_⟩ | ⟨_,rfl⟩⟩:=old s g i hi
  ·rw [q2] at hrw;cases hrw
  ·exact h1 b (h.isS s g i0 b q1 hbk hrw)
 ·intro s g i s' g' i' b hi hi' hb1 hb2 hrw
  obtain ⟨i0,q1,q2⟩:=old s g i hi
  obtain ⟨i0',q1',_⟩:=old s' g' i' hi'
  refine h.sep s g i0 s' g' i0' b q1 q1' hb1 hb2 ?_
  rcases q2 with ⟨_,q2,_⟩ | ⟨_,rfl⟩
  ·exact q2
  ·exact hrw
 ·intro b hS
  rcases h2 b hS with hS | hS
  ·have:=h.st b hS
   exact ⟨Nat.lt_of_lt_of_le this.1 hb.size,this.2⟩
  ·exact ⟨hS.2,Or.inr (Or.inl (by omega))⟩
def NameR (L:List (Nat×Nat)):AV→AV→Prop
 | .d x,c=> c= .d x
 | .mp s g,c=> ∃i,c= .mp (1000001 + i) 1∧L[i]? =some (s,g)
 | .lp s g o,c=> ∃i,c= .lp (1000001 + i) 1 o∧L[i]? =some (s,g)
 | _,_=> False
structure Nm (κ κc:Cx) (L:List (Nat×Nat)):Prop where
 φ:∀(i:Nat) (p:Nat×Nat),L[i]? =some p→κc.φ (1000001 + i) 1=κ.φ p.1 p.2
 gc:∀(i:Nat) (p:Nat×Nat),L[i]? =some p→1≤κc.gn (1000001 + i)
 g:∀(i:Nat) (p:Nat×Nat),L[i]? =some p→p.2≤κ.gn p.1
theorem NameR.to {L:List (Nat×Nat)} {κc:Cx} (hn:Nm κ κc L) (hS:∀b,κ.S b→κc.S b) (hw:κc.w=κ.w) {a c:AV} (h:NameR L a c) {x:Value} (hr:Rel κ a x):Rel κc c x:=by
 cases a with
 | d y=>
  subst h
  cases hr with
  | d hd=> exact .d (hd.mono hS fun b _=> by rw [hw])
 | mp s g=>
  obtain ⟨i,rfl,hi⟩:=h
  cases hr with
  | mp hg hb=> exact .mp (hn.gc i _ hi) (by rw [hn.φ i _ hi];exact hb)
 | lp s g o=>
  obtain ⟨i,rfl,hi⟩:=h
  cases hr with
  | lp hg hb=> exact .lp (hn.gc i _ hi) (by rw [hn.φ i _ hi];exact hb)
 | _=> exact h.elim
theorem NameR.of {L:List (Nat×Nat)} {κc:Cx} (hn:Nm κ κc L) (hS:∀b,κc.S b→κ.S b) (hw:κc.w=κ.w) {a c:AV} (h:NameR L a c) {x:Value} (hr:Rel κc c x):Rel κ a x:=by
 cases a with
 | d y=>
  subst h
  cases hr with
  | d hd=> exact .d (hd.mono hS fun b _=> by rw [hw])
 | mp s g=>
  obtain ⟨i,rfl,hi⟩:=h
  cases hr with
  | mp hg hb=> exact .mp (hn.g i _ hi) (by rw [←hn.φ i _ hi];exact hb)
 | lp s g o=>
  obtain ⟨i,rfl,hi⟩:=h
  cases hr with
  | lp hg hb=> exact .lp (hn.g i _ hi) (by rw [←hn.φ i _ hi];exact hb)
 | _=> exact h.elim
def InstN (L:List (Nat×Nat)):Inst→Inst→Prop
 | .box cs,.box ds=> cs.length=ds.length∧∀(j:Nat) (c d:AV),cs[j]? =some c→ds[j]? =some d→NameR L c d
 | .mapi ck es,i=> i= .mapi ck es
 | _,_=> False
theorem InstN.to {L:List (Nat×Nat)} {κc:Cx} (hn:Nm κ κc L) (hS:∀b,κ.S b→κc.S b) (hw:κc.w=κ.w) {a c:Inst} (h:InstN L a c) {l:Loc} (hi:InstOk κ l a):InstOk κc l c:=by
 cases a with
 | box cs=>
  cases c with
  | box ds=>
   obtain ⟨b,T,vs,hb,hh,hs,hr⟩:=hi
   refine ⟨b,T,vs,hb,by rw [hw];exact hh,hs.trans h.1,fun j d u hd hu=> ?_⟩
   have hlt:j < cs.length:=by rw [h.1];exact (List.getElem?_eq_some_iff.1 hd).1
   obtain ⟨q1,q2⟩:=hr j _ u (List.getElem?_eq_getElem hlt) hu
   exact ⟨(h.2 j _ d (List.getElem?_eq_getElem hlt) hd).to hn hS hw q1,q2⟩
  | _=> exact h.elim
 | mapi ck es=>
  have h:c= .mapi ck es:=h
  subst h
  obtain ⟨b,ents,clock,hb,hh,hm,hst⟩:=hi
  exact ⟨b,ents,clock,hb,by rw [hw];exact hh,⟨hm.1,fun j p e hp he=> ⟨(hm.2 j p e hp he).1,(hm.2 j p e hp he).2.1.mono hS (fun b _=> by rw [hw]),(hm.2 j p e hp he).2.2⟩⟩,hst⟩
 | rows=> exact h.elim
theorem InstN.of {L:List (Nat×Nat)} {κc:Cx} (hn:Nm κ κc L) (hS:∀b,κc.S b→κ.S b) (hw:κc.w=κ.w) {a c:Inst} (h:InstN L a c) {l:Loc} (hi:InstOk κc l c):InstOk κ l a:=by
 cases a with
 | box cs=>
  cases c with
  | box ds=>
   obtain ⟨b,T,vs,hb,hh,hs,hr⟩:=hi
   refine ⟨b,T,vs,hb,by rw [←hw];exact hh,hs.trans h.1.symm,fun j d u hd hu=> ?_⟩
   have hlt:j < ds.length:=by rw [←h.1];exact (List.getElem?_eq_some_iff.1 hd).1
   obtain ⟨q1,q2⟩:=hr j _ u (List.getElem?_eq_getElem hlt) hu
   exact ⟨(h.2 j d _ hd (List.getElem?_eq_getElem hlt)).of hn hS hw q1,q2⟩
  | _=> exact h.elim
 | mapi ck es=>
  have h:c= .mapi ck es:=h
  subst h
  obtain ⟨b,ents,clock,hb,hh,hm,hst⟩:=hi
  exact ⟨b,ents,clock,hb,by rw [←hw];exact hh,⟨hm.1,fun j p e hp he=> ⟨(hm.2 j p e hp he).1,(hm.2 j p e hp he).2.1.mono hS (fun b _=> by rw [hw]),(hm.2 j p e hp he).2.2⟩⟩,hst⟩
 | rows=> exact h.elim
theorem ofC_name {L:List (Nat×Nat)} {c a:AV} (h:ofC L c=some a):NameR L a c:=by
 have nm:∀{s g:Nat},(Nat.beq g 1 && Nat.ble 1000001 s)=true→g=1∧s=1000001 + (s - 1000001):=fun h=> by
  rw [Bool.and_eq_true] at h
  have:=Nat.le_of_ble_eq_true h.2
  exact ⟨Nat.eq_of_beq_eq_true h.1,by omega⟩
 unfold ofC at h
 split at h
 ·rename_i s g o
  cases hs:(Nat.beq g 1 && Nat.ble 1000001 s)
  ·rw [hs] at h;cases h
  ·rw [hs] at h
   obtain ⟨rfl,e⟩:=nm hs
   cases hq:L[s - 1000001]? with
   | none=> rw [hq] at h;cases h
   | some p=>
    rw [hq] at h
    injection h with h
    subst h
    exact ⟨s - 1000001,by rw [←e],hq⟩
 ·rename_i s g
  cases hs:(Nat.beq g 1 && Nat.ble 1000001 s)
  ·rw [hs] at h;cases h
  ·rw [hs] at h
   obtain ⟨rfl,e⟩:=nm hs
   cases hq:L[s - 1000001]? with
   | none=> rw [hq] at h;cases h
   | some p=>
    rw [hq] at h
    injection h with h
    subst h
    exact ⟨s - 1000001,by rw [←e],hq⟩
 ·injection h with h
  subst h
  rfl
 ·cases h
theorem ofCL_name {L:List (Nat×Nat)}:∀{ds cs:List AV},ofCL L ds=some cs→cs.length=ds.length∧∀(j:Nat) (c d:AV),cs[j]? =some c→ds[j]? =some d→NameR L c d
 | [],cs,h=> by
  injection h with h
  subst h
  exact ⟨rfl,fun j c d hc=> by simp at hc⟩
 | d::ds,cs,h=> by
  unfold ofCL at h
  split at h
  ·rename_i c cs' h1 h2
   injection h with h
   subst h
   obtain ⟨q1,q2⟩:=ofCL_name h2
   refine ⟨by simp [q1],fun j c d hc hd=> ?_⟩
   cases j with
   | zero=>
    simp at hc hd
    subst hc hd
    exact ofC_name h1
   | succ j=> exact q2 j c d (by simpa using hc) (by simpa using hd)
  ·cases h
theorem instO_name {L:List (Nat×Nat)} {a:AV} {i:Inst} (h:instO L a=some i):∃inst,instC a=some inst∧InstN L i inst∧i.rw_=true:=by
 unfold instO at h
 split at h
 ·rename_i cs
  cases hq:ofCL L cs with
  | none=> rw [hq] at h;cases h
  | some ds=>
   rw [hq] at h
   injection h with h
   subst h
   exact ⟨_,rfl,ofCL_name hq,rfl⟩
 ·injection h with h
  subst h
  exact ⟨_,rfl,rfl,rfl⟩
 ·cases h
def ObjR (m:Mem) (L:List (Nat×Nat)) (p:Nat×Nat) (a:AV):Prop:=∃i0 inst,m.at_ p.1 p.2=some i0∧i0.rw_=true∧instC a=some inst∧InstN L i0 inst
def ObjsR (m:Mem) (L l:List (Nat×Nat)) (is:List AV):Prop:=l.length=is.length∧∀(i:Nat) (p:Nat×Nat) (a:AV),l[i]? =some p→is[i]? =some a→ObjR m L p a
theorem ObjsR.nil {L:List (Nat×Nat)}:ObjsR m L [] []:=⟨rfl,fun i p a h=> by simp at h⟩
theorem ObjsR.cons {L l:List (Nat×Nat)} {is:List AV} {p:Nat×Nat} {a:AV} (h:ObjR m L p a) (k:ObjsR m L l is):ObjsR m L (p::l) (a::is):=⟨by simp [k.1],fun i q b hq hb=> by
 cases i with
 | zero=>
  simp at hq hb
  subst hq hb
  exact h
 | succ i=> exact k.2 i q b (by simpa using hq) (by simpa using hb)⟩
theorem ObjsR.append {L l l':List (Nat×Nat)} {is is':List AV} (h:ObjsR m L l is) (k:ObjsR m L l' is'):ObjsR m L (l ++ l') (is ++ is'):=⟨by simp [h.1,k.1],fun i p a hp ha=> by
 rw [List.getElem?_append] at hp ha
 split at hp
 ·rename_i hlt
  rw [if_pos (by rw [←h.1];exact hlt)] at ha
  exact h.2 i p a hp ha
 ·rename_i hge
  rw [if_neg (by rw [←h.1];exact hge),←h.1] at ha
  exact k.2 _ p a hp ha⟩
theorem objC_runs:∀(cs:List AV) (n:Nat) (k:List AV→List (Nat×Nat)→List AV→Step),(objC cs n k).Runs F m v m'→
  ∃cs' l is,(k cs' l is).Runs F m v m'∧cs.length=cs'.length∧∀pre post:List (Nat×Nat),pre.length=n→(∀(j:Nat) (c d:AV),cs[j]? =some c→cs'[j]? =some d→NameR (pre ++ l ++ post) c d)∧ObjsR m (pre ++ l ++ post) l is
 | [],n,k,h=> ⟨[],[],[],h,rfl,fun pre post _=> ⟨fun j c d hc=> by simp at hc,.nil⟩⟩
 | c::cs,n,k,h=> by
  have consN:∀{L:List (Nat×Nat)} {c d:AV} {cs ds:List AV},NameR L c d→(∀(j:Nat) (c d:AV),cs[j]? =some c→ds[j]? =some d→NameR L c d)→∀(j:Nat) (a b:AV),(c::cs)[j]? =some a→(d::ds)[j]? =some b→NameR L a b:=by
   intro L c d cs ds h1 h2 j a b ha hb
   cases j with
   | zero=>
    simp at ha hb
    subst ha hb
    exact h1
   | succ j=> exact h2 j a b (by simpa using ha) (by simpa using hb)
  cases c with
  | d x=>
   obtain ⟨cs',l,is,g1,g2,g3⟩:=objC_runs cs n _ h
   exact ⟨_,_,_,g1,by simp [g2],fun pre post hp=> ⟨consN rfl (g3 pre post hp).1,(g3 pre post hp).2⟩⟩
  | mp s g=>
   cases h with
   | rdm hi h=>
    obtain ⟨cs',l,is,g1,g2,g3⟩:=objC_runs cs (n + 1) _ h
    refine ⟨_,_,_,g1,by simp [g2],fun pre post hp=> ?_⟩
    have:=g3 (pre ++ [(s,g)]) post (by simp [hp])
    have e:pre ++ [(s,g)] ++ l ++ post=pre ++ ((s,g)::l) ++ post:=by simp
    rw [e] at this
    refine ⟨consN ⟨n,rfl,by rw [List.append_assoc,List.getElem?_append_right (by omega)];simp [hp]⟩ this.1,.cons ⟨_,_,hi,rfl,rfl,rfl⟩ this.2⟩
  | _=> cases h
def ArgN (L:List (Nat×Nat)) (a c:AV):Prop:=NameR L a c∨(datA a=true∧c=a)
theorem dat_same {κ κc:Cx} (hS:∀b,κ.S b→κc.S b) (hw:κc.w=κ.w) {a:AV} (ha:datA a=true) {x:Value} (hr:Rel κ a x):Rel κc a x:=by
 cases a with
 | d y=>
  cases hr with
  | d hd=> exact .d (hd.mono hS fun b _=> by rw [hw])
 | fp cs=>
  cases hr with
  | fp vs hb hc hr=> exact .fp vs (hS _ hb) (fun j hj=> by rw [hw];exact hc j hj) fun j x hx=> (hr j x hx).mono hS fun b _=> by rw [hw]
 | agg cs=>
  cases hr with
  | agg hl h=>
   refine .agg hl fun j c u hc hu=> ?_
   have h1:=h j c u hc hu
   have h2:=List.all_eq_true.1 ha c (List.mem_of_getElem? hc)
   cases c with
   | d y=>
    cases h1 with
    | d hd=> exact .d (hd.mono hS fun b _=> by rw [hw])
   | _=> cases h2
 | _=> cases ha
theorem ArgN.to {L:List (Nat×Nat)} {κc:Cx} (hn:Nm κ κc L) (hS:∀b,κ.S b→κc.S b) (hw:κc.w=κ.w) {a c:AV} (h:ArgN L a c) {x:Value} (hr:Rel κ a x):Rel κc c x:=by
 rcases h with h | ⟨h,rfl⟩
 ·exact h.to hn hS hw hr
 ·exact dat_same hS hw h hr
theorem objL_runs:∀(ys:List AV) (n:Nat) (k:List AV→List (Nat×Nat)→List AV→Step),(objL ys n k).Runs F m v m'→
  ∃zs l is,(k zs l is).Runs F m v m'∧ys.length=zs.length∧∀pre:List (Nat×Nat),pre.length=n→∀post:List (Nat×Nat),(∀(j:Nat) (c d:AV),ys[j]? =some c→zs[j]? =some d→ArgN (pre ++ l ++ post) c d)∧ObjsR m (pre ++ l ++ post) l is
 | [],n,k,h=> ⟨[],[],[],h,rfl,fun pre _ post=> ⟨fun j c d hc=> by simp at hc,.nil⟩⟩
 | y::ys,n,k,h=> by
  have consN:∀{L:List (Nat×Nat)} {c d:AV} {cs ds:List AV},ArgN L c d→(∀(j:Nat) (c d:AV),cs[j]? =some c→ds[j]? =some d→ArgN L c d)→∀(j:Nat) (a b:AV),(c::cs)[j]? =some a→(d::ds)[j]? =some b→ArgN L a b:=by
   intro L c d cs ds h1 h2 j a b ha hb
   cases j with
   | zero=>
    simp at ha hb
    subst ha hb
    exact h1
   | succ j=> exact h2 j a b (by simpa using ha) (by simpa using hb)
  have dat:(bif datA y then objL ys n fun zs l' is'=> k (y::zs) l' is' else .fail:Step).Runs F m v m'→∃zs l is,(k zs l is).Runs F m v m'∧(y::ys).length=zs.length∧∀pre:List (Nat×Nat),pre.length=n→∀post:List (Nat×Nat),(∀(j:Nat) (c d:AV),(y::ys)[j]? =some c→zs[j]? =some d→ArgN (pre ++ l ++ post) c d)∧ObjsR m (pre ++ l ++ post) l is:=by
   intro h
   cases hd:datA y
   ·rw [hd] at h;cases h
   ·rw [hd] at h
    obtain ⟨zs,l,is,g1,g2,g3⟩:=objL_runs ys n _ h
    exact ⟨_,_,_,g1,by simp [g2],fun pre hp post=> ⟨consN (Or.inr ⟨hd,rfl⟩) (g3 pre hp post).1,(g3 pre hp post).2⟩⟩
  cases y with
  | lp s g o=>
   cases h with
   | rdb hi h=>
    obtain ⟨cs',l,is,g1,g2,g3⟩:=objC_runs _ (n + 1) _ h
    obtain ⟨zs,l',is',q1,q2,q3⟩:=objL_runs ys (n + 1 + l.length) _ g1
    refine ⟨_,_,_,q1,by simp [q2],fun pre hp post=> ?_⟩
    have h1:=g3 (pre ++ [(s,g)]) (l' ++ post) (by simp [hp])
    have h2:=q3 (pre ++ [(s,g)] ++ l) (by simp [hp];omega) post
    have e1:pre ++ [(s,g)] ++ l ++ (l' ++ post)=pre ++ ((s,g)::(l ++ l')) ++ post:=by simp
    have e2:pre ++ [(s,g)] ++ l ++ l' ++ post=pre ++ ((s,g)::(l ++ l')) ++ post:=by simp
    rw [e1] at h1
    rw [e2] at h2
    exact ⟨consN (Or.inl ⟨n,rfl,by rw [List.append_assoc,List.getElem?_append_right (by omega)];simp [hp]⟩) h2.1,.cons ⟨_,_,hi,rfl,rfl,g2,h1.1⟩ (h1.2.append h2.2)⟩
  | mp s g=>
   cases h with
   | rdm hi h=>
    obtain ⟨zs,l',is',q1,q2,q3⟩:=objL_runs ys (n + 1) _ h
    refine ⟨_,_,_,q1,by simp [q2],fun pre hp post=> ?_⟩
    have h2:=q3 (pre ++ [(s,g)]) (by simp [hp]) post
    have e2:pre ++ [(s,g)] ++ l' ++ post=pre ++ ((s,g)::l') ++ post:=by simp
    rw [e2] at h2
    exact ⟨consN (Or.inl ⟨n,rfl,by rw [List.append_assoc,List.getElem?_append_right (by omega)];simp [hp]⟩) h2.1,.cons ⟨_,_,hi,rfl,rfl,rfl⟩ h2.2⟩
  | _=> exact dat h
theorem argS1_runs {x:AV} {k:AV→Step} {u:Value} (hs:Sim w0 A m κ) (hu:Rel κ x u) (h:(argS1 x k).Runs F m v m'):
  ∃m1 κ1 y,Sim w0 A m1 κ1∧κ.Le κ1∧κ1.w=κ.w∧Rel κ1 y u∧(k y).Runs F m1 v m':=by
 have gen:(dataOf x fun d=> k (.d d)).Runs F m v m'→∃m1 κ1 y,Sim w0 A m1 κ1∧κ.Le κ1∧κ1.w=κ.w∧Rel κ1 y u∧(k y).Runs F m1 v m':=by
  intro h
  obtain ⟨m1,κ1,y,g1,g2,g3,g4,g5⟩:=dataOf_runs hs hu h
  exact ⟨m1,κ1,_,g1,g2,g3,.d g4,g5⟩
 cases x with
 | lp s g o=> exact ⟨m,κ,_,hs,.refl κ,rfl,hu,h⟩
 | mp s g=> exact ⟨m,κ,_,hs,.refl κ,rfl,hu,h⟩
 | fp cs=> exact ⟨m,κ,_,hs,.refl κ,rfl,hu,h⟩
 | agg cs=>
  obtain ⟨us,rfl,hus⟩:=hu.agg_inv
  obtain ⟨m1,κ1,ds,g1,g2,g3,⟨g4,g5⟩,g6⟩:=dataList_runs cs _ m κ us.toList v m' hs hus h
  refine ⟨m1,κ1,_,g1,g2,g3,.agg (by simp [g4]) fun j c u hc hu=> ?_,g6⟩
  rw [List.getElem?_map] at hc
  cases hq:ds[j]? with
  | none=> rw [hq] at hc;cases hc
  | some d=>
   rw [hq] at hc
   injection hc with hc
   subst hc
   exact .d (g5 j d u hq (by simpa using hu))
 | _=> exact gen h
theorem argS_runs:∀(xs:List (Option AV)) (k:List AV→Step) (m:Mem) (κ:Cx) (us:List Value),Sim w0 A m κ→us.length=xs.length→(∀(j:Nat) (c:AV) (u:Value),xs[j]? =some (some c)→us[j]? =some u→Rel κ c u)→(argS xs k).Runs F m v m'→
  ∃m1 κ1 ys,Sim w0 A m1 κ1∧κ.Le κ1∧κ1.w=κ.w∧RelL κ1 ys us∧(k ys).Runs F m1 v m'
 | [],k,m,κ,us,hs,hn,hr,h=> ⟨m,κ,[],hs,.refl κ,rfl,by rw [List.eq_nil_of_length_eq_zero hn];exact .nil _,h⟩
 | none::xs,k,m,κ,us,hs,hn,hr,h=> by cases h
 | some c::xs,k,m,κ,us,hs,hn,hr,h=> by
  cases us with
  | nil=> simp at hn
  | cons u us=>
   obtain ⟨m1,κ1,y,g1,g2,g3,g4,g5⟩:=argS1_runs hs (hr 0 c u rfl rfl) h
   obtain ⟨m2,κ2,ys,q1,q2,q3,q4,q5⟩:=argS_runs xs _ m1 κ1 us g1 (by simpa using hn) (fun j c u hc hu=> (hr (j + 1) c u (by simpa using hc) (by simpa using hu)).mono g2) g5
   exact ⟨m2,κ2,_,q1,g2.trans q2,q3.trans g3,.cons (g4.mono q2) q4,q5⟩
theorem boxD_runs:∀(cs:List AV) (k:List AV→Step) (m:Mem) (κ:Cx) (us:List Value),Sim w0 A m κ→RelL κ cs us→(boxD cs k).Runs F m v m'→
  ∃m1 κ1 cs',Sim w0 A m1 κ1∧κ.Le κ1∧κ1.w=κ.w∧κ1.φ=κ.φ∧RelL κ1 cs' us∧(∀s g cs,m.at_ s g=some (.box cs)→m1.at_ s g=some (.box cs))∧(k cs').Runs F m1 v m'
 | [],k,m,κ,us,hs,hr,h=> ⟨m,κ,[],hs,.refl κ,rfl,rfl,hr,fun _ _ _ h=> h,h⟩
 | c::cs,k,m,κ,us,hs,hr,h=> by
  obtain ⟨u,us',rfl,hx,hr'⟩:=hr.cons_inv
  have gen:(boxD cs fun cs=> k (c::cs)).Runs F m v m'→∃m1 κ1 cs',Sim w0 A m1 κ1∧κ.Le κ1∧κ1.w=κ.w∧κ1.φ=κ.φ∧RelL κ1 cs' (u::us')∧(∀s g cs,m.at_ s g=some (.box cs)→m1.at_ s g=some (.box cs))∧(k cs').Runs F m1 v m':=by
   intro h
   obtain ⟨m1,κ1,cs',g1,g2,g3,g4,g5,g6,g7⟩:=boxD_runs cs _ m κ us' hs hr' h
   exact ⟨m1,κ1,_,g1,g2,g3,g4,.cons (hx.mono g2) g5,g6,g7⟩
  cases c with
  | row s g n=>
   cases h with
   | rdr hi h=>
    cases h with
    | frz hi' h=>
     rw [hi] at hi'
     injection hi' with hi'
     injection hi' with q1 q2 q3
     subst q1 q2 q3
     obtain ⟨h1,h2⟩:=hs.frz hi
     obtain ⟨m1,κ1,cs',g1,g2,g3,g4,g5,g6,g7⟩:=boxD_runs cs _ _ _ us' h1 (hr'.mono h2) h
     refine ⟨m1,κ1,_,g1,h2.trans g2,g3,g4,.cons (.d (g2.relD (row_read hs hi hx h2.S (fun _ hb=> Or.inr hb)).1)) g5,fun x y ds hd=> g6 x y ds ?_,g7⟩
     rw [setAt,if_neg]
     ·exact hd
     ·rintro ⟨rfl,rfl⟩
      rw [hi] at hd
      cases hd
  | _=> exact gen h
theorem objP_runs:∀(xs:List (Option AV)) (k:Step) (m:Mem) (κ:Cx),Sim w0 A m κ→(objP xs k).Runs F m v m'→∃m1 κ1,Sim w0 A m1 κ1∧κ.Le κ1∧κ1.w=κ.w∧k.Runs F m1 v m'
 | [],k,m,κ,hs,h=> ⟨m,κ,hs,.refl κ,rfl,h⟩
 | x::xs,k,m,κ,hs,h=> by
  by_cases hx:∃s g o,x=some (.lp s g o)
  ·obtain ⟨s,g,o,rfl⟩:=hx
   cases h with
   | rdb hi h=>
    rename_i cs
    dsimp only at h
    cases hc:cs.any isRowA
    ·rw [hc] at h
     exact objP_runs xs k m κ hs h
    ·rw [hc] at h
     simp only [cond_true] at h
     obtain ⟨b,T,vs,hb,hh,hn,hr⟩:=hs.ok s g _ hi
     obtain ⟨m1,κ1,cs',g1,g2,g3,g4,g5,g6,g7⟩:=boxD_runs cs _ m κ vs.toList hs ⟨by simpa using hn,fun j c u hc hu=> (hr j c u hc (by simpa using hu)).1⟩ h
     cases g7 with
     | wr h=>
      have hlen:cs'.length=cs.length:=by
       have:=g5.1
       simp at this
       omega
      obtain ⟨t1,t2⟩:=g1.set (w':=κ1.w) (i':= .box cs') (g6 s g cs hi) rfl rfl (Nat.le_refl _) rfl rfl rfl rfl (fun _ _=> rfl) fun hle=> ⟨b,T,vs,by show (κ1.φ s g).blk=_;rw [g4];exact hb,by show κ1.w.heap[b]? =_;rw [g3];exact hh,by rw [hlen];exact hn,fun j c u hc hu=> ⟨(g5.2 j c u hc (by simpa using hu)).mono hle,by
       have hlt:j < cs.length:=by rw [←hlen];exact (List.getElem?_eq_some_iff.1 hc).1
       exact (hr j _ u (List.getElem?_eq_getElem hlt) hu).2⟩⟩
      obtain ⟨m2,κ2,q1,q2,q3,q4⟩:=objP_runs xs k _ _ t1 h
      exact ⟨m2,κ2,q1,g2.trans (t2.trans q2),q3.trans g3,q4⟩
  ·have h':(objP xs k).Runs F m v m':=by
    cases x with
    | none=> exact h
    | some c=> cases c <;> first | exact h | exact absurd ⟨_,_,_,rfl⟩ hx
   exact objP_runs xs k m κ hs h'
end
end Go.Proofs.YtmgcnoigihdhpaaGreatDoor
namespace Go.Proofs.YtmgcnoigihdhpaaGreatDoor
open Go.RowKit
theorem notIn_mem {l:List (Nat×Nat)} {s g:Nat} (h:notIn l s g=true):(s,g)∉l:=by
 intro hm
 have:=List.all_eq_true.1 h _ hm
 simp at this
theorem nodupL_spec:∀{l:List (Nat×Nat)},nodupL l=true→l.Nodup
 | [],_=> .nil
 | p::l,h=> by
  unfold nodupL at h
  rw [Bool.and_eq_true] at h
  exact List.nodup_cons.2 ⟨notIn_mem h.1,nodupL_spec h.2⟩
theorem mergeO_get:∀{is js:List AV},is.length≤js.length→(mergeO is js).length=js.length∧∀(i:Nat) (b:AV),js[i]? =some b→(mergeO is js)[i]? =some (match is[i]? with | some a=> bif isNlA b then a else b | none=> b)
 | [],js,_=> ⟨rfl,fun i b h=> by simp [mergeO,h]⟩
 | a::is,[],h=> by simp at h
 | a::is,b::js,h=> by
  obtain ⟨h1,h2⟩:=mergeO_get (is:=is) (js:=js) (by simpa using h)
  refine ⟨by simp [mergeO,h1],fun i c hc=> ?_⟩
  cases i with
  | zero=>
   simp at hc
   subst hc
   rfl
  | succ i=>
   have:=h2 i c (by simpa using hc)
   simpa [mergeO] using this
section
variable {P : Program} {T : Nat → TI} {F : FuncId → List AV → AV → Prop} {w0 : Start} {A : Nat → Prop} {o : Oper} {a : Act} {κ : Cx} {m m' : Mem} {v : AV} {Q : Exit → Act → World → Prop} {env : Nat → Option AV}
theorem objW_runs (L:List (Nat×Nat)):∀(l:List (Nat×Nat)) (is:List AV) (k:Step) (m:Mem),l.Nodup→(objW L l is k).Runs F m v m'→
  ∃m1,k.Runs F m1 v m'∧m1.gen=m.gen∧(∀s g,(s,g)∉l→m1.at_ s g=m.at_ s g)∧∀(i:Nat) (p:Nat×Nat),l[i]? =some p→∃b,is[i]? =some b∧((isNlA b=true∧m1.at_ p.1 p.2=m.at_ p.1 p.2)∨(isNlA b=false∧∃i',instO L b=some i'∧m1.at_ p.1 p.2=some i'))
 | [],is,k,m,hn,h=> ⟨m,h,rfl,fun _ _ _=> rfl,fun i p hp=> by simp at hp⟩
 | p::l,[],k,m,hn,h=> by cases h
 | p::l,b::is,k,m,hn,h=> by
  obtain ⟨hp,hn⟩:=List.nodup_cons.1 hn
  unfold objW at h
  cases hb:isNlA b
  ·rw [hb] at h
   simp only [cond_false] at h
   split at h
   ·rename_i i' hi'
    cases h with
    | wr h=>
     obtain ⟨m1,g1,g2,g3,g4⟩:=objW_runs L l is k _ hn h
     refine ⟨m1,g1,g2,fun s g hsg=> ?_,fun i q hq=> ?_⟩
     ·rw [g3 s g fun e=> hsg (by simp [e]),setAt,if_neg]
      rintro ⟨rfl,rfl⟩
      exact hsg (by simp)
     ·cases i with
      | zero=>
       simp at hq
       subst hq
       refine ⟨b,rfl,Or.inr ⟨hb,i',hi',?_⟩⟩
       rw [g3 p.1 p.2 hp,setAt,if_pos ⟨rfl,rfl⟩]
      | succ i=>
       have hq:l[i]? =some q:=by simpa using hq
       obtain ⟨c,q1,q2⟩:=g4 i q hq
       refine ⟨c,by simpa using q1,q2.imp (fun ⟨k1,k2⟩=> ⟨k1,?_⟩) id⟩
       rw [k2,setAt,if_neg]
       rintro ⟨e1,e2⟩
       have:q=p:=Prod.ext e1 e2
       subst this
       exact hp (List.mem_of_getElem? hq)
   ·cases h
  ·rw [hb] at h
   simp only [cond_true] at h
   obtain ⟨m1,g1,g2,g3,g4⟩:=objW_runs L l is k m hn h
   refine ⟨m1,g1,g2,fun s g hsg=> g3 s g fun e=> hsg (by simp [e]),fun i q hq=> ?_⟩
   cases i with
   | zero=>
    simp at hq
    subst hq
    exact ⟨b,rfl,Or.inl ⟨hb,g3 _ _ hp⟩⟩
   | succ i=>
    obtain ⟨c,q1,q2⟩:=g4 i q (by simpa using hq)
    exact ⟨c,by simpa using q1,q2⟩
theorem Free.put (hs:Sim w0 A m κ) {c s:Nat} {i:Inst} {l:Loc} (h:Free w0 m κ c) (hl:l.blk≠some c):Free w0 (m.add s i) (κ.put s l κ.w) c:=by
 refine ⟨h.1,h.2.1,h.2.2.1,fun x y i' hi e=> ?_⟩
 have hgn:m.gen s + 1=κ.gn s + 1:=by rw [hs.gn]
 rw [addAt] at hi
 split at hi
 ·rename_i hxy
  obtain ⟨rfl,rfl⟩:=hxy
  rw [hgn,Cx.put_new] at e
  exact hl e
 ·have hle:=κ.put_le s l κ.w (fun _ _=> rfl)
  rw [hle.φ x y (by rw [hs.gn];exact hs.gens x y i' hi)] at e
  exact h.2.2.2 x y i' hi e
theorem objN_runs {S':Nat→Prop} {w':World} {locs:Nat→Loc} {N:Nat} (s:Nat):∀(rest:List AV) (j:Nat) (L:List (Nat×Nat)) (k:List (Nat×Nat)→Step) (m:Mem) (κ:Cx),Sim w0 A m κ→κ.w=w'→(∀b,S' b→κ.S b)→Nm κ (cxO S' w' locs N) L→L.length + rest.length≤N→
  (∀(i:Nat) (b:AV),rest[i]? =some b→∃inst,instC b=some inst∧InstOk (cxO S' w' locs N) (locs (L.length + i + 1)) inst)→(∀i b,i < rest.length→(locs (L.length + i + 1)).blk=some b→Free w0 m κ b)→
  (∀i i' b,i < rest.length→i' < rest.length→(locs (L.length + i + 1)).blk=some b→(locs (L.length + i' + 1)).blk=some b→i=i')→(objN s j L rest k).Runs F m v m'→
  ∃m1 κ1 L1,Sim w0 A m1 κ1∧κ.Le κ1∧κ1.w=κ.w∧κ1.S=κ.S∧Nm κ1 (cxO S' w' locs N) L1∧(k L1).Runs F m1 v m'∧∀c,Free w0 m κ c→(∀i,i < rest.length→(locs (L.length + i + 1)).blk≠some c)→Free w0 m1 κ1 c
 | [],j,L,k,m,κ,hs,hw,hS,hn,hlen,hok,hf,hsep,h=> ⟨m,κ,L,hs,.refl κ,rfl,rfl,hn,h,fun c hc _=> hc⟩
 | b::rest,j,L,k,m,κ,hs,hw,hS,hn,hlen,hok,hf,hsep,h=> by
  unfold objN at h
  split at h
  ·rename_i i hi
   obtain ⟨inst,e1,e2,e3⟩:=instO_name hi
   obtain ⟨inst',e4,e5⟩:=hok 0 b rfl
   rw [e1] at e4
   injection e4 with e4
   subst e4
   cases h with
   | new h=>
    have hiok:InstOk κ (locs (L.length + 1)) i:=e2.of hn hS hw.symm (by simpa using e5)
    obtain ⟨q1,q2⟩:=hs.add (BelowD.refl _ _) (s + 268435456 * (j + 1)) i (locs (L.length + 1)) (fun c hc=> hf 0 c (by simp) hc) e3 (fun hle=> hiok.mono hle fun _ _=> rfl)
    have hgn:m.gen (s + 268435456 * (j + 1)) + 1=κ.gn (s + 268435456 * (j + 1)) + 1:=by rw [hs.gn]
    have hlen':(L ++ [(s + 268435456 * (j + 1),m.gen (s + 268435456 * (j + 1)) + 1)]).length=L.length + 1:=by simp
    have hNmN:Nm (κ.put (s + 268435456 * (j + 1)) (locs (L.length + 1)) κ.w) (cxO S' w' locs N) (L ++ [(s + 268435456 * (j + 1),m.gen (s + 268435456 * (j + 1)) + 1)]):=by
     refine ⟨fun q p hq=> ?_,fun q p hq=> ?_,fun q p hq=> ?_⟩
     ·rw [List.getElem?_append] at hq
      split at hq
      ·have:=hn.φ q p hq
       rw [this]
       exact (q2.φ _ _ (hn.g q p hq)).symm
      ·rename_i hge
       have hqL:q=L.length:=by
        have:=(List.getElem?_eq_some_iff.1 hq).1
        simp at this
        omega
       subst hqL
       simp at hq
       subst hq
       rw [cxO_φ]
       show locs (L.length + 1)=(κ.put _ _ _).φ _ _
       rw [hgn,Cx.put_new]
     ·have:=(List.getElem?_eq_some_iff.1 hq).1
      rw [hlen'] at this
      simp at hlen
      exact cxO_gn _ _ _ (by omega)
     ·rw [List.getElem?_append] at hq
      split at hq
      ·exact Nat.le_trans (hn.g q p hq) (q2.gn _)
      ·rename_i hge
       have hqL:q=L.length:=by
        have:=(List.getElem?_eq_some_iff.1 hq).1
        simp at this
        omega
       subst hqL
       simp at hq
       subst hq
       show _≤(κ.put _ _ _).gn _
       rw [hgn,Cx.put_gn]
       exact Nat.le_refl _
    obtain ⟨m1,κ1,L1,g1,g2,g3,g4,g5,g6,g7⟩:=objN_runs (S':=S') (w':=w') (locs:=locs) (N:=N) s rest (j + 1) (L ++ [(s + 268435456 * (j + 1),m.gen (s + 268435456 * (j + 1)) + 1)]) k _ _ q1 hw hS hNmN (by rw [hlen'];simp at hlen;omega) (fun q c hc=> by
     rw [hlen']
     have:=hok (q + 1) c (by simpa using hc)
     rwa [show L.length + (q + 1) + 1=L.length + 1 + q + 1 by omega] at this) (fun q c hq hc=> by
     rw [hlen'] at hc
     have hc':(locs (L.length + (q + 1) + 1)).blk=some c:=by rwa [show L.length + (q + 1) + 1=L.length + 1 + q + 1 by omega]
     refine (hf (q + 1) c (by simpa using hq) hc').put hs fun e=> ?_
     have:=hsep 0 (q + 1) c (by simp) (by simpa using hq) (by simpa using e) hc'
     omega) (fun q q' c hq hq' hc hc'=> by
     rw [hlen'] at hc hc'
     have:=hsep (q + 1) (q' + 1) c (by simpa using hq) (by simpa using hq') (by rwa [show L.length + (q + 1) + 1=L.length + 1 + q + 1 by omega]) (by rwa [show L.length + (q' + 1) + 1=L.length + 1 + q' + 1 by omega])
     omega) h
    refine ⟨m1,κ1,L1,g1,q2.trans g2,g3,g4,g5,g6,fun c hc hne=> g7 c (hc.put hs (hne 0 (by simp))) fun q hq=> ?_⟩
    rw [hlen']
    have:=hne (q + 1) (by simpa using hq)
    rwa [show L.length + (q + 1) + 1=L.length + 1 + q + 1 by omega] at this
  ·cases h
theorem sim_obj (hF:∀f args r,F f args r→FnX w0.dr P f args r) (hs:Sim w0 A m κ) (he:EnvOk κ env a.tmps) {f:FuncId} {xs:Array Operand} {ts:Array TypeId} {s way:Nat} (ho:o.op= .call {callee:= .value (.func f),args:=xs,argTypes:=ts}) {κ0:Cx} (hκ:κ0.Le κ) (hκw:κ0.w=κ.w)
  (h:(objCall s way f (xs.toList.map (rhoOf env))).Runs F m v m'):o.wp P a κ0.w (fun a' w'=> After w0 A κ0 o v m' a a' w') Q:=by
 obtain ⟨m1,κ1,ys,g1,g2,g3,g4,h⟩:=argS_runs _ _ m κ (xs.toList.map a.eval) hs (by simp) (fun j c u hc hu=> by
  rw [List.getElem?_map] at hc hu
  cases hq:xs.toList[j]? with
  | none=> rw [hq] at hc;cases hc
  | some q=>
   rw [hq] at hc hu
   simp at hc hu
   subst hu
   exact ev_rel he hc) h
 obtain ⟨zs,l,is,h,hlen,hN⟩:=objL_runs ys 0 _ h
 obtain ⟨hA,hO⟩:=hN [] rfl []
 rw [List.nil_append,List.append_nil] at hA hO
 cases hnd:nodupL l
 ·rw [hnd] at h;cases h
 rw [hnd] at h
 have hnd:=nodupL_spec hnd
 simp only [cond_true] at h
 cases h with
 | call hf h=>
  rename_i r
  obtain ⟨x0,js,rfl,hjs,hcall,hc⟩:=(show FnO w0.dr P f is zs r from hF f _ _ hf)
  have hn:l.length=is.length:=hO.1
  have hidx:∀{i:Nat},i < is.length→∃p b,l[i]? =some p∧is[i]? =some b:=fun hi=> ⟨_,_,List.getElem?_eq_getElem (by omega),List.getElem?_eq_getElem hi⟩
  let locs:Nat→Loc:=fun g=> match l[g - 1]? with
   | some p=> κ1.φ p.1 p.2
   | none=> ⟨none,0,0,0⟩
  have hloc0:∀(i:Nat) (p:Nat×Nat),l[i]? =some p→locs (i + 1)=κ1.φ p.1 p.2:=fun i p hp=> by
   show (match l[i + 1 - 1]? with | some p=> κ1.φ p.1 p.2 | none=> _)=_
   rw [Nat.add_sub_cancel,hp]
  have hNm:Nm κ1 (cxO κ1.S κ1.w locs is.length) l:=⟨fun i p hp=> (cxO_φ ..).trans (hloc0 i p hp),fun i p hp=> cxO_gn _ _ _ (by
   have:=(List.getElem?_eq_some_iff.1 hp).1
   omega),fun i p hp=> by
   obtain ⟨_,b,_,hb⟩:=hidx (i:=i) (by have:=(List.getElem?_eq_some_iff.1 hp).1;omega)
   obtain ⟨i0,inst,q1,_⟩:=hO.2 i p b hp hb
   rw [g1.gn]
   exact g1.gens _ _ i0 q1⟩
  have hargs:RelL (cxO κ1.S κ1.w locs is.length) zs (xs.map a.eval).toList:=by
   have h4:RelL κ1 ys (xs.map a.eval).toList:=by simpa using g4
   refine ⟨h4.1.trans hlen,fun j c u hcz hu=> ?_⟩
   have hlt:j < ys.length:=by rw [hlen];exact (List.getElem?_eq_some_iff.1 hcz).1
   exact (hA j _ c (List.getElem?_eq_getElem hlt) hcz).to hNm (fun _ h=> h) rfl (h4.2 j _ u (List.getElem?_eq_getElem hlt) hu)
  have hobj0:ObjsOk κ1.S κ1.w locs is:=by
   refine ⟨fun i b hb=> ?_,fun i b hi hbk=> ?_,fun i j b hi hj h1 h2=> ?_⟩
   ·obtain ⟨p,_,hp,_⟩:=hidx (i:=i) (List.getElem?_eq_some_iff.1 hb).1
    obtain ⟨i0,inst,q1,q2,q3,q4⟩:=hO.2 i p b hp hb
    exact ⟨inst,q3,by rw [hloc0 i p hp];exact q4.to hNm (fun _ h=> h) rfl (g1.ok _ _ i0 q1)⟩
   ·obtain ⟨p,c,hp,hcc⟩:=hidx hi
    obtain ⟨i0,inst,q1,q2,q3,q4⟩:=hO.2 i p c hp hcc
    rw [hloc0 i p hp] at hbk
    exact ⟨(g1.own _ _ i0 b q1 hbk).2,g1.notS _ _ i0 b q1 hbk q2⟩
   ·obtain ⟨p,c,hp,hcc⟩:=hidx hi
    obtain ⟨p',c',hp',hcc'⟩:=hidx hj
    obtain ⟨i0,inst,q1,q2,_⟩:=hO.2 i p c hp hcc
    obtain ⟨i0',inst',q1',q2',_⟩:=hO.2 j p' c' hp' hcc'
    rw [hloc0 i p hp] at h1
    rw [hloc0 j p' hp'] at h2
    have:=g1.sep _ _ i0 _ _ i0' b q1 q1' h1 h2 q2
    have e:p=p':=Prod.ext this.1 this.2
    subst e
    exact (List.getElem?_inj (List.getElem?_eq_some_iff.1 hp).1 hnd).1 (hp.trans hp'.symm)
  have hrun:(execOp a.eval o).run P κ0.w= .ok (.enter f (xs.map a.eval)) κ0.w:=by
   have ef:a.eval (.func f)= .func (.func f) #[] #[]:=rfl
   unfold execOp
   rw [ho]
   simp [resolve,ef,Deferred.ofValue,invoke,hcall]
  have hw01:κ0.w=κ1.w:=hκw.trans g3.symm
  unfold Oper.wp
  rw [hrun,hw01]
  refine Calls.mono (hc κ1.w κ1.S locs (xs.map a.eval) g1.inv (fun b hb=> (g1.st b hb).1) hobj0 (fun i b hi hbk=> ?_) hargs) ?_
  ·obtain ⟨p,c,hp,hcc⟩:=hidx hi
   obtain ⟨i0,inst,q1,_⟩:=hO.2 i p c hp hcc
   rw [hloc0 i p hp] at hbk
   exact g1.noTab q1 hbk
  rintro e w' ⟨y,S',locs',bs,rfl,hbel,hS',hloc,hobj,hnew,hres,hap,hown⟩
  show After w0 A κ0 o v m' a (a.put o.dst y) w'
  obtain ⟨hmlen,hmget⟩:=mergeO_get hjs
  obtain ⟨m2,h,hgen,hout,hin⟩:∃m2,(objN s 0 l (js.drop l.length) fun L=> objV s L x0).Runs F m2 v m'∧m2.gen=m1.gen∧(∀s g,(s,g)∉l→m2.at_ s g=m1.at_ s g)∧∀(i:Nat) (p:Nat×Nat),l[i]? =some p→∃b,js[i]? =some b∧((isNlA b=true∧m2.at_ p.1 p.2=m1.at_ p.1 p.2)∨(isNlA b=false∧∃i',instO l b=some i'∧m2.at_ p.1 p.2=some i')):=by
   have htk:∀(i:Nat) (p:Nat×Nat),l[i]? =some p→(js.take l.length)[i]? =js[i]? :=fun i p hp=> by
    rw [List.getElem?_take,if_pos (List.getElem?_eq_some_iff.1 hp).1]
   unfold objR at h
   dsimp only at h
   cases hw7:Nat.beq way 7
   ·rw [hw7] at h
    simp only [cond_false] at h
    obtain ⟨m2,q1,q2,q3,q4⟩:=objW_runs l l _ _ m1 hnd h
    exact ⟨m2,q1,q2,q3,fun i p hp=> by
     obtain ⟨b,k1,k2⟩:=q4 i p hp
     exact ⟨b,by rw [←htk i p hp];exact k1,k2⟩⟩
   ·rw [hw7] at h
    simp only [cond_true] at h
    cases hall:(js.take l.length).all isNlA
    ·rw [hall] at h;cases h
    ·rw [hall] at h
     refine ⟨m1,h,rfl,fun _ _ _=> rfl,fun i p hp=> ?_⟩
     have hlt:i < js.length:=by have:=(List.getElem?_eq_some_iff.1 hp).1;omega
     refine ⟨js[i],List.getElem?_eq_getElem hlt,Or.inl ⟨List.all_eq_true.1 hall _ (List.mem_of_getElem? (i:=i) ?_),rfl⟩⟩
     rw [htk i p hp]
     exact List.getElem?_eq_getElem hlt
  have hsub:∀b,S' b→κ1.S b∨(S' b∧κ1.w.heap.size≤b):=fun b hb=> (hS' b hb).2.imp id fun h=> ⟨hb,h⟩
  have hNm2:Nm {κ1 with w:=w',S:=fun b=> κ1.S b∨(S' b∧κ1.w.heap.size≤b)} (cxO S' w' locs' js.length) l:=⟨fun i p hp=> by
   have hi:i < is.length:=by have:=(List.getElem?_eq_some_iff.1 hp).1;omega
   rw [cxO_φ]
   show locs' (i + 1)=κ1.φ p.1 p.2
   rw [hloc i hi,hloc0 i p hp],fun i p hp=> cxO_gn _ _ _ (by
   have:=(List.getElem?_eq_some_iff.1 hp).1
   omega),hNm.g⟩
  obtain ⟨t1,t2⟩:=g1.many hbel (l:=fun s g=> (s,g)∈l) (fun s g hm=> by
    obtain ⟨i,hi⟩:=List.getElem?_of_mem hm
    obtain ⟨_,b,_,hb⟩:=hidx (i:=i) (by have:=(List.getElem?_eq_some_iff.1 hi).1;omega)
    obtain ⟨i0,inst,q1,q2,_⟩:=hO.2 i _ b hi hb
    exact ⟨i0,q1,q2⟩) (fun c hc=> by
    obtain ⟨i,hi,hbk⟩:=hc
    obtain ⟨p,_,hp,_⟩:=hidx hi
    rw [hloc0 i p hp] at hbk
    exact ⟨p.1,p.2,List.mem_of_getElem? hp,hbk⟩) (S':=fun b=> κ1.S b∨(S' b∧κ1.w.heap.size≤b)) (fun c hc=> Or.inl hc) (fun c hc=> hc.imp id fun h=> ⟨h.2,(hS' c h.1).1⟩) hgen hout (fun hle s g hm=> by
    obtain ⟨i,hi⟩:=List.getElem?_of_mem hm
    have hilt:i < is.length:=by have:=(List.getElem?_eq_some_iff.1 hi).1;omega
    obtain ⟨_,c,_,hcc⟩:=hidx hilt
    obtain ⟨i0,inst,q1,q2,q3,q4⟩:=hO.2 i _ c hi hcc
    obtain ⟨b,hb,hcase⟩:=hin i _ hi
    have hmg:=hmget i b hb
    rw [hcc] at hmg
    obtain ⟨inst2,e1,e2⟩:=hobj.ok i _ hmg
    rw [hmlen,hloc i hilt,hloc0 i _ hi] at e2
    rcases hcase with ⟨hnl,hat⟩ | ⟨hnl,i',hi',hat⟩
    ·rw [hnl] at e1
     simp only [cond_true] at e1
     rw [q3] at e1
     injection e1 with e1
     subst e1
     exact ⟨i0,hat.trans q1,q2,q4.of hNm2 hsub rfl e2⟩
    ·rw [hnl] at e1
     simp only [cond_false] at e1
     obtain ⟨inst3,k1,k2,k3⟩:=instO_name hi'
     rw [k1] at e1
     injection e1 with e1
     subst e1
     exact ⟨i',hat,k3,k2.of hNm2 hsub rfl e2⟩)
  have hz:=hbel.size
  have hfree:∀c,κ1.w.heap.size≤c→c < w'.heap.size→¬S' c→Free w0 m2 {κ1 with w:=w',S:=fun b=> κ1.S b∨(S' b∧κ1.w.heap.size≤b)} c:=by
   intro c c1 c2 c3
   refine ⟨Or.inl (Nat.le_trans g1.below.size c1),c2,?_,fun s g i hi e=> ?_⟩
   ·rintro (hS | ⟨hS,_⟩)
    ·have:=(g1.st c hS).1;omega
    ·exact c3 hS
   ·have e:(κ1.φ s g).blk=some c:=e
    by_cases hm:(s,g)∈l
    ·obtain ⟨i',hi'⟩:=List.getElem?_of_mem hm
     obtain ⟨_,b,_,hb⟩:=hidx (i:=i') (by have:=(List.getElem?_eq_some_iff.1 hi').1;omega)
     obtain ⟨i0,inst,q1,_⟩:=hO.2 i' _ b hi' hb
     have:=(g1.own _ _ i0 c q1 e).2
     omega
    ·rw [hout s g hm] at hi
     have:=(g1.own s g i c hi e).2
     omega
  have hdl:∀i,i < (js.drop l.length).length→l.length + i < js.length:=fun i hi=> by simp at hi;omega
  obtain ⟨m3,κ3,L1,r1,r2,r3,r4,r5,r6,r7⟩:=objN_runs (S':=S') (w':=w') (locs:=locs') (N:=js.length) s (js.drop l.length) 0 l _ m2 _ t1 rfl hsub hNm2 (by simp;omega) (fun i b hb=> by
    rw [List.getElem?_drop] at hb
    have hmg:=hmget _ b hb
    rw [List.getElem?_eq_none (by omega:is.length≤l.length + i)] at hmg
    obtain ⟨inst2,e1,e2⟩:=hobj.ok _ _ hmg
    rw [hmlen] at e2
    exact ⟨inst2,e1,e2⟩) (fun i b hi hbk=> by
    have hlt:=hdl i hi
    have:=hobj.blk (l.length + i) b (by rw [hmlen];exact hlt) hbk
    exact hfree b (hnew (l.length + i) b (by omega) hlt hbk) this.1 this.2) (fun i i' b hi hi' hb hb'=> by
    have:=hobj.sep (l.length + i) (l.length + i') b (by rw [hmlen];exact hdl i hi) (by rw [hmlen];exact hdl i' hi') hb hb'
    omega) h
  have hsub3:∀b,S' b→κ3.S b:=fun b hb=> by rw [r4];exact hsub b hb
  have ptr:∀(c:AV),(retO (ofC L1 c)).Runs F m3 v m'→Rel (cxO S' w' locs' js.length) c y→After w0 A κ0 o v m' a (a.put o.dst y) w':=by
   intro c hr hrel
   obtain ⟨e1,rfl⟩:=retO_runs hr
   exact ⟨κ3,r3,r1,hκ.trans (g2.trans (t2.trans r2)),y,rfl,(ofC_name e1).of r5 hsub3 (by rw [r3];rfl) hrel⟩
  have dat:(recv s x0 .ret).Runs F m3 v m'→Res S' w' x0 y bs→After w0 A κ0 o v m' a (a.put o.dst y) w':=by
   intro hr hrs
   obtain ⟨m4,κ4,yy,u1,u2,u3,u4,u5⟩:=recv_runs r1 (by rw [r3];exact hrs.mono hsub3) hap (fun c hcb=> by
    obtain ⟨k1,k2,k3,k4⟩:=hown c hcb
    exact r7 c (hfree c k1 k2 k3) fun i hi=> k4 _ (hdl i hi)) hr
   obtain ⟨rfl,rfl⟩:=ret_inv u5
   exact ⟨κ4,by rw [u3,r3],u1,hκ.trans (g2.trans (t2.trans (r2.trans u2))),y,rfl,u4⟩
  cases x0 with
  | lp s' g' q=> exact ptr _ r6 hres.1
  | mp s' g'=> exact ptr _ r6 hres.1
  | _=> exact dat r6 hres
end
end Go.Proofs.YtmgcnoigihdhpaaGreatDoor
namespace Go.Proofs.YtmgcnoigihdhpaaGreatDoor
open Go.RowKit
section
variable {P : Program} {T : Nat → TI} {F : FuncId → List AV → AV → Prop} {w0 : Start} {A : Nat → Prop} {o : Oper} {a : Act} {κ : Cx} {m m' : Mem} {v : AV} {Q : Exit → Act → World → Prop} {env : Nat → Option AV}
theorem sim_call (hF:∀f args r,F f args r→FnX w0.dr P f args r) (hs:Sim w0 A m κ) (he:EnvOk κ env a.tmps) {fv:Operand} {xs:Array Operand} {ts:Array TypeId} {s:Nat} (ho:o.op= .call {callee:= .value fv,args:=xs,argTypes:=ts}) (h:(fcallF s (rhoOf env fv) (xs.toList.map (rhoOf env))).Runs F m v m'):
  o.wp P a κ.w (fun a' w'=> After w0 A κ o v m' a a' w') Q:=by
 generalize hfv:rhoOf env fv=c at h
 unfold fcallF at h
 split at h
 ·rename_i f cs
  cases hcap:cs.all cap1
  ·rw [hcap] at h;cases h
  rw [hcap] at h
  simp only [cond_true] at h
  have hrf:=ev_rel he hfv
  obtain ⟨us,hfe,hus⟩:∃us:Array Value,a.eval fv= .func (.func f) #[] us∧RelL κ cs us.toList:=by
   generalize a.eval fv=y at hrf
   cases hrf with
   | @fn _ _ vs hl hh=> exact ⟨vs,rfl,by simpa using hl,fun j c y hc hy=> hh j c y hc (by simpa using hy)⟩
  obtain ⟨ys,l,h,hr,hrows⟩:=argT_runs (xs.toList.map (rhoOf env) ++ cs.map some) _ m κ (xs.toList.map a.eval ++ us.toList) v m' hs (by have:=hus.1;simp at this;simp [this]) (fun j c u hc hu=> by
   rw [List.getElem?_append] at hc hu
   split at hc
   ·rename_i hlt
    rw [if_pos (by simpa using hlt)] at hu
    rw [List.getElem?_map] at hc hu
    cases hq:xs.toList[j]? with
    | none=> rw [hq] at hc;simp at hc
    | some q=>
     rw [hq] at hc hu
     simp at hc hu
     subst hu
     exact ev_rel he hc
   ·rename_i hge
    rw [if_neg (by simpa using hge)] at hu
    rw [List.getElem?_map] at hc
    simp only [List.length_map] at hc hu
    cases hq:cs[j - xs.toList.length]? with
    | none=> rw [hq] at hc;simp at hc
    | some q=>
     rw [hq] at hc
     simp at hc
     subst hc
     exact hus.2 _ _ u hq hu) h
  cases h with
  | call hf h=>
   rename_i x
   have hfn:=(hF f ys x hf).fn hr
   have hrun:(execOp a.eval o).run P κ.w= .ok (.enter f (xs.map a.eval ++ us)) κ.w:=by
    unfold execOp
    rw [ho]
    simp [resolve,hfe,Deferred.ofValue,invoke,hfn.1]
   have hc:=hfn.2 κ.w (fun b=> κ.S b∨BlkOf κ l b) (xs.map a.eval ++ us) hs.inv (fun b hb=> by
    rcases hb with hb | ⟨p,hp,hb⟩
    ·exact (hs.st b hb).1
    ·obtain ⟨i,hi⟩:=hrows p hp
     exact (hs.own p.1 p.2 _ b hi hb).2) (by simpa using hr)
   unfold Oper.wp
   rw [hrun]
   refine Calls.mono hc ?_
   rintro e w' ⟨y,S',bs,rfl,hbel,hS',hres,hap,hown⟩
   show After w0 A κ o v m' a (a.put o.dst y) w'
   have hz:=hbel.size
   dsimp only at h
   cases hsc:scalar x
   ·rw [hsc] at h
    simp only [cond_false] at h
    obtain ⟨q1,q2⟩:=hs.grow hbel (S':=fun b=> κ.S b∨(S' b∧κ.w.heap.size≤b)) (fun b hb=> Or.inl hb) (fun b hb=> by
     rcases hb with hb | ⟨hb,hge⟩
     ·exact Or.inl hb
     ·exact Or.inr ⟨hge,(hS' b hb).1⟩)
    obtain ⟨m1,S1,r1,r2,r3,r4,r5⟩:=frzL_runs l _ m _ v m' q1 h
    have hsub:∀b,S' b→S1 b:=by
     intro b hb
     rw [r3 b]
     rcases (hS' b hb).2 with (hS | hS) | hge
     ·exact Or.inl (Or.inl hS)
     ·exact Or.inr hS
     ·exact Or.inl (Or.inr ⟨hb,hge⟩)
    obtain ⟨m2,κ2,yy,t1,t2,t3,t4,t5⟩:=recv_runs r1 (hres.mono hsub) hap (fun c hc=> by
     obtain ⟨o1,o2,o3⟩:=hown c hc
     refine ⟨Or.inl (Nat.le_trans hs.below.size o1),o2,fun hS=> ?_,fun s g i hi hb=> ?_⟩
     ·have hS:=(r3 c).1 hS
      rcases hS with (hS | ⟨hS,_⟩) | ⟨p,hp,hS⟩
      ·have:=(hs.st c hS).1;omega
      ·exact o3 hS
      ·obtain ⟨i,hi⟩:=hrows p hp
       have:=(hs.own p.1 p.2 _ c hi hS).2
       omega
     ·obtain ⟨i',hi'⟩:=r4 s g i hi
      have:=(hs.own s g i' c hi' hb).2
      omega) r5
    obtain ⟨rfl,rfl⟩:=ret_inv t5
    exact ⟨κ2,t3,t1,q2.trans (r2.trans t2),y,rfl,t4⟩
   ·rw [hsc] at h
    simp only [cond_true] at h
    obtain ⟨q1,q2⟩:=hs.grow hbel (S':=κ.S) (fun b hb=> hb) (fun b hb=> Or.inl hb)
    obtain ⟨m2,κ2,yy,t1,t2,t3,t4,t5⟩:=recv_runs q1 (scalar_res hsc hres) hap (fun c hc=> by
     obtain ⟨o1,o2,o3⟩:=hown c hc
     refine ⟨Or.inl (Nat.le_trans hs.below.size o1),o2,fun hS=> ?_,fun s g i hi hb=> ?_⟩
     ·have:=(hs.st c hS).1;omega
     ·have:=(hs.own s g i c hi hb).2
      omega) h
    obtain ⟨rfl,rfl⟩:=ret_inv t5
    exact ⟨κ2,t3,t1,q2.trans t2,y,rfl,t4⟩
 ·cases h
theorem set_none {m:Mem} {s g:Nat} {i:Option Inst}:(m.set s g i).set s g none=m.set s g none:=by
 have:(m.set s g i).set s g none={at_:=((m.set s g i).set s g none).at_,gen:=m.gen}:=rfl
 rw [this]
 have h2:m.set s g none={at_:=(m.set s g none).at_,gen:=m.gen}:=rfl
 rw [h2]
 congr 1
 funext x y
 simp only [setAt]
 split
 ·rfl
 ·rfl
theorem row_own {m:Mem} {κ:Cx} (hs:Sim w0 A m κ) {s g sz n:Nat} {es:List (List D)} (hi:m.at_ s g=some (.rows sz es false)) {u:Value} (hu:Rel κ (.row s g n) u):OwnAt κ.S κ.w sz es u (κ.φ s g).blk:=by
 obtain ⟨e1,e2,e3⟩:=hs.ok s g _ hi
 refine ⟨e2,?_⟩
 cases hu with
 | row0 A' hg hb hl=>
  rw [hl] at e1
  exact Or.inl ⟨hb,List.eq_nil_of_length_eq_zero e1,A',rfl⟩
 | row hg hb=>
  rcases e3 with ⟨h4,_⟩ | ⟨b',tt,cur,hb',hz,hh,hl,hm,hc,hra⟩
  ·rw [h4] at hb;cases hb
  ·rw [hb] at hb'
   injection hb' with hb'
   subst hb'
   rw [←e1] at hl ⊢
   exact Or.inr ⟨_,tt,cur,_,hb,rfl,hh,hl,hm,hc,hra⟩
theorem own_inst {κ:Cx} {sz:Nat} {es:List (List D)} {v:Value} {b:Option Nat} (h:OwnAt κ.S κ.w sz es v b) {l:Loc} (hb:l.blk=b) (hl:l.len=es.length) (hv:∀A n c,v= .slice A n c→b≠none→l.cap=c) (hz:b≠none→l.sz=sz):InstOk κ l (.rows sz es false):=by
 obtain ⟨h1,h2⟩:=h
 refine ⟨hl.symm,h1,?_⟩
 rcases h2 with ⟨rfl,rfl,_⟩ | ⟨g,T,cur,cap,rfl,rfl,hh,hle,hm,hc,hr⟩
 ·exact Or.inl ⟨hb,rfl⟩
 ·have hcap:=hv _ _ _ rfl (by simp)
  refine Or.inr ⟨g,T,cur,hb,hz (by simp),hh,by rw [hl,hcap];exact hle,by rw [hcap];exact hm,by rw [hcap];exact hc,hr⟩
theorem one_arg {xs:Array Operand} {v:AV} (h:xs.toList.map (rhoOf env)= [some v]):∃x,xs= #[x]∧rhoOf env x=some v:=by
 obtain ⟨l⟩:=xs
 cases l with
 | nil=> simp at h
 | cons x r=>
  cases r with
  | nil=> exact ⟨x,rfl,by simpa using h⟩
  | cons y r=> simp at h
theorem two_args {xs:Array Operand} {u v:AV} (h:xs.toList.map (rhoOf env)= [some u,some v]):∃x y,xs= #[x,y]∧rhoOf env x=some u∧rhoOf env y=some v:=by
 obtain ⟨l⟩:=xs
 match l,h with
 | [],h=> simp at h
 | [x],h=> simp at h
 | [x,y],h=>
  simp at h
  exact ⟨x,y,rfl,h⟩
 | _::_::_::_,h=> simp at h
theorem sim_keys (hF:∀f args r,F f args r→FnX w0.dr P f args r) (hs:Sim w0 A m κ) (he:EnvOk κ env a.tmps) {f:FuncId} {xs:Array Operand} {ts:Array TypeId} {s:Nat} (ho:o.op= .call {callee:= .value (.func f),args:=xs,argTypes:=ts})
  (h:(keysF s f (xs.toList.map (rhoOf env))).Runs F m v m'):o.wp P a κ.w (fun a' w'=> After w0 A κ o v m' a a' w') Q:=by
 generalize hzs:xs.toList.map (rhoOf env)=zs at h
 have key:∀(x:Operand) (c:AV) (r:AV),xs= #[x]→F f [.tup [.ow 0 []]] r→(∃mb,a.eval x= .map (some mb)∧Rel κ c (.map (some mb)))→
   (match r with | .fn kf []=> Step.new s (.box [c]) fun g'=> .ret (.fn kf [.lp s g' 0]) | _=> .fail).Runs F m v m'→o.wp P a κ.w (fun a' w'=> After w0 A κ o v m' a a' w') Q:=by
  rintro x c r rfl hf ⟨mb,hu,hc0⟩ h
  obtain ⟨kf,rfl,he1,ty,hc⟩:=(show FnKeys P f r from hF f _ _ hf)
  dsimp only at h
  cases h with
  | new h=>
   obtain ⟨rfl,rfl⟩:=ret_inv h
   have hgn:m.gen s + 1=κ.gn s + 1:=by rw [hs.gn]
   have hrun:(execOp a.eval o).run P κ.w= .ok (.enter f #[.map (some mb)]) κ.w:=by
    have ef:a.eval (.func f)= .func (.func f) #[] #[]:=rfl
    unfold execOp
    rw [ho]
    simp [resolve,ef,Deferred.ofValue,invoke,he1,hu]
   unfold Oper.wp
   rw [hrun]
   refine Calls.mono (hc mb κ.w) ?_
   rintro e w' ⟨rfl,rfl⟩
   obtain ⟨q1,q2⟩:=hs.add (belowD_alloc κ.w (.cells #[.map (some mb)] ty)) s (.box [c]) ⟨some κ.w.heap.size,0,0,0⟩ (fun b hb=> by injection hb with hb;subst hb;exact hs.fresh (Nat.le_refl _) (by simp)) rfl
    (fun hle=> ⟨_,ty,#[.map (some mb)],rfl,heap_alloc_new _ _,rfl,fun j c u hc hu=> by
     match j,hc,hu with
     | 0,hc,hu=>
      injection hc with hc
      injection hu with hu
      subst hc hu
      exact ⟨hc0.mono hle,rfl⟩⟩)
   refine ⟨_,rfl,q1,q2,_,rfl,.fn rfl fun j c u hc hu=> ?_⟩
   match j,hc,hu with
   | 0,hc,hu=>
    injection hc with hc
    injection hu with hu
    subst hc hu
    rw [hgn]
    exact .lp (by rw [Cx.put_gn];exact Nat.le_refl _) (by rw [Cx.put_new])
 unfold keysF at h
 split at h
 ·rename_i s1 g1
  obtain ⟨x,rfl,hxe⟩:=one_arg hzs
  cases h with
  | call hf h=>
   refine key x (.mp s1 g1) _ rfl hf ?_ h
   have hrel:=ev_rel he hxe
   generalize a.eval x=u at hrel
   cases hrel with
   | @mp _ _ mb hg hb=> exact ⟨mb,rfl,.mp hg hb⟩
 ·rename_i n
  obtain ⟨x,y,rfl,hxe,hye⟩:=two_args hzs
  cases h with
  | @call _ _ _ _ _ _ r hf h=>
   obtain ⟨sz,rs,rfl,he1,hc⟩:=(show FnGrow w0.dr P f n r from hF f _ _ hf)
   obtain ⟨B,hu⟩:∃B,a.eval x= .slice B 0 0:=by
    have hrel:=ev_rel he hxe
    generalize a.eval x=u at hrel
    cases hrel
    exact ⟨_,rfl⟩
   have hu2:a.eval y= .int .i64 n:=(ev_rel he hye).val
   have hrun:(execOp a.eval o).run P κ.w= .ok (.enter f #[.slice B 0 0,.int .i64 n]) κ.w:=by
    have ef:a.eval (.func f)= .func (.func f) #[] #[]:=rfl
    unfold execOp
    rw [ho]
    simp [resolve,ef,Deferred.ofValue,invoke,he1,hu,hu2]
   unfold Oper.wp
   rw [hrun]
   refine Calls.mono (hc B κ.w) ?_
   rintro e w' ⟨y,b,rfl,hbel,hown,hfree⟩
   show After w0 A κ o v m' a (a.put o.dst y) w'
   obtain ⟨q1,q2⟩:=hs.grow hbel (S':=κ.S) (fun b hb=> hb) (fun b hb=> Or.inl hb)
   have hres:Res κ.S w' (.ow sz rs) y [b]:=⟨b,rfl,hown.1,by
    rcases hown.2 with h | ⟨g,T,cur,cap,h1,h2,h3,h4,h5,h6,h7⟩
    ·exact Or.inl h
    ·exact Or.inr ⟨g,T,cur,cap,h1,h2,h3,h4,h5,h6,fun i j e x k1 k2=> by
      obtain ⟨z,z1,z2⟩:=h7 i j e x k1 k2
      exact ⟨z,z1,z2.mono (fun b hb=> hb.elim) fun b hb=> hb.elim⟩⟩⟩
   obtain ⟨m2,κ2,yy,t1,t2,t3,t4,t5⟩:=recv_runs q1 hres (by
    unfold Apart
    cases b <;> simp) (fun c hc=> by
    have hc:b=some c:=(List.mem_singleton.1 hc).symm
    obtain ⟨o1,o2⟩:=hfree c hc
    refine ⟨Or.inl (Nat.le_trans hs.below.size o1),o2,fun hS=> ?_,fun s g i hi hb=> ?_⟩
    ·have:=(hs.st c hS).1;omega
    ·have:=(hs.own s g i c hi hb).2
     omega) h
   obtain ⟨rfl,rfl⟩:=ret_inv t5
   exact ⟨κ2,t3,t1,q2.trans t2,y,rfl,t4⟩
 ·rename_i ck es
  obtain ⟨x,rfl,hxe⟩:=one_arg hzs
  cases h with
  | call hf h=>
   refine key x (.d (.mz ck es)) _ rfl hf ?_ h
   have hrel:=ev_rel he hxe
   generalize a.eval x=u at hrel
   cases hrel with
   | d hd=>
    obtain ⟨mb,_,_,rfl,_⟩:=hd.map_inv
    exact ⟨mb,rfl,.d hd⟩
 ·cases h
theorem sim_skeys (hF:∀f args r,F f args r→FnX w0.dr P f args r) (hs:Sim w0 A m κ) (he:EnvOk κ env a.tmps) {f:FuncId} {xs:Array Operand} {ts:Array TypeId} {s:Nat} (ho:o.op= .call {callee:= .value (.func f),args:=xs,argTypes:=ts})
  (h:(skeysF s f (xs.toList.map (rhoOf env))).Runs F m v m'):o.wp P a κ.w (fun a' w'=> After w0 A κ o v m' a a' w') Q:=by
 generalize hzs:xs.toList.map (rhoOf env)=zs at h
 unfold skeysF at h
 split at h
 ·rename_i kf s1 g1
  obtain ⟨x,rfl,hxe⟩:=one_arg hzs
  cases h with
  | rdb hi h=>
   rename_i cs
   dsimp only at h
   have key:∀(c:AV) (es:List (Value×D)) (ck:CK) (r:AV),cs= [c]→(∀u,Rel κ c u→∃mb ents clock,u= .map (some mb)∧κ.w.heap[mb]? =some (.map ents clock)∧MapAt κ ck ents es∧MapKept.Stamped ents clock)→F f [.fn kf [.ow 1 (es.map fun p=> [.v p.1])]] r→
     (recv s r .ret).Runs F m v m'→o.wp P a κ.w (fun a' w'=> After w0 A κ o v m' a a' w') Q:=by
    rintro c es ck r rfl hcm hf h
    obtain ⟨rs,rfl,he1,hc⟩:=(show FnSKeys w0.dr P f kf _ r from hF f _ _ hf)
    have hrel:=ev_rel he hxe
    generalize hu:a.eval x=u at hrel
    cases hrel with
    | @fn _ _ us hl hh=>
     have hlt:0 < us.size:=by rw [hl];simp
     have h0:us[0]? =some (us[0]'hlt):=Array.getElem?_eq_getElem hlt
     have hp:=hh 0 _ _ rfl h0
     have hus:us= #[us[0]'hlt]:=by
      apply Array.ext
      ·rw [hl];rfl
      ·intro i h1 h2
       have:i=0:=by rw [hl] at h1;simp at h1;exact h1
       subst this
       rfl
     generalize us[0]'hlt=p0 at hp hus
     subst hus
     cases hp with
     | @lp _ _ _ bb hg hb=>
      obtain ⟨b1,T1,vs1,hb1,hh1,hs1,hr1⟩:=hs.ok _ _ _ hi
      rw [hb] at hb1
      injection hb1 with hb1
      subst hb1
      have hlt1:0 < vs1.size:=by rw [hs1];simp
      have h01:vs1[0]? =some (vs1[0]'hlt1):=Array.getElem?_eq_getElem hlt1
      have hm1:=(hr1 0 _ _ rfl h01).1
      have hcell:κ.w.cell? ⟨bb,0,none⟩=some (vs1[0]'hlt1):=by rw [cell_of_row _ _ _ vs1 T1 (0,0) hh1,h01]
      obtain ⟨mb,ents,clock,hev,hmh,hm,hst⟩:=hcm _ hm1
      rw [hev] at hcell
      have hrun:(execOp a.eval o).run P κ.w= .ok (.enter f #[.func (.func kf) #[] #[.pointer (some ⟨bb,0,none⟩)]]) κ.w:=by
       have ef:a.eval (.func f)= .func (.func f) #[] #[]:=rfl
       unfold execOp
       rw [ho]
       simp [resolve,ef,Deferred.ofValue,invoke,he1,hu]
      unfold Oper.wp
      rw [hrun]
      refine Calls.mono (hc κ.w bb mb ents clock (hs.own _ _ _ bb hi hb).2 hcell hmh hst (by rw [List.length_map];exact hm.1) fun j c e hc he'=> ?_) ?_
      ·rw [List.getElem?_map] at hc
       cases hq:es[j]? with
       | none=> rw [hq] at hc;cases hc
       | some p=>
        rw [hq] at hc
        injection hc with hc
        subst hc
        rw [(hm.2 j p e hq he').1]
      ·rintro e w' ⟨y,b,rfl,hbel,hown,hfree⟩
       show After w0 A κ o v m' a (a.put o.dst y) w'
       obtain ⟨q1,q2⟩:=hs.grow hbel (S':=κ.S) (fun b hb=> hb) (fun b hb=> Or.inl hb)
       have hres:Res κ.S w' (.ow 1 rs) y [b]:=⟨b,rfl,hown.1,by
        rcases hown.2 with h | ⟨g,T,cur,cap,h1,h2,h3,h4,h5,h6,h7⟩
        ·exact Or.inl h
        ·exact Or.inr ⟨g,T,cur,cap,h1,h2,h3,h4,h5,h6,fun i j e x k1 k2=> by
          obtain ⟨z,z1,z2⟩:=h7 i j e x k1 k2
          exact ⟨z,z1,z2.mono (fun b hb=> hb.elim) fun b hb=> hb.elim⟩⟩⟩
       obtain ⟨m2,κ2,yy,t1,t2,t3,t4,t5⟩:=recv_runs q1 hres (by
        unfold Apart
        cases b <;> simp) (fun c hc=> by
        have hc:b=some c:=(List.mem_singleton.1 hc).symm
        obtain ⟨o1,o2⟩:=hfree c hc
        refine ⟨Or.inl (Nat.le_trans hs.below.size o1),o2,fun hS=> ?_,fun s g i hi hb=> ?_⟩
        ·have:=(hs.st c hS).1;omega
        ·have:=(hs.own s g i c hi hb).2
         omega) h
       obtain ⟨rfl,rfl⟩:=ret_inv t5
       exact ⟨κ2,t3,t1,q2.trans t2,y,rfl,t4⟩
   split at h
   ·rename_i s2 g2
    cases h with
    | rdm hj h=>
     rename_i ck es
     cases h with
     | call hf h=>
      refine key (.mp s2 g2) es ck _ rfl (fun u hu=> ?_) hf h
      obtain ⟨mb,ents,clock,hev,hbk,hmh,hm,hst⟩:=map_block hs hj hu
      exact ⟨mb,ents,clock,hev,hmh,hm,hst⟩
   ·rename_i ck es
    cases h with
    | call hf h=>
     refine key (.d (.mz ck es)) es ck _ rfl (fun u hu=> ?_) hf h
     cases hu with
     | d hd=>
      obtain ⟨mb,ents,clock,rfl,_,hmh,hm,hst⟩:=hd.map_inv
      exact ⟨mb,ents,clock,rfl,hmh,hm,hst⟩
   ·cases h
 ·rename_i kf s1 g1 cf
  obtain ⟨x,y0,rfl,hxe,hye⟩:=two_args hzs
  cases h with
  | rdb hi h=>
   rename_i cs
   dsimp only at h
   have key:∀(c:AV) (es:List (Value×D)) (ck:CK) (r:AV),cs= [c]→(∀u,Rel κ c u→∃mb ents clock,u= .map (some mb)∧κ.w.heap[mb]? =some (.map ents clock)∧MapAt κ ck ents es∧MapKept.Stamped ents clock)→F f [.fn kf [.ow 1 (es.map fun p=> [.v p.1])],.fn cf []] r→
     (recv s r .ret).Runs F m v m'→o.wp P a κ.w (fun a' w'=> After w0 A κ o v m' a a' w') Q:=by
    rintro c es ck r rfl hcm hf h
    obtain ⟨sz,rs,rfl,he1,hc⟩:=(show FnSKeysF w0.dr P f kf cf _ r from hF f _ _ hf)
    have hu2:a.eval y0= .func (.func cf) #[] #[]:=by
     have hrel:=ev_rel he hye
     generalize a.eval y0=u at hrel
     cases hrel with
     | @fn _ _ us hl hh=>
      have:us= #[]:=Array.eq_empty_of_size_eq_zero hl
      rw [this]
    have hrel:=ev_rel he hxe
    generalize hu:a.eval x=u at hrel
    cases hrel with
    | @fn _ _ us hl hh=>
     have hlt:0 < us.size:=by rw [hl];simp
     have h0:us[0]? =some (us[0]'hlt):=Array.getElem?_eq_getElem hlt
     have hp:=hh 0 _ _ rfl h0
     have hus:us= #[us[0]'hlt]:=by
      apply Array.ext
      ·rw [hl];rfl
      ·intro i h1 h2
       have:i=0:=by rw [hl] at h1;simp at h1;exact h1
       subst this
       rfl
     generalize us[0]'hlt=p0 at hp hus
     subst hus
     cases hp with
     | @lp _ _ _ bb hg hb=>
      obtain ⟨b1,T1,vs1,hb1,hh1,hs1,hr1⟩:=hs.ok _ _ _ hi
      rw [hb] at hb1
      injection hb1 with hb1
      subst hb1
      have hlt1:0 < vs1.size:=by rw [hs1];simp
      have h01:vs1[0]? =some (vs1[0]'hlt1):=Array.getElem?_eq_getElem hlt1
      have hm1:=(hr1 0 _ _ rfl h01).1
      have hcell:κ.w.cell? ⟨bb,0,none⟩=some (vs1[0]'hlt1):=by rw [cell_of_row _ _ _ vs1 T1 (0,0) hh1,h01]
      obtain ⟨mb,ents,clock,hev,hmh,hm,hst⟩:=hcm _ hm1
      rw [hev] at hcell
      have hrun:(execOp a.eval o).run P κ.w= .ok (.enter f #[.func (.func kf) #[] #[.pointer (some ⟨bb,0,none⟩)],.func (.func cf) #[] #[]]) κ.w:=by
       have ef:a.eval (.func f)= .func (.func f) #[] #[]:=rfl
       unfold execOp
       rw [ho]
       simp [resolve,ef,Deferred.ofValue,invoke,he1,hu,hu2]
      unfold Oper.wp
      rw [hrun]
      refine Calls.mono (hc κ.w bb mb ents clock hs.inv (hs.own _ _ _ bb hi hb).2 hcell hmh hst (by rw [List.length_map];exact hm.1) fun j c e hc he'=> ?_) ?_
      ·rw [List.getElem?_map] at hc
       cases hq:es[j]? with
       | none=> rw [hq] at hc;cases hc
       | some p=>
        rw [hq] at hc
        injection hc with hc
        subst hc
        rw [(hm.2 j p e hq he').1]
      ·rintro e w' ⟨y,b,rfl,hbel,hown,hfree⟩
       show After w0 A κ o v m' a (a.put o.dst y) w'
       obtain ⟨q1,q2⟩:=hs.grow hbel (S':=κ.S) (fun b hb=> hb) (fun b hb=> Or.inl hb)
       have hres:Res κ.S w' (.ow sz rs) y [b]:=⟨b,rfl,hown.1,by
        rcases hown.2 with h | ⟨g,T,cur,cap,h1,h2,h3,h4,h5,h6,h7⟩
        ·exact Or.inl h
        ·exact Or.inr ⟨g,T,cur,cap,h1,h2,h3,h4,h5,h6,fun i j e x k1 k2=> by
          obtain ⟨z,z1,z2⟩:=h7 i j e x k1 k2
          exact ⟨z,z1,z2.mono (fun b hb=> hb.elim) fun b hb=> hb.elim⟩⟩⟩
       obtain ⟨m2,κ2,yy,t1,t2,t3,t4,t5⟩:=recv_runs q1 hres (by
        unfold Apart
        cases b <;> simp) (fun c hc=> by
        have hc:b=some c:=(List.mem_singleton.1 hc).symm
        obtain ⟨o1,o2⟩:=hfree c hc
        refine ⟨Or.inl (Nat.le_trans hs.below.size o1),o2,fun hS=> ?_,fun s g i hi hb=> ?_⟩
        ·have:=(hs.st c hS).1;omega
        ·have:=(hs.own s g i c hi hb).2
         omega) h
       obtain ⟨rfl,rfl⟩:=ret_inv t5
       exact ⟨κ2,t3,t1,q2.trans t2,y,rfl,t4⟩
   split at h
   ·rename_i s2 g2
    cases h with
    | rdm hj h=>
     rename_i ck es
     cases h with
     | call hf h=>
      refine key (.mp s2 g2) es ck _ rfl (fun u hu=> ?_) hf h
      obtain ⟨mb,ents,clock,hev,hbk,hmh,hm,hst⟩:=map_block hs hj hu
      exact ⟨mb,ents,clock,hev,hmh,hm,hst⟩
   ·cases h
 ·cases h
theorem OwnAt.plain {S S2:Nat→Prop} {w:World} {sz:Nat} {es:List (List D)} {v:Value} {b:Option Nat} (h:OwnAt S w sz es v b) (hp:PlainL es):OwnAt S2 w sz es v b:=by
 obtain ⟨h1,h2⟩:=h
 refine ⟨h1,?_⟩
 rcases h2 with h2 | ⟨g,T,cur,cap,k1,k2,k3,k4,k5,k6,k7⟩
 ·exact Or.inl h2
 ·refine Or.inr ⟨g,T,cur,cap,k1,k2,k3,k4,k5,k6,fun i j e x hi hj=> ?_⟩
  obtain ⟨u,e1,e2⟩:=k7 i j e x hi hj
  refine ⟨u,e1,?_⟩
  obtain ⟨y,rfl⟩:=hp e (List.mem_of_getElem? hi) x (List.mem_of_getElem? hj)
  cases e2 with
  | v _ h1=> exact .v _ h1
theorem sim_own (hF:∀f args r,F f args r→FnX w0.dr P f args r) (hs:Sim w0 A m κ) (he:EnvOk κ env a.tmps) {fv:Operand} {xs:Array Operand} {ts:Array TypeId} {s0:Nat} (ho:o.op= .call {callee:= .value fv,args:=xs,argTypes:=ts}) (h:(ocallF T s0 fv (xs.toList.map (rhoOf env))).Runs F m v m'):
  o.wp P a κ.w (fun a' w'=> After w0 A κ o v m' a a' w') Q:=by
 unfold ocallF at h
 split at h
 ·rename_i f
  cases h3:Nat.beq (ownF T f) 3
  case true=>
   rw [h3] at h
   exact sim_keys hF hs he ho h
  rw [h3] at h
  simp only [cond_false] at h
  cases h4:Nat.beq (ownF T f) 4
  case true=>
   rw [h4] at h
   exact sim_skeys hF hs he ho h
  rw [h4] at h
  simp only [cond_false] at h
  cases h7:Nat.beq (ownF T f) 7
  case true=>
   rw [h7] at h
   exact sim_obj hF hs he ho (.refl κ) rfl h
  rw [h7] at h
  simp only [cond_false] at h
  cases h6:Nat.beq (ownF T f) 6
  case true=>
   rw [h6] at h
   obtain ⟨m1,κ1,g1,g2,g3,h⟩:=objP_runs _ _ m κ hs h
   exact sim_obj hF g1 (he.mono g2) ho g2 g3.symm h
  rw [h6] at h
  simp only [cond_false] at h
  clear h3 h4 h6 h7
  generalize hxs:xs.toList.map (rhoOf env)=zs at h
  generalize ownF T f=way at h
  unfold ownCF at h
  split at h
  ·rename_i s g n vs
   obtain ⟨x0,xr,hx,hx0,hxr⟩:∃x0 xr,xs.toList=x0::xr∧rhoOf env x0=some (.row s g n)∧xr.map (rhoOf env)=vs:=by
    cases hq:xs.toList with
    | nil=> rw [hq] at hxs;cases hxs
    | cons x0 xr=>
     rw [hq] at hxs
     injection hxs with h1 h2
     exact ⟨x0,xr,rfl,h1,h2⟩
   have hrow:=ev_rel he hx0
   obtain ⟨ys,l,h,hr,hrows⟩:=argTW_runs vs _ m κ (xr.map a.eval) v m' hs (by rw [←hxr];simp) (fun j c u hc hu=> by
    rw [←hxr] at hc
    rw [List.getElem?_map] at hc hu
    cases hq:xr[j]? with
    | none=> rw [hq] at hc;simp at hc
    | some q=>
     rw [hq] at hc hu
     simp at hc hu
     subst hu
     exact ev_rel he hc) h
   have hrun:(∀(args:Array Value) (w:World),(callFunc f args).run P w= .ok (.enter f args) w)→(execOp a.eval o).run P κ.w= .ok (.enter f (#[a.eval x0] ++ (xr.map a.eval).toArray)) κ.w:=by
    intro h1
    have e:xs.map a.eval= #[a.eval x0] ++ (xr.map a.eval).toArray:=by
     apply Array.ext'
     simp [hx]
    have ef:a.eval (.func f)= .func (.func f) #[] #[]:=rfl
    unfold execOp
    rw [ho]
    simp [resolve,ef,Deferred.ofValue,invoke,h1,e]
   cases hni:notIn l s g
   ·rw [hni] at h;cases h
   rw [hni] at h
   simp only [cond_true] at h
   generalize hu:a.eval x0=u at hrow hrun
   cases hway:Nat.beq way 1
   ·rw [hway] at h
    simp only [cond_false] at h
    cases h with
    | rww hi h=>
     rename_i sz es
     cases h with
     | call hf h=>
      rename_i x
      have hfn:FnW w0.dr P f sz es ys x:=hF f _ x hf
      have hbS:∀c,(κ.φ s g).blk=some c→w0.New c∧c < κ.w.heap.size∧¬κ.S c:=fun c hc=>
       ⟨(hs.own s g _ c hi hc).1,(hs.own s g _ c hi hc).2,hs.notS s g _ c hi hc rfl⟩
      have hc:=hfn.2 κ.w (fun b=> κ.S b∨BlkOf κ l b) κ.S u (κ.φ s g).blk (xr.map a.eval).toArray hs.inv (fun c hc=> hs.noTab hi hc) (fun b hb=> by
       rcases hb with hb | ⟨p,hp,hb⟩
       ·exact (hs.st b hb).1
       ·obtain ⟨i,hi⟩:=hrows p hp
        exact (hs.own p.1 p.2 _ b hi hb).2) (fun _ h=> Or.inl h) (row_own hs hi hrow) (fun c hc=> ⟨(hbS c hc).2.1,by
        rintro (hS | ⟨p,hp,hS⟩)
        ·exact (hbS c hc).2.2 hS
        ·obtain ⟨i,hip⟩:=hrows p hp
         have:=hs.sep s g _ p.1 p.2 i c hi hip hc hS rfl
         have hq:=List.all_eq_true.1 hni p hp
         rw [this.1,this.2] at hq
         simp at hq⟩) (by simpa using hr)
      unfold Oper.wp
      rw [hrun hfn.1]
      refine Calls.mono hc ?_
      rintro e w' ⟨y,rfl,hbel,hres⟩
      show After w0 A κ o v m' a (a.put o.dst y) w'
      unfold ownR2 at h
      split at h
      ·rename_i sz' es'
       cases hz:Nat.beq sz sz'
       ·rw [hz] at h;cases h
       rw [hz] at h
       have hz:=Nat.eq_of_beq_eq_true hz
       subst hz
       simp only [cond_true] at h
       obtain ⟨S',b',hS',hown',hb'⟩:=hres
       cases h with
       | chk hpl h=>
       cases h with
       | wr h=>
        cases h with
        | app hi2 h=>
         rw [setAt,if_pos ⟨rfl,rfl⟩] at hi2
         injection hi2 with hi2
         injection hi2 with q1 q2 q3
         subst q2
         obtain ⟨rfl,rfl⟩:=ret_inv h
         rw [set_none,List.append_nil]
         have hd:=hs.drop s g
         have sepd:∀c,(κ.φ s g).blk=some c→∀x y i,(m.set s g none).at_ x y=some i→(κ.φ x y).blk≠some c:=by
          intro c hc x y i hxy e
          rw [setAt] at hxy
          split at hxy
          ·cases hxy
          ·rename_i hne
           have:=hs.sep s g _ x y i c hi hxy hc e rfl
           exact hne ⟨this.1.symm,this.2.symm⟩
         obtain ⟨t1,t2⟩:=hd.growX hbel (fun c hc=> ⟨(hbS c hc).1,(hbS c hc).2.2,sepd c hc⟩) (S':=κ.S) (fun c hc=> hc) (fun c hc=> Or.inl hc)
         have free:∀c,b'=some c→Free w0 (m.set s g none) {κ with w:=w',S:=κ.S} c:=by
          intro c hc
          obtain ⟨f1,f2,f3⟩:=hb' c hc
          refine ⟨?_,f2,?_,?_⟩
          ·rcases f1 with f1 | f1
           ·exact (hbS c f1).1
           ·exact Or.inl (Nat.le_trans hs.below.size f1)
          ·intro hS
           rcases f1 with f1 | f1
           ·exact (hbS c f1).2.2 hS
           ·have:=(hs.st c hS).1
            omega
          ·intro x y i hxy e
           rcases f1 with f1 | f1
           ·exact sepd c f1 x y i hxy e
           ·have:=(hd.own x y i c hxy e).2
            omega
         have hown2:OwnAt κ.S w' sz es' y b':=hown'.plain hpl
         obtain ⟨m2,κ2,yy,g1,g2,g3,g4,g5,g6,g7⟩:=recv1_runs (F:=F) (k:=fun z=> .ret z) (v:= .row s ((m.set s g none).gen s + 1) es'.length) (m':=(m.set s g none).add s (.rows sz es' false)) (x:= .ow sz es') (s:=s) t1 hown2 free (.new .ret)
         obtain ⟨e1,e2⟩:=ret_inv g6
         rw [←e2] at g1
         rw [←e1] at g5
         exact ⟨κ2,g3,g1,t2.trans g2,y,rfl,g5⟩
      ·cases h
   ·rw [hway] at h
    simp only [cond_true] at h
    cases h with
    | rww hi h=>
     rename_i sz es
     cases h with
     | call hf h=>
      rename_i x
      have hfn:FnW w0.dr P f sz es ys x:=hF f _ x hf
      have hbS:∀c,(κ.φ s g).blk=some c→w0.New c∧c < κ.w.heap.size∧¬κ.S c:=fun c hc=>
       ⟨(hs.own s g _ c hi hc).1,(hs.own s g _ c hi hc).2,hs.notS s g _ c hi hc rfl⟩
      have hc:=hfn.2 κ.w (fun b=> κ.S b∨BlkOf κ l b) κ.S u (κ.φ s g).blk (xr.map a.eval).toArray hs.inv (fun c hc=> hs.noTab hi hc) (fun b hb=> by
       rcases hb with hb | ⟨p,hp,hb⟩
       ·exact (hs.st b hb).1
       ·obtain ⟨i,hi⟩:=hrows p hp
        exact (hs.own p.1 p.2 _ b hi hb).2) (fun _ h=> Or.inl h) (row_own hs hi hrow) (fun c hc=> ⟨(hbS c hc).2.1,by
        rintro (hS | ⟨p,hp,hS⟩)
        ·exact (hbS c hc).2.2 hS
        ·obtain ⟨i,hip⟩:=hrows p hp
         have:=hs.sep s g _ p.1 p.2 i c hi hip hc hS rfl
         have hq:=List.all_eq_true.1 hni p hp
         rw [this.1,this.2] at hq
         simp at hq⟩) (by simpa using hr)
      unfold Oper.wp
      rw [hrun hfn.1]
      refine Calls.mono hc ?_
      rintro e w' ⟨y,rfl,hbel,hres⟩
      show After w0 A κ o v m' a (a.put o.dst y) w'
      unfold ownR1 at h
      split at h
      ·rename_i sz' es'
       cases hz:Nat.beq sz sz'
       ·rw [hz] at h;cases h
       rw [hz] at h
       have hz:=Nat.eq_of_beq_eq_true hz
       subst hz
       simp only [cond_true] at h
       obtain ⟨rfl,S',hS',hown',hnS⟩:=hres
       cases h with
       | chk hlen h=>
        cases h with
        | wr h=>
         obtain ⟨rfl,rfl⟩:=ret_inv h
         have hd:=hs.drop s g
         have sepd:∀c,(κ.φ s g).blk=some c→∀x y i,(m.set s g none).at_ x y=some i→(κ.φ x y).blk≠some c:=by
          intro c hc x y i hxy e
          rw [setAt] at hxy
          split at hxy
          ·cases hxy
          ·rename_i hne
           have:=hs.sep s g _ x y i c hi hxy hc e rfl
           exact hne ⟨this.1.symm,this.2.symm⟩
         obtain ⟨t1,t2⟩:=hd.growX hbel (fun c hc=> ⟨(hbS c hc).1,(hbS c hc).2.2,sepd c hc⟩) (S':=fun c=> κ.S c∨(S' c∧κ.w.heap.size≤c)) (fun c hc=> Or.inl hc) (fun c hc=> hc.imp id fun h=> ⟨h.2,(hS' c h.1).1⟩)
         have hsub:∀c,S' c→κ.S c∨(S' c∧κ.w.heap.size≤c):=fun c hc=> (hS' c hc).2.imp id fun h=> ⟨hc,h⟩
         obtain ⟨i1,i2,i3⟩:=hs.ok s g _ hi
         have hin:InstOk {κ with w:=w',S:=fun c=> κ.S c∨(S' c∧κ.w.heap.size≤c)} (κ.φ s g) (.rows sz es' false):=by
          refine own_inst (OwnAt.mono hsub hown') rfl (by rw [←i1];exact hlen.symm) ?_ ?_
          ·rintro B q c rfl hne
           cases hrow with
           | row0 A' hg hb hl=> exact absurd hb hne
           | row hg hb=> rfl
          ·intro hne
           rcases i3 with ⟨h4,_⟩ | ⟨b',tt,cur,hb',hz,_⟩
           ·exact absurd h4 hne
           ·exact hz
         have t3:=t1.back (hs.gens s g _ hi) rfl hin (fun c hc=> ⟨(hbS c hc).1,Nat.lt_of_lt_of_le (hbS c hc).2.1 hbel.size,fun hS=> by
          rcases hS with hS | ⟨hS,_⟩
          ·exact (hbS c hc).2.2 hS
          ·exact hnS c hc hS,sepd c hc⟩)
         exact ⟨_,rfl,t3,t2,_,rfl,.tup rfl fun j c v h=> by simp at h⟩
      ·cases h
  ·cases h
 ·cases h
theorem op_sim (hT:TOk P T) (heq:∀t,(T t).eqs=true→(T t).known=true) (hF:∀f args r,F f args r→FnX w0.dr P f args r) {base:Nat} (hs:Sim w0 A m κ) (he:EnvOk κ env a.tmps) (h:(opF T base env o).Runs F m v m'):
  o.wp P a κ.w (fun a' w'=> After w0 A κ o v m' a a' w') Q:=by
 unfold opF at h
 split at h
 ·rename_i x ho
  exact sim_move hs he (by unfold execOp;rw [ho];rfl) h
 ·rename_i x ho
  exact sim_move hs he (by unfold execOp;rw [ho];rfl) h
 ·rename_i ho;exact sim_pick hs he ho h
 ·rename_i ho;exact sim_alloc hT hs ho h
 ·rename_i ho;exact sim_box hs he ho h
 ·rename_i ho;exact sim_build hT hs he ho h
 ·rename_i ho
  split at h
  ·rename_i hk;exact sim_bslice hT hs he ho hk h
  ·cases h
 ·rename_i ho;exact sim_load hT hs he ho h
 ·rename_i ho;exact sim_store hT hs he ho h
 ·rename_i ho;exact sim_nilck hs he ho h
 ·rename_i op t x y yt ho
  cases hp:isNilP y
  ·rw [hp] at h
   simp only [cond_false] at h
   cases hb:isNilC y
   ·rw [hb] at h;exact sim_bin hT hs he ho h (heq _)
   ·rw [hb] at h;exact sim_nil hT hs he ho hb h
  ·rw [hp] at h;exact sim_nilp hT hs he ho hp h
 ·rename_i ho;exact sim_un hs he ho h
 ·rename_i ho;exact sim_conv hT hs he ho h
 ·rename_i ho;exact sim_mfunc hs he ho h
 ·rename_i ho;exact sim_slice hT hs he ho h
 ·rename_i ho;exact sim_faddr hT hs he ho h
 ·rename_i ho;exact sim_field hT hs he ho h
 ·rename_i ho;exact sim_iaddr hT hs he ho h
 ·rename_i ho;exact sim_index hT hs he ho h
 ·rename_i ho;exact sim_extract hs he ho h
 ·rename_i ho;exact sim_len hT hs he ho h
 ·rename_i x y t t' ho
  split at h
  ·rename_i e z hk
   cases hb:Nat.beq t t'
   ·rw [hb] at h;cases h
   ·rw [hb] at h
    have hb:=Nat.eq_of_beq_eq_true hb
    subst hb
    exact sim_append hT hs he ho hk h
  ·cases h
 ·rename_i x y t t' ho
  split at h
  ·rename_i e z hk
   cases hb:Nat.beq t t'
   ·rw [hb] at h;cases h
   ·rw [hb] at h
    have hb:=Nat.eq_of_beq_eq_true hb
    subst hb
    exact sim_copy hT hs he ho hk h
  ·cases h
 ·rename_i ho
  split at h
  ·rename_i hk;exact sim_clear hT hs he ho hk h
  ·cases h
 ·rename_i ho
  split at h
  ·rename_i hk;exact sim_makes hT hs he ho hk h
  ·cases h
 ·rename_i ho;exact sim_mkmap hT hs ho h
 ·rename_i ho;exact sim_lookup hT hs he ho h
 ·rename_i ho;exact sim_mupd hT hs he (Or.inl ho) h
 ·rename_i ho;exact sim_mupd hT hs he (Or.inr ho) h
 ·rename_i ho;exact sim_mdel hT hs he ho h
 ·rename_i ho;exact sim_min hs he ho h
 ·rename_i ho;exact sim_max hs he ho h
 ·rename_i fv xs ts ho
  cases hb:Nat.beq (ownOf T fv) 0
  ·rw [hb] at h;exact sim_own hF hs he ho h
  ·rw [hb] at h;exact sim_call hF hs he ho h
 ·cases h
end
end Go.Proofs.YtmgcnoigihdhpaaGreatDoor

/-
  Evaluation of Go code on plain data: make and copy. Over any program.
  Evaluation of Go code on plain data: maps of the call's own. Over any program.
  Evaluation of Go code on plain data: clear. Over any program.
-/
import Derived.Test.YtiklglcjecopcaaGreatDoorEvK
import Derived.Laws.MakeOwn
import Derived.MapKept
namespace Go.Proofs.YtiklglcjecopcaaGreatDoor
open Go.RowKit
theorem datasZ_get {κ:Cx}:∀{cs:List AV} {ds:List D} {vs:List Value},datasZ cs=some ds→RelL κ cs vs→ds.length=vs.length∧∀(j:Nat) (x:D) (u:Value),ds[j]? =some x→vs[j]? =some u→RelD κ.S κ.w x u
 | [],ds,vs,h,hr=> by
  injection h with h
  subst h
  rw [hr.nil_inv]
  exact ⟨rfl,fun j x u h=> by simp at h⟩
 | c::cs,ds,vs,h,hr=> by
  obtain ⟨v,vs',rfl,h1,h2⟩:=hr.cons_inv
  have go:∀(y:D) (l:List D),datasZ cs=some l→RelD κ.S κ.w y v→(y::l).length=(v::vs').length∧∀(j:Nat) (x:D) (u:Value),(y::l)[j]? =some x→(v::vs')[j]? =some u→RelD κ.S κ.w x u:=by
   intro y l hl hy
   obtain ⟨q1,q2⟩:=datasZ_get hl h2
   refine ⟨by simp [q1],fun j x u hx hu=> ?_⟩
   cases j with
   | zero=> simp at hx hu;subst hx hu;exact hy
   | succ j=> exact q2 j x u (by simpa using hx) (by simpa using hu)
  cases c with
  | d y=>
   simp only [datasZ] at h
   cases hq:datasZ cs with
   | none=> rw [hq] at h;cases h
   | some l=>
    rw [hq] at h
    injection h with h
    subst h
    cases h1 with
    | d h1=> exact go y l hq h1
  | nl=>
   simp only [datasZ] at h
   cases hq:datasZ cs with
   | none=> rw [hq] at h;cases h
   | some l=>
    rw [hq] at h
    injection h with h
    subst h
    cases h1 with
    | nl A'=> exact go _ l hq (.fz0 _ _ fun _=> rfl)
  | _=> cases h
theorem made_get (z:Array Value) (n q:Nat) (h:q < n):(madeCells z n)[q]? =some (z[q % z.size]!):=by
 simp [madeCells,h]
section
variable {P : Program} {T : Nat → TI} {F : FuncId → List AV → AV → Prop} {w0 : Start} {A : Nat → Prop} {o : Oper} {a : Act} {κ : Cx} {m m' : Mem} {v : AV} {Q : Exit → Act → World → Prop} {env : Nat → Option AV}
theorem sim_makes (hT:TOk P T) (hs:Sim w0 A m κ) (he:EnvOk κ env a.tmps) {t e z s:Nat} {l c:Operand} (ho:o.op= .makeSlice t l c) (hk:(T t).k= .slice e z) (h:(makesF (T e) s (rhoOf env l) (rhoOf env c)).Runs F m v m'):
  o.wp P a κ.w (fun a' w'=> After w0 A κ o v m' a a' w') Q:=by
 unfold makesF at h
 cases hb:((T e).known && Nat.blt 0 (T e).size && Nat.ble (T e).size 16 && Nat.ble (T e).bytes 1000)
 ·rw [hb] at h;cases h
 ·rw [hb] at h
  simp only [Bool.and_eq_true] at hb
  obtain ⟨⟨⟨hkn,hpos⟩,h16⟩,hb1000⟩:=hb
  have hpos:0 < (T e).size:=Nat.lt_of_succ_le (Nat.le_of_ble_eq_true hpos)
  have h16:=Nat.le_of_ble_eq_true h16
  have hb1000:=Nat.le_of_ble_eq_true hb1000
  have ht:=hT e hkn
  obtain ⟨it,hit,hsz,hby,hz⟩:=ht.info
  obtain ⟨dd,hu,hd,_⟩:=hT.kok hk (by simp)
  have hd:dd=_:=hd
  subst hd
  generalize hl:rhoOf env l=la at h
  generalize hc:rhoOf env c=ca at h
  generalize hzd:zeroD (T e)=za at h
  simp only [cond_true] at h
  split at h
  ·rename_i kl n kc c' zd
   obtain ⟨⟨h0,hnc,hcm⟩,h⟩:=chk_inv h
   cases h with
   | new h=>
    obtain ⟨rfl,rfl⟩:=ret_inv h
    have hlv:=(ev_rel he hl).val
    have hcv:=(ev_rel he hc).val
    obtain ⟨cn,rfl⟩:=Int.eq_ofNat_of_zero_le (show 0≤c' by omega)
    obtain ⟨nn,rfl⟩:=Int.eq_ofNat_of_zero_le h0
    have hnc':nn≤cn:=by omega
    have hcm':cn≤1000000:=by omega
    have hcells:cn * it.size≤16777216:=by
     rw [hsz]
     exact Nat.le_trans (Nat.mul_le_mul hcm' h16) (by decide)
    have hbytes:(it.bytes:Int) * (cn:Int)≤281474976710656:=by
     rw [hby]
     have:(T e).bytes * cn≤1000 * 1000000:=Nat.mul_le_mul hb1000 hcm'
     have h2:(((T e).bytes * cn:Nat):Int)≤((1000 * 1000000:Nat):Int):=Int.ofNat_le.2 this
     rw [Int.natCast_mul] at h2
     omega
    have hrun:(execOp a.eval o).run P κ.w= .ok (.value (.slice (some ⟨κ.w.heap.size,0,none⟩) nn cn)) (κ.w.alloc (.cells (madeCells (T e).zero.cells (cn * (T e).size)) e)):=by
     have:=run_makeSlice (P:=P) κ.w t e it (T e).zero hu hit hz kl kc (nn:Int) (cn:Int) h0 hnc (by simpa using hcells) hbytes (by omega)
     unfold execOp
     rw [ho]
     simp only [hlv,hcv,this,Sem.run_bind,Result.andThen_ok,Sem.run_pure,hsz]
     simp
    refine wp_val hrun ?_
    have hzr:=(ofConst_rel κ _ ht.zok).unk
    have hzone:(cellsOf (unk (ofConst (T e).zero))).all isOne=true:=by
     have all:∀(cs:List AV) (ds:List D),datasZ cs=some ds→cs.all isOne=true:=by
      intro cs
      induction cs with
      | nil=> intro _ _;rfl
      | cons c cs ih=>
       intro ds hds
       cases c with
       | d y=>
        simp only [datasZ] at hds
        cases hq:datasZ cs with
        | none=> rw [hq] at hds;cases hds
        | some l=> simp [isOne,ih l hq]
       | nl=>
        simp only [datasZ] at hds
        cases hq:datasZ cs with
        | none=> rw [hq] at hds;cases hds
        | some l=> simp [isOne,ih l hq]
       | _=> cases hds
     exact all _ _ hzd
    obtain ⟨hzc,_⟩:=hzr.cells hzone
    obtain ⟨hzl,hzg⟩:=datasZ_get hzd hzc
    have hzsz:zd.length=(T e).size:=by rw [hzl,Array.length_toList,ht.zsz]
    have hsize:(T e).zero.cells.size=(T e).size:=ht.zsz
    obtain ⟨q1,q2⟩:=hs.add (belowD_alloc κ.w (.cells (madeCells (T e).zero.cells (cn * (T e).size)) e)) s (.rows (T e).size (List.replicate nn zd) false) ⟨some κ.w.heap.size,cn,(T e).size,nn⟩ (fun b hb=> by injection hb with hb;subst hb;exact hs.fresh (Nat.le_refl _) (by simp)) rfl
     (fun hle=> ⟨by simp,fun x hx=> by rw [List.eq_of_mem_replicate hx];exact hzsz,Or.inr ⟨_,e,_,rfl,rfl,heap_alloc_new _ _,hnc',by simp only [maxLen];omega,by rw [size_madeCells],fun i j e' x h1 h2=> by
      have hi:i < nn:=by
       have:=(List.getElem?_eq_some_iff.1 h1).1
       simpa using this
      rw [List.getElem?_replicate,if_pos hi] at h1
      injection h1 with h1
      subst h1
      have hj:j < (T e).size:=by rw [←hzsz];exact (List.getElem?_eq_some_iff.1 h2).1
      have hlt:i * (T e).size + j < cn * (T e).size:=by
       have:(i + 1) * (T e).size≤cn * (T e).size:=Nat.mul_le_mul_right _ (by omega)
       rw [Nat.add_mul] at this
       omega
      have hmod:(i * (T e).size + j) % (T e).size=j:=by rw [Nat.add_comm,Nat.add_mul_mod_self_right,Nat.mod_eq_of_lt hj]
      have hjz:j < (T e).zero.cells.size:=by rw [hsize];exact hj
      refine ⟨(T e).zero.cells[j],?_,hle.relD (hzg j x _ h2 (by simp [hjz]))⟩
      rw [made_get _ _ _ hlt]
      simp only [hsize,hmod]
      rw [getElem!_pos (T e).zero.cells j hjz]⟩⟩)
    refine ⟨_,rfl,q1,q2,_,rfl,?_⟩
    rw [←hs.gn]
    have:=Rel.row (κ:=κ.put s ⟨some κ.w.heap.size,cn,(T e).size,nn⟩ (κ.w.alloc (.cells (madeCells (T e).zero.cells (cn * (T e).size)) e))) (s:=s) (g:=κ.gn s + 1) (b:=κ.w.heap.size) (by rw [Cx.put_gn];exact Nat.le_refl _) (by rw [Cx.put_new])
    rw [Cx.put_new] at this
    simpa using this
  ·cases h
theorem sim_copy (hT:TOk P T) (hs:Sim w0 A m κ) (he:EnvOk κ env a.tmps) {x y:Operand} {t e z:Nat} (ho:o.op= .call {callee:= .builtin .copy,args:= #[x,y],argTypes:= #[t,t]}) (hk:(T t).k= .slice e z) (h:(copyF (T e) (rhoOf env x) (rhoOf env y)).Runs F m v m'):
  o.wp P a κ.w (fun a' w'=> After w0 A κ o v m' a a' w') Q:=by
 unfold copyF at h
 cases hb:((T e).known && Nat.blt 0 (T e).size)
 ·rw [hb] at h;cases h
 ·rw [hb] at h
  simp only [Bool.and_eq_true] at hb
  obtain ⟨hkn,hpos⟩:=hb
  have hpos:0 < (T e).size:=Nat.lt_of_succ_le (Nat.le_of_ble_eq_true hpos)
  have ht:=hT e hkn
  obtain ⟨it,hit,hsz,hby,hz⟩:=ht.info
  obtain ⟨dd,hu,hd,_⟩:=hT.kok hk (by simp)
  have hd:dd=_:=hd
  subst hd
  generalize hx:rhoOf env x=xa at h
  generalize hy:rhoOf env y=ya at h
  simp only [cond_true] at h
  split at h
  ·rename_i s g n d
   obtain ⟨xs,hsrc,h⟩:=elemsOf_runs hs (ev_rel he hy) h
   obtain ⟨hall,h⟩:=chk_inv h
   cases h with
   | rww hi h=>
    rename_i sz es
    dsimp only at h
    cases hbe:Nat.beq sz (T e).size
    ·rw [hbe] at h;cases h
    ·rw [hbe] at h
     have hbe:=Nat.eq_of_beq_eq_true hbe
     subst hbe
     cases h with
     | wr h=>
      obtain ⟨rfl,rfl⟩:=ret_inv h
      have hrun:∀(r:Value) (w':World),(Builtin.copy_ #[t,t] o.type #[a.eval x,a.eval y]).run P κ.w= .ok r w'→After w0 A κ o (I (Nat.min xs.length es.length)) (m.set s g (some (.rows (T e).size (xs.take es.length ++ es.drop xs.length) false))) a (a.put o.dst r) w'→o.wp P a κ.w (fun a' w'=> After w0 A κ o (I (Nat.min xs.length es.length)) (m.set s g (some (.rows (T e).size (xs.take es.length ++ es.drop xs.length) false))) a a' w') Q:=by
       intro r w' hr hK
       refine wp_val ?_ hK
       unfold execOp
       rw [ho]
       simp only [resolve,List.map_toArray,List.map_cons,List.map_nil,Sem.run_bind,Sem.run_pure,Result.andThen_ok,invoke,builtin,hr]
      obtain ⟨hlen,hes,h3⟩:=hs.ok s g _ hi
      have hr:=ev_rel he hx
      generalize hyx:a.eval x=yx at hr
      have hint:∀κ':Cx,Rel κ' (I (Nat.min xs.length es.length)) (goInt (Nat.min xs.length es.length)):=fun κ'=> .d (.v _ rfl)
      have hmn:Nat.min xs.length es.length≤es.length:=Nat.min_le_right _ _
      have none_:Nat.min xs.length es.length=0→(Builtin.copy_ #[t,t] o.type #[a.eval x,a.eval y]).run P κ.w= .ok (goInt (Nat.min xs.length es.length)) κ.w→o.wp P a κ.w (fun a' w'=> After w0 A κ o (I (Nat.min xs.length es.length)) (m.set s g (some (.rows (T e).size (xs.take es.length ++ es.drop xs.length) false))) a a' w') Q:=by
       intro h0 hrn
       have hsame:xs.take es.length ++ es.drop xs.length=es:=by
        rcases Nat.min_eq_zero_iff.1 h0 with h | h
        ·have:xs= []:=List.eq_nil_of_length_eq_zero h
         subst this
         simp
        ·have:es= []:=List.eq_nil_of_length_eq_zero h
         subst this
         simp
       refine hrun _ _ hrn ?_
       rw [hsame]
       have:=hs.set (i':= .rows (T e).size es false) (w':=κ.w) hi rfl rfl (Nat.le_refl _) rfl rfl rfl rfl (fun _ _=> rfl) (fun hle=> (hs.ok s g _ hi).mono hle fun b hb=> rfl)
       exact ⟨_,rfl,this.1,this.2,_,rfl,hint _⟩
      have nothing:∀(A1 A2:Option Addr) (dl dc sl sc:Nat),Nat.min sl dl=0→(Builtin.copy_ #[t,t] o.type #[.slice A1 dl dc,.slice A2 sl sc]).run P κ.w= .ok (goInt 0) κ.w:=by
       intro A1 A2 dl dc sl sc h0
       have hl:∀(b:Addr),(loadCells b 0).run P κ.w= .ok #[] κ.w:=fun b=> by simpa using run_loadCells_list (P:=P) κ.w b [] (by simp)
       cases A1 <;> cases A2 <;> simp [Builtin.copy_,run_underlying hu,Builtin.lenOf,Builtin.firstCells,sizeOf,typeInfo,hit,h0,storeCells,hl]
      cases hr with
      | row0 A' hg hb hl=>
       have hes0:es.length=0:=by rw [hlen,hl]
       have h0:Nat.min xs.length es.length=0:=by rw [hes0];exact Nat.min_zero _
       refine none_ h0 ?_
       rw [hyx,h0]
       rcases flat_src hsrc hall with ⟨rfl,A2,c,hey⟩ | ⟨hne,b,q,c,news,hey,_⟩
       ·rw [hey];exact nothing _ _ _ _ _ _ rfl
       ·rw [hey];exact nothing _ _ _ _ _ _ (Nat.min_zero _)
      | @row _ _ b0 hg hb=>
       rcases h3 with ⟨h4,_⟩ | ⟨b',tt,cur,hb',hzz,hh,hlc,hcm,hcs,hra⟩
       ·rw [h4] at hb;cases hb
       ·rw [hb] at hb'
        injection hb' with hb'
        subst hb'
        rcases flat_src hsrc hall with ⟨rfl,A2,c,hey⟩ | ⟨hne,b,q,c,news,hey,hnl,hcell,h1,hrel⟩
        ·refine none_ (Nat.zero_min _) ?_
         rw [hyx,hey]
         exact nothing _ _ _ _ _ _ (Nat.zero_min _)
        ·generalize hk:Nat.min xs.length es.length=k at *
         have hk1:k≤xs.length:=by rw [←hk];exact Nat.min_le_left _ _
         have hk2:k≤es.length:=by rw [←hk];exact Nat.min_le_right _ _
         have hk3:xs.length≤es.length→k=xs.length:=fun h=> by rw [←hk];exact Nat.min_eq_left h
         have hk4:es.length≤xs.length→k=es.length:=fun h=> by rw [←hk];exact Nat.min_eq_right h
         have hnk:k * (T e).size≤news.length:=by rw [hnl];exact Nat.mul_le_mul_right _ hk1
         have hcl:(news.take (k * (T e).size)).length=k * (T e).size:=by rw [List.length_take];omega
         have hfit:k * (T e).size≤cur.size:=by
          rw [hcs]
          exact Nat.mul_le_mul_right _ (by omega)
         have hone:∀u∈news.take (k * (T e).size),u.oneCell'=true:=fun u hu=> h1 u (List.mem_of_mem_take hu)
         have hrn:(Builtin.copy_ #[t,t] o.type #[a.eval x,a.eval y]).run P κ.w= .ok (goInt k) (κ.w.setRow b0 (over cur.toList 0 (news.take (k * (T e).size))).toArray):=by
          have hf:=run_firstCells_some (P:=P) κ.w it.size k ⟨b,q,none⟩ xs.length c (news.take (k * (T e).size)) (by rw [hsz];exact hcl) (fun j u hu=> hcell j u (by
           rw [List.getElem?_take] at hu
           split at hu
           ·exact hu
           ·cases hu))
          have hst:=run_storeCells_at P b0 0 tt (news.take (k * (T e).size)) 0 cur κ.w hh (by rw [hcl];simpa using hfit) hone
          have hmin:Nat.min xs.length (κ.φ s g).len=k:=by rw [←hlen];exact hk
          simp only [Nat.add_zero] at hst
          rw [hyx,hey]
          simp only [Builtin.copy_]
          simp [run_underlying hu,sizeOf,typeInfo,hit,Builtin.lenOf,hmin,hf,hst,over]
         refine hrun _ _ hrn ?_
         have:=hs.set (i':= .rows (T e).size (xs.take es.length ++ es.drop xs.length) false) (w':=κ.w.setRow b0 (over cur.toList 0 (news.take (k * (T e).size))).toArray) hi rfl rfl (Nat.le_refl _) rfl rfl rfl (setRow_size _ _ _)
          (fun k' hk'=> by
           rw [setRow_other]
           rintro rfl
           exact hk' hb)
          (fun hle=> ⟨by simp;omega,fun e' he'=> by
            rcases List.mem_append.1 he' with h | h
            ·exact hall e' (List.mem_of_mem_take h)
            ·exact hes e' (List.mem_of_mem_drop h),
           Or.inr ⟨_,tt,_,hb,hzz,setRow_heap _ _ cur _ tt _ hh,hlc,hcm,by
            rw [List.size_toArray,over_length _ _ _ (by rw [hcl];simpa using hfit)]
            simpa using hcs,fun i j e' x' hi' hx'=> by
             have hov:∀p,((over cur.toList 0 (news.take (k * (T e).size))).toArray)[p]? =if p < k * (T e).size then news[p]? else cur[p]? :=by
              intro p
              have:=over_get cur.toList 0 (news.take (k * (T e).size)) (by rw [hcl];simpa using hfit) p
              simp only [Nat.not_lt_zero,if_false,Nat.zero_add,hcl,Nat.sub_zero] at this
              rw [List.getElem?_toArray,this]
              by_cases hp:p < k * (T e).size
              ·rw [if_pos hp,if_pos hp,List.getElem?_take,if_pos hp]
              ·rw [if_neg hp,if_neg hp]
               simp
             rw [List.getElem?_append] at hi'
             split at hi'
             ·rename_i hlt
              rw [List.length_take] at hlt
              rw [List.getElem?_take,if_pos (by omega)] at hi'
              have hj:j < (T e).size:=by
               have:=(List.getElem?_eq_some_iff.1 hx').1
               rw [hall e' (List.mem_of_getElem? hi')] at this
               exact this
              have hik:i < k:=by
               rcases Nat.le_total xs.length es.length with h | h
               ·rw [hk3 h];omega
               ·rw [hk4 h];omega
              have hpos':i * (T e).size + j < k * (T e).size:=by
               have:(i + 1) * (T e).size≤k * (T e).size:=Nat.mul_le_mul_right _ (by omega)
               rw [Nat.add_mul] at this
               omega
              obtain ⟨u,hu',hd'⟩:=hrel i j e' x' hi' hx'
              exact ⟨u,by rw [hov,if_pos hpos'];exact hu',hle.relD hd'⟩
             ·rename_i hlt
              rw [List.length_take] at hlt hi'
              rw [List.getElem?_drop] at hi'
              have hii:(List.drop xs.length es).length=es.length - xs.length:=List.length_drop ..
              have hex:xs.length + (i - min es.length xs.length) < es.length:=(List.getElem?_eq_some_iff.1 hi').1
              have hmx:min es.length xs.length=xs.length:=by omega
              rw [hmx] at hi' hlt
              have hie:xs.length + (i - xs.length)=i:=by omega
              rw [hie] at hi'
              have hkx:k=xs.length:=hk3 (by omega)
              have hge:¬i * (T e).size + j < k * (T e).size:=by
               have:k * (T e).size≤i * (T e).size:=Nat.mul_le_mul_right _ (by omega)
               omega
              obtain ⟨u,hu',hd'⟩:=hra i j e' x' hi' hx'
              exact ⟨u,by rw [hov,if_neg hge];exact hu',hle.relD hd'⟩⟩⟩)
         exact ⟨_,rfl,this.1,this.2,_,rfl,hint _⟩
  ·cases h
end
end Go.Proofs.YtiklglcjecopcaaGreatDoor
namespace Go.Proofs.YtiklglcjecopcaaGreatDoor
open Go.RowKit Go.MapKept
theorem ckHas_key {P:Program} {k:TK} {ck:CK} {d:TypeDesc} (hck:ckOf k=some ck) (hd:KOk P k d) {v:Value} (hv:ckHas ck v=true):IsKey d v:=by
 cases k <;> simp only [ckOf] at hck <;> first | (cases hck;done) | skip
 all_goals
  injection hck with hck
  subst hck
  have hd:d=_:=hd
  subst hd
  cases v <;> simp_all [ckHas,IsKey]
theorem ckSame_eq {c d:CK} (h:ckSame c d=true):c=d:=by
 cases c <;> cases d <;> simp_all [ckSame]
theorem i64V_inv {v:Value} (h:i64V v=true):∃n,v= .int .i64 n:=by
 unfold i64V at h
 split at h
 ·exact ⟨_,rfl⟩
 ·cases h
theorem keyEqL_iff:∀(a b:List Value),a.all i64V=true→b.all i64V=true→(keyEqL a b=true↔a=b)
 | [],[],_,_=> by simp [keyEqL]
 | [],_::_,_,_=> by simp [keyEqL]
 | _::_,[],_,_=> by simp [keyEqL]
 | x::r,y::r',ha,hb=> by
  rw [List.all_cons,Bool.and_eq_true] at ha hb
  obtain ⟨m,rfl⟩:=i64V_inv ha.1
  obtain ⟨n,rfl⟩:=i64V_inv hb.1
  simp [keyEqL,keyEq1,keyEqL_iff r r' ha.2 hb.2]
theorem ckHas_st {n:Nat} {v:Value} (h:ckHas (.st n) v=true):∃cs,v= .agg cs∧cs.toList.length=n∧cs.toList.all i64V=true:=by
 unfold ckHas at h
 split at h
 ·rename_i hq
  cases hq
  rw [Bool.and_eq_true,decide_eq_true_eq] at h
  exact ⟨_,rfl,h⟩
 all_goals first | (rename_i hq;cases hq;done) | cases h
theorem keyEq_iff {ck:CK} {a b:Value} (ha:ckHas ck a=true) (hb:ckHas ck b=true):keyEq a b=true↔a=b:=by
 cases ck with
 | st n=>
  obtain ⟨x,rfl,_,hx⟩:=ckHas_st ha
  obtain ⟨y,rfl,_,hy⟩:=ckHas_st hb
  unfold keyEq
  rw [keyEqL_iff _ _ hx hy]
  constructor
  ·intro h
   rw [Array.toList_inj.1 h]
  ·intro h
   injection h with h
   rw [h]
 | _=> cases a <;> cases b <;> simp_all [ckHas,keyEq,bytes_beq]
def findL (kv:Value):List MapEntry→Nat→Option (Nat×Value)
 | [],_=> none
 | e::l,i=> bif keyEq kv e.key then some (i,e.val) else findL kv l (i + 1)
structure KL (P:Program) (kt:Nat) (ck:CK):Prop where
 check:∀(w:World) (e:Bool) (v:Value),ckHas ck v=true→(Instr.checkKey e 10000 kt v).run P w= .ok () w
 find:∀(w:World) (kv:Value),ckHas ck kv=true→∀l:List MapEntry,(∀e∈l,ckHas ck e.key=true)→(Instr.findKey kt kv l).run P w= .ok (findL kv l 0) w
 stays:∀(w:World) (v:Value),ckHas ck v=true→(Instr.keyThatStays v v).run P w= .ok v w
theorem findNow_L {d:TypeDesc} {ck:CK} {kv:Value} (hk:∀v,ckHas ck v=true→IsKey d v) (hkv:ckHas ck kv=true):∀(l:List MapEntry) (i:Nat),(∀e∈l,ckHas ck e.key=true)→Instr.findNow d kv l i=some (findL kv l i)
 | [],i,_=> rfl
 | e::l,i,h=> by
  have h2:=h e (.head _)
  obtain ⟨r,hr,hri⟩:=sameNow_of_keys (hk _ hkv) (hk _ h2)
  have hke:=keyEq_iff hkv h2
  have hrk:r=keyEq kv e.key:=by
   rw [Bool.eq_iff_iff,hri,hke]
  subst hrk
  have ih:=findNow_L hk hkv l (i + 1) (fun x hx=> h x (.tail _ hx))
  simp only [Instr.findNow,hr,findL]
  cases keyEq kv e.key
  ·exact ih
  ·rfl
theorem KL.plain {P:Program} {k:TK} {ck:CK} {kt:Nat} {d:TypeDesc} (hck:ckOf k=some ck) (hd:KOk P k d) (hu:P.underlying kt=some d):KL P kt ck where
 check w e v hv:=MapKept.run_checkKey hu (ckHas_key hck hd hv) e 9999
 find w kv hkv l hl:=MapKept.run_findKey hu (findNow_L (fun v hv=> ckHas_key hck hd hv) hkv l 0 hl)
 stays w v hv:=MapKept.run_keyThatStays (ckHas_key hck hd hv)
theorem relL_plain {κ:Cx}:∀(l:List Value),l.all i64V=true→RelL κ (l.map fun v=> .d (.v v)) l
 | [],_=> by
  exact RelL.nil κ
 | x::r,h=> by
  rw [List.all_cons,Bool.and_eq_true] at h
  obtain ⟨n,rfl⟩:=i64V_inv h.1
  exact RelL.cons (relv κ _) (relL_plain r h.2)
theorem eqCells_plain:∀(ks:List CK) (a b:List Value),ks.all isI64=true→a.length=ks.length→b.length=ks.length→a.all i64V=true→b.all i64V=true→eqCells ks (a.map fun v=> .d (.v v)) (b.map fun v=> .d (.v v))=some (keyEqL a b)
 | [],[],[],_,_,_,_,_=> rfl
 | k::ks,x::r,y::r',hk,ha,hb,hx,hy=> by
  rw [List.all_cons,Bool.and_eq_true] at hk hx hy
  obtain ⟨m,rfl⟩:=i64V_inv hx.1
  obtain ⟨n,rfl⟩:=i64V_inv hy.1
  have hk1:k= .i .i64:=by
   have:=hk.1
   unfold isI64 at this
   split at this
   ·rfl
   ·cases this
  subst hk1
  have ih:=eqCells_plain ks r r' hk.2 (by simpa using ha) (by simpa using hb) hx.2 hy.2
  simp only [List.map_cons,eqCells,ih]
  rfl
 | [],_::_,_,_,ha,_,_,_=> by simp at ha
 | [],[],_::_,_,_,hb,_,_=> by simp at hb
 | _::_,[],_,_,ha,_,_,_=> by simp at ha
 | _::_,_::_,[],_,_,hb,_,_=> by simp at hb
theorem sameBits_ints:∀(a:List Value),a.all i64V=true→((a.zip a).all fun (x,y)=> Instr.sameBits 9999 x y)=true
 | [],_=> rfl
 | x::r,h=> by
  rw [List.all_cons,Bool.and_eq_true] at h
  obtain ⟨n,rfl⟩:=i64V_inv h.1
  rw [List.zip_cons_cons,List.all_cons,sameBits_ints r h.2]
  simp [Instr.sameBits]
theorem KL.struct {P:Program} {kt:Nat} {ek:List CK} {fs:Array Field} (hu:P.underlying kt=some (.struct fs)) (hE:EqS P kt ek) (hk:ek.all isI64=true) (κ:Cx):KL P kt (.st ek.length) where
 check w e v hv:=by
  obtain ⟨cs,rfl,h1,h2⟩:=ckHas_st hv
  exact hE.key hk w e cs h1 h2
 find w kv hkv l hl:=by
  obtain ⟨a,rfl,a1,a2⟩:=ckHas_st hkv
  have ask:∀(l:List MapEntry) (i:Nat),(∀e∈l,ckHas (.st ek.length) e.key=true)→(Instr.findAsking kt (.agg a) l i).run P w= .ok (findL (.agg a) l i) w:=by
   intro l
   induction l with
   | nil=> intro i _;rfl
   | cons e l ih=>
    intro i h
    obtain ⟨b,hb,b1,b2⟩:=ckHas_st (h e (.head _))
    have he:=(hE.eq w a b _ _ _ (.tmp 0) (.tmp 0) κ (relL_plain _ a2) (relL_plain _ b2) (eqCells_plain ek _ _ hk a1 b1 a2 b2)).2.2
    have ih:=ih (i + 1) (fun x hx=> h x (.tail _ hx))
    simp only [Instr.findAsking,hb,Sem.run_bind,he,Result.andThen_ok,findL]
    show _=Result.ok (bif keyEqL a.toList b.toList then _ else _) w
    cases keyEqL a.toList b.toList
    ·simpa using ih
    ·rfl
  unfold Instr.findKey
  simp only [Sem.run_bind,run_underlying hu,Result.andThen_ok]
  cases l with
  | nil=> rfl
  | cons e l=>
   have:Instr.findNow (.struct fs) (.agg a) (e::l) 0=none:=rfl
   rw [this]
   exact ask (e::l) 0 hl
 stays w v hv:=by
  obtain ⟨cs,rfl,h1,h2⟩:=ckHas_st hv
  have:Instr.sameBits 10000 (.agg cs) (.agg cs)=true:=by
   show (cs.size==cs.size && (cs.toList.zip cs.toList).all fun (x,y)=> Instr.sameBits 9999 x y)=true
   rw [sameBits_ints _ h2,beq_self_eq_true]
   rfl
  simp [Instr.keyThatStays,this]
theorem KL.of {P:Program} {T:Nat→TI} (hT:TOk P T) {kt:Nat} {ck:CK} (hck:ckOfT T kt=some ck) (κ:Cx):KL P kt ck:=by
 unfold ckOfT at hck
 split at hck
 ·rename_i fs hk
  cases hb:(T kt).eqs && (T kt).ek.all isI64
  ·rw [hb] at hck;cases hck
  ·rw [hb] at hck
   injection hck with hck
   subst hck
   rw [Bool.and_eq_true] at hb
   obtain ⟨d,hu,hd⟩:=hT.kok hk (by simp)
   obtain ⟨fields,rfl,_⟩:=hd
   exact KL.struct hu ((hT.of hk (by simp)).eq hb.1) hb.2 κ
 ·obtain ⟨d,hu,hd⟩:=hT.kok (t:=kt) rfl (by intro e;rw [e] at hck;cases hck)
  exact KL.plain hck hd hu
theorem findL_get {ck:CK} {kv:Value} (hkv:ckHas ck kv=true) (v:D):∀(l:List MapEntry) (es:List (Value×D)) (i:Nat),l.length=es.length→
  (∀(j:Nat) (p:Value×D) (e:MapEntry),es[j]? =some p→l[j]? =some e→e.key=p.1∧ckHas ck p.1=true)→
  (findL kv l i=none∧mget kv es=none∧mput kv v es=es ++ [(kv,v)]∧mdel kv es=es∧∀e∈l,e.key≠kv)∨∃j e p,findL kv l i=some (i + j,e.val)∧l[j]? =some e∧es[j]? =some p∧e.key=kv∧mget kv es=some p.2∧mput kv v es=es.set j (kv,v)∧mdel kv es=es.eraseIdx j
 | [],es,i,hl,_=> by
  have:es= []:=List.eq_nil_of_length_eq_zero (by rw [←hl];rfl)
  subst this
  exact Or.inl ⟨rfl,rfl,rfl,rfl,by simp⟩
 | e::l,[],i,hl,_=> by simp at hl
 | e::l,p::es,i,hl,h=> by
  obtain ⟨h1,h2⟩:=h 0 p e rfl rfl
  have hke:=keyEq_iff hkv h2
  cases hq:keyEq kv p.1 with
  | true=>
   have hk:=hke.1 hq
   refine Or.inr ⟨0,e,p,?_,rfl,rfl,by rw [h1,hk],?_,?_,?_⟩
   ·simp only [findL,h1,hq,cond_true,Nat.add_zero]
   ·simp only [mget,hq,cond_true]
   ·simp only [mput,hq,cond_true,List.set_cons_zero]
   ·simp only [mdel,hq,cond_true,List.eraseIdx_cons_zero]
  | false=>
   have ih:=findL_get hkv v l es (i + 1) (by simpa using hl) (fun j p' e' hp he=> h (j + 1) p' e' (by simpa using hp) (by simpa using he))
   rcases ih with ⟨q1,q2,q3,q7,q8⟩ | ⟨j,e',p',q1,q2,q3,q4,q5,q6,q7⟩
   ·refine Or.inl ⟨?_,?_,?_,?_,?_⟩
    ·simp only [findL,h1,hq,cond_false];exact q1
    ·simp only [mget,hq,cond_false];exact q2
    ·simp only [mput,hq,cond_false,q3,List.cons_append]
    ·simp only [mdel,hq,cond_false,q7]
    ·intro x hx
     rcases List.mem_cons.1 hx with rfl | hx
     ·intro e0
      rw [h1] at e0
      rw [hke.2 e0.symm] at hq
      cases hq
     ·exact q8 x hx
   ·refine Or.inr ⟨j + 1,e',p',?_,by simpa using q2,by simpa using q3,q4,?_,?_,?_⟩
    ·simp only [findL,h1,hq,cond_false];rw [q1,Nat.add_assoc,Nat.add_comm 1 j]
    ·simp only [mget,hq,cond_false];exact q5
    ·simp only [mput,hq,cond_false,q6,List.set_cons_succ]
    ·simp only [mdel,hq,cond_false,q7,List.eraseIdx_cons_succ]
theorem zero1_rel {S:Nat→Prop} {w:World} {x:Value} {z:D} (h:zero1 x=some z):RelD S w z x:=by
 unfold zero1 at h
 split at h
 ·injection h with h
  subst h
  exact .fz0 _ _ fun _=> rfl
 ·cases h
 ·cases h
 ·cases ho:x.oneCell'
  ·rw [ho] at h;cases h
  ·rw [ho] at h
   injection h with h
   subst h
   exact .v _ ho
theorem zeroC_rel {S:Nat→Prop} {w:World}:∀(vs:List Value) (ds:List D),zeroC vs=some ds→vs.length=ds.length∧∀(j:Nat) (x:D) (y:Value),ds[j]? =some x→vs[j]? =some y→RelD S w x y
 | [],ds,h=> by
  injection h with h
  subst h
  exact ⟨rfl,fun j x y hx=> by simp at hx⟩
 | v::vs,ds,h=> by
  unfold zeroC at h
  split at h
  ·rename_i d ds' h1 h2
   injection h with h
   subst h
   obtain ⟨q1,q2⟩:=zeroC_rel vs ds' h2
   refine ⟨by simp [q1],fun j x y hx hy=> ?_⟩
   cases j with
   | zero=>
    simp at hx hy
    subst hx hy
    exact zero1_rel h1
   | succ j=> exact q2 j x y (by simpa using hx) (by simpa using hy)
  ·cases h
theorem zeroO_rel {S:Nat→Prop} {w:World} {te:TI} {z:D} (h:zeroO te=some z):RelE S w z te.zero:=by
 unfold zeroO at h
 split at h
 ·rename_i cs hz
  cases hq:zeroC cs.toList with
  | none=> rw [hq] at h;cases h
  | some ds=>
   rw [hq] at h
   injection h with h
   subst h
   obtain ⟨q1,q2⟩:=zeroC_rel (S:=S) (w:=w) _ _ hq
   rw [hz]
   exact ⟨cs,rfl,by simpa using q1,fun j x y hx hy=> q2 j x y hx (by simpa using hy)⟩
 ·exact .of (zero1_rel h)
theorem elemD_runs {F:FuncId→List AV→AV→Prop} {w0:Start} {A:Nat→Prop} {x:AV} {k:D→Step} {m:Mem} {κ:Cx} {u:Value} {v:AV} {m':Mem} (hs:Sim w0 A m κ) (hu:Rel κ x u) (h:(elemD x k).Runs F m v m'):
  ∃m1 κ1 y,Sim w0 A m1 κ1∧κ.Le κ1∧κ1.w=κ.w∧RelE κ1.S κ1.w y u∧(k y).Runs F m1 v m':=by
 by_cases hc:∃cs,x= .agg cs
 ·obtain ⟨cs,rfl⟩:=hc
  obtain ⟨us,rfl,hus⟩:=hu.agg_inv
  obtain ⟨m1,κ1,ds,g1,g2,g3,⟨g4,g5⟩,g6⟩:=dataList_runs cs _ m κ us.toList v m' hs hus h
  exact ⟨m1,κ1,.ag ds,g1,g2,g3,⟨us,rfl,by simpa using g4.symm,fun j x y hx hy=> g5 j x y hx (by simpa using hy)⟩,g6⟩
 ·have h':(dataOf x k).Runs F m v m':=by
   cases x <;> first | exact h | exact absurd ⟨_,rfl⟩ hc
  obtain ⟨m1,κ1,y,g1,g2,g3,g4,g5⟩:=dataOf_runs hs hu h'
  exact ⟨m1,κ1,y,g1,g2,g3,.of g4,g5⟩
section
variable {P : Program} {T : Nat → TI} {F : FuncId → List AV → AV → Prop} {w0 : Start} {A : Nat → Prop} {o : Oper} {a : Act} {κ : Cx} {m m' : Mem} {v : AV} {Q : Exit → Act → World → Prop} {env : Nat → Option AV}
theorem sim_mkmap (_hT:TOk P T) (hs:Sim w0 A m κ) {t s:Nat} (ho:o.op= .makeMap t none) (h:(mkmapF T (T t).k s).Runs F m v m'):o.wp P a κ.w (fun a' w'=> After w0 A κ o v m' a a' w') Q:=by
 generalize hk:(T t).k=k at h
 unfold mkmapF at h
 split at h
 ·rename_i kt et
  split at h
  ·rename_i ck hck
   cases h with
   | new h=>
    obtain ⟨rfl,rfl⟩:=ret_inv h
    have hrun:(execOp a.eval o).run P κ.w= .ok (.value (.map (some κ.w.heap.size))) (κ.w.alloc (.map #[] 0)):=by
     unfold execOp
     rw [ho]
     simp [Instr.makeMap,newObj,Sem.run,Result.andThen]
    have hgn:m.gen s + 1=κ.gn s + 1:=by rw [hs.gn]
    obtain ⟨q1,q2⟩:=hs.add (belowD_alloc κ.w (.map #[] 0)) s (.mapi ck []) ⟨some κ.w.heap.size,0,0,0⟩ (fun b hb=> by injection hb with hb;subst hb;exact hs.fresh (Nat.le_refl _) (by simp)) rfl
     (fun hle=> ⟨_,#[],0,rfl,(heap_alloc κ.w _).1,⟨rfl,fun j p e hp=> by simp at hp⟩,stamped_empty 0⟩)
    refine wp_val hrun ⟨_,rfl,q1,q2,_,rfl,?_⟩
    rw [hgn]
    exact .mp (by rw [Cx.put_gn];exact Nat.le_refl _) (by rw [Cx.put_new])
  ·cases h
 ·cases h
theorem MapAt.list {ck:CK} {ents:Array MapEntry} {es:List (Value×D)} (h:MapAt κ ck ents es):ents.toList.length=es.length∧∀(j:Nat) (p:Value×D) (e:MapEntry),es[j]? =some p→ents.toList[j]? =some e→e.key=p.1∧ckHas ck p.1=true:=
 ⟨by simpa using h.1,fun j p e hp he=> ⟨(h.2 j p e hp (by simpa using he)).1,(h.2 j p e hp (by simpa using he)).2.2⟩⟩
theorem MapAt.keys {ck:CK} {ents:Array MapEntry} {es:List (Value×D)} (h:MapAt κ ck ents es):∀e∈ents.toList,ckHas ck e.key=true:=by
 intro e he
 obtain ⟨j,hj,rfl⟩:=List.getElem_of_mem he
 have hl:=h.list.1
 have hp:es[j]? =some es[j]:=List.getElem?_eq_getElem (by omega)
 obtain ⟨h1,h2⟩:=h.list.2 j es[j] _ hp (List.getElem?_eq_getElem hj)
 rw [h1]
 exact h2
theorem plainL_val:∀{cs:List AV} {vs l:List Value},RelL κ cs vs→plainL cs=some l→vs=l
 | [],vs,l,h,hl=> by
  injection hl with hl
  rw [←hl]
  exact h.nil_inv
 | c::cs,vs,l,h,hl=> by
  obtain ⟨v,vs',rfl,hc,hr⟩:=h.cons_inv
  unfold plainL at hl
  split at hl
  ·rename_i hq
   cases hq
  ·rename_i x r hq
   injection hq with hq1 hq2
   subst hq1 hq2
   split at hl
   ·rename_i l' hl'
    injection hl with hl
    rw [←hl,hc.val,plainL_val hr hl']
   ·cases hl
  ·cases hl
theorem keyV_val (he:EnvOk κ env a.tmps) {ix:Operand} {kv:Value} (h:keyV (rhoOf env ix)=some kv):a.eval ix=kv:=by
 generalize hix:rhoOf env ix=c at h
 unfold keyV at h
 split at h
 ·injection h with h
  subst h
  exact (ev_rel he hix).val
 ·split at h
  ·rename_i cs l hl
   injection h with h
   subst h
   obtain ⟨us,hu,hus⟩:=(ev_rel he hix).agg_inv
   rw [hu]
   have:=plainL_val hus hl
   rw [←this]
  ·cases h
 ·cases h
theorem sim_lookup (hT:TOk P T) (hs:Sim w0 A m κ) (he:EnvOk κ env a.tmps) {t:Nat} {x ix:Operand} {ok:Bool} (ho:o.op= .lookup t x ix ok) (h:(lookupF T (T t).k ok (rhoOf env x) (rhoOf env ix)).Runs F m v m'):
  o.wp P a κ.w (fun a' w'=> After w0 A κ o v m' a a' w') Q:=by
 generalize hk:(T t).k=k at h
 generalize hx:rhoOf env x=cx at h
 generalize hix:rhoOf env ix=cix at h
 have hmap:∀(kt et:Nat) (ck:CK) (z:D) (kv:Value) (es:List (Value×D)) (b:Nat) (ents:Array MapEntry) (clock:Nat),k= .map kt et→keyV cix=some kv→ckOfT T kt=some ck→zeroO (T et)=some z→((T et).known && ckHas ck kv)=true→a.eval x= .map (some b)→κ.w.heap[b]? =some (.map ents clock)→MapAt κ ck ents es→v=mres ok (mget kv es) z→m'=m→
   o.wp P a κ.w (fun a' w'=> After w0 A κ o v m' a a' w') Q:=by
  rintro kt et ck z kv es b ents clock rfl hcix hck hz hb hev hh hm rfl rfl
  rw [←hix] at hcix
  rw [Bool.and_eq_true] at hb
  obtain ⟨d0,hu0,hd0⟩:=hT.kok hk (by simp)
  have hd0:d0= .map kt et:=hd0
  subst hd0
  have hK:=KL.of hT hck κ
  obtain ⟨ei,hei,_,_,hez⟩:=(hT et hb.1).info
  have hkv:=keyV_val he hcix
  have hzr:∀{S:Nat→Prop},RelE S κ.w z (T et).zero:=zeroO_rel hz
  have hck':=fun e=> hK.check κ.w e kv hb.2
  have hF:=hK.find κ.w kv hb.2 ents.toList hm.keys
  have fin:∀(u:Value) (r:Bool) (dd:D),(Instr.lookup t (.map (some b)) kv ok).run P κ.w= .ok (if ok then .tuple #[u,.bool r] else u) κ.w→RelE κ.S κ.w dd u→mres ok (mget kv es) z=(bif ok then .tup [mcell dd,B r] else mcell dd)→o.wp P a κ.w (fun a' w'=> After w0 A κ o (mres ok (mget kv es) z) m' a a' w') Q:=by
   intro u r dd hrun hr hv
   refine fin_val hs (x:=if ok then .tuple #[u,.bool r] else u) ?_ ?_
   ·unfold execOp
    rw [ho]
    simp only [hev,hkv,Sem.run_bind,hrun,Result.andThen_ok]
    rfl
   ·rw [hv]
    cases ok
    ·exact .ofE hr
    ·refine .tup rfl fun j c y hc hy=> ?_
     match j,hc,hy with
     | 0,hc,hy=>
      simp at hc hy
      subst hc hy
      exact .ofE hr
     | 1,hc,hy=>
      simp at hc hy
      subst hc hy
      exact relv κ _
     | j + 2,hc,hy=> simp at hc
  rcases findL_get hb.2 z ents.toList es 0 hm.list.1 hm.list.2 with ⟨q1,q2,_⟩ | ⟨j,e,p,q1,q2,q3,q4,q5,_⟩ <;> rw [q1] at hF
  ·refine fin (T et).zero false z ?_ hzr (by rw [q2];rfl)
   simp [Instr.lookup,run_underlying hu0,MapKept.run_getObj_map hh,hck',hF,zeroValue,typeInfo,hei,hez,Result.andThen]
  ·refine fin e.val true p.2 ?_ (hm.2 j p e q3 (by simpa using q2)).2.1 (by rw [q5];rfl)
   simp [Instr.lookup,run_underlying hu0,MapKept.run_getObj_map hh,hck',hF,Result.andThen]
 generalize hkx:keyV cix=kx at h
 unfold lookupF at h
 split at h
 ·rename_i kt et s g kv hkx
  split at h
  ·rename_i ck z hck hz
   cases hb:(T et).known && ckHas ck kv
   ·rw [hb] at h;cases h
   rw [hb] at h
   simp only [cond_true] at h
   cases h with
   | rdm hi h=>
    rename_i ck' es
    dsimp only at h
    cases hsm:ckSame ck ck'
    ·rw [hsm] at h;cases h
    rw [hsm] at h
    have hsm:=ckSame_eq hsm
    subst hsm
    obtain ⟨rfl,rfl⟩:=ret_inv h
    obtain ⟨b,ents,clock,hev,hbk,hh,hm,_⟩:=map_block hs hi (ev_rel he hx)
    exact hmap kt et ck z kv es b ents clock rfl hkx hck hz hb hev hh hm rfl rfl
  ·cases h
 ·rename_i kt et ck' es kv hkx
  split at h
  ·rename_i ck z hck hz
   cases hb:(T et).known && ckHas ck kv && ckSame ck ck'
   ·rw [hb] at h;cases h
   rw [hb] at h
   rw [Bool.and_eq_true] at hb
   have hsm:=ckSame_eq hb.2
   subst hsm
   obtain ⟨rfl,rfl⟩:=ret_inv h
   have hr:=ev_rel he hx
   generalize hu:a.eval x=u at hr
   cases hr with
   | d hr=>
    obtain ⟨b,ents,clock,rfl,hbS,hh,hm,_⟩:=hr.map_inv
    exact hmap kt et ck z kv es b ents clock rfl hkx hck hz hb.1 hu hh hm rfl rfl
  ·cases h
 ·cases h
theorem sim_mupd (hT:TOk P T) (hs:Sim w0 A m κ) (he:EnvOk κ env a.tmps) {t:Nat} {x ix y:Operand} (ho:o.op= .mapUpdate t x ix y∨o.op= .insert t x ix y) (h:(mupdF T (T t).k (rhoOf env x) (rhoOf env ix) (rhoOf env y)).Runs F m v m'):
  o.wp P a κ.w (fun a' w'=> After w0 A κ o v m' a a' w') Q:=by
 generalize hk:(T t).k=k at h
 generalize hx:rhoOf env x=cx at h
 generalize hix:rhoOf env ix=cix at h
 generalize hy:rhoOf env y=cy at h
 generalize hkx:keyV cix=kx at h
 unfold mupdF at h
 split at h
 ·rename_i kt et s g kv yv hkx
  split at h
  ·rename_i ck hck
   cases hb:ckHas ck kv
   ·rw [hb] at h;cases h
   rw [hb] at h
   simp only [cond_true] at h
   obtain ⟨m1,κ1,dd,g1,g2,g3,g4,h⟩:=elemD_runs hs (ev_rel he hy) h
   cases h with
   | rdm hi h=>
    rename_i ck' es
    dsimp only at h
    cases hsm:ckSame ck ck'
    ·rw [hsm] at h;cases h
    rw [hsm] at h
    have hsm:=ckSame_eq hsm
    subst hsm
    simp only [cond_true] at h
    cases h with
    | wr h=>
     obtain ⟨rfl,rfl⟩:=ret_inv h
     obtain ⟨d0,hu0,hd0⟩:=hT.kok hk (by simp)
     have hd0:d0= .map kt et:=hd0
     subst hd0
     have hK:=KL.of hT hck κ
     obtain ⟨b,ents,clock,hev,hbk,hh,hm,hst⟩:=map_block g1 hi ((ev_rel he hx).mono g2)
     rw [←hix] at hkx
     have hkv:=keyV_val he hkx
     have hck':=fun e=> hK.check κ.w e kv hb
     have hF:=hK.find κ.w kv hb ents.toList hm.keys
     have hst':=hK.stays κ.w kv hb
     rw [g3] at hh
     have fin:∀(ents':Array MapEntry) (clock':Nat) (es':List (Value×D)),(Instr.mapUpdate t (.map (some b)) kv (a.eval y)).run P κ.w= .ok () {κ.w with heap:=κ.w.heap.setIfInBounds b (.map ents' clock')}→
       ents'.size=es'.length→(∀(j:Nat) (p:Value×D) (e:MapEntry),es'[j]? =some p→ents'[j]? =some e→(e.key=p.1∧ckHas ck p.1=true)∧RelE κ1.S κ1.w p.2 e.val)→Stamped ents' clock'→mput kv dd es=es'→
       o.wp P a κ.w (fun a' w'=> After w0 A κ o (.tup []) (m1.set s g (some (.mapi ck (mput kv dd es)))) a a' w') Q:=by
      intro ents' clock' es' hrun hsz hrel hst' hes
      subst hes
      have hset:=heap_set (o':= .map ents' clock') hh
      obtain ⟨t1,t2⟩:=g1.set (i':= .mapi ck (mput kv dd es)) (w':={κ1.w with heap:=κ1.w.heap.setIfInBounds b (.map ents' clock')}) hi rfl rfl (Nat.le_refl _) rfl rfl rfl (by simp) (fun q hq=> by
        rw [g3]
        exact hset.2 q fun e=> hq (by rw [e];exact hbk))
       (fun hle=> ⟨b,ents',clock',hbk,by rw [g3];exact hset.1,⟨hsz,fun j p e hp he'=> ⟨(hrel j p e hp he').1.1,hle.relE (hrel j p e hp he').2,(hrel j p e hp he').1.2⟩⟩,hst'⟩)
      refine wp_skp (w':={κ.w with heap:=κ.w.heap.setIfInBounds b (.map ents' clock')}) ?_ ⟨_,by rw [←g3],t1,g2.trans t2,undef,rfl,.tup rfl fun j c y h=> by simp at h⟩
      rcases ho with ho | ho
      ·unfold execOp
       rw [ho]
       simp only [hev,hkv,Sem.run_bind,hrun,Result.andThen_ok]
       rfl
      ·unfold execOp
       rw [ho]
       simp only [hev,hkv,Sem.run_bind,hrun,Result.andThen_ok]
       rfl
     rcases findL_get hb dd ents.toList es 0 hm.list.1 hm.list.2 with ⟨q1,_,q2,_,q6⟩ | ⟨j,e,p,q1,q2,q3,q4,_,q5,_⟩ <;> rw [q1] at hF
     ·refine fin (ents.push ⟨kv,a.eval y,clock⟩) (clock + 1) _ ?_ (by simp [hm.1]) (fun j' p' e' hp he'=> ?_) (stamped_push hst q6) q2
      ·simp [Instr.mapUpdate,run_underlying hu0,MapKept.run_getObj_map hh,hck',hF,MapKept.run_setObj_map _ hh,Result.andThen]
      ·rw [List.getElem?_append] at hp
       rw [Array.getElem?_push] at he'
       split at hp
       ·rename_i hlt
        rw [if_neg (by rw [hm.1];omega)] at he'
        have:=hm.2 j' p' e' hp he'
        exact ⟨⟨this.1,this.2.2⟩,this.2.1⟩
       ·rename_i hge
        by_cases hj:j'=es.length
        ·subst hj
         rw [if_pos hm.1.symm] at he'
         simp at hp he'
         subst hp he'
         exact ⟨⟨rfl,hb⟩,g4⟩
        ·rw [List.getElem?_eq_none (by simp;omega)] at hp
         cases hp
     ·have hj:ents[j]? =some e:=by simpa using q2
      refine fin (ents.modify j fun e=> {e with key:=kv,val:=a.eval y}) clock _ ?_ (by simp [hm.1]) (fun j' p' e' hp he'=> ?_) (stamped_modify hst j _ (fun _ _=> rfl) fun e' _ he'=> by rw [hj] at he';injection he' with he';subst he';exact q4.symm) q5
      ·rw [Nat.zero_add] at hF
       simp [Instr.mapUpdate,run_underlying hu0,MapKept.run_getObj_map hh,hck',hF,hj,q4,hst',MapKept.run_setObj_map _ hh,Result.andThen]
      ·rw [Array.getElem?_modify] at he'
       by_cases hjj:j=j'
       ·subst hjj
        rw [if_pos rfl,hj] at he'
        rw [List.getElem?_set_self (List.getElem?_eq_some_iff.1 q3).1] at hp
        simp at hp he'
        subst hp he'
        exact ⟨⟨rfl,hb⟩,g4⟩
       ·rw [if_neg hjj] at he'
        rw [List.getElem?_set_ne hjj] at hp
        have:=hm.2 j' p' e' hp he'
        exact ⟨⟨this.1,this.2.2⟩,this.2.1⟩
  ·cases h
 ·cases h
theorem sim_mdel (hT:TOk P T) (hs:Sim w0 A m κ) (he:EnvOk κ env a.tmps) {t t':Nat} {x ix:Operand} (ho:o.op= .call {callee:= .builtin .delete,args:= #[x,ix],argTypes:= #[t,t']}) (h:(mdelF T (T t).k (rhoOf env x) (rhoOf env ix)).Runs F m v m'):
  o.wp P a κ.w (fun a' w'=> After w0 A κ o v m' a a' w') Q:=by
 generalize hk:(T t).k=k at h
 generalize hx:rhoOf env x=cx at h
 generalize hix:rhoOf env ix=cix at h
 generalize hkx:keyV cix=kx at h
 unfold mdelF at h
 split at h
 ·rename_i kt et s g kv hkx
  split at h
  ·rename_i ck hck
   cases hb:ckHas ck kv
   ·rw [hb] at h;cases h
   rw [hb] at h
   simp only [cond_true] at h
   cases h with
   | rdm hi h=>
    rename_i ck' es
    dsimp only at h
    cases hsm:ckSame ck ck'
    ·rw [hsm] at h;cases h
    rw [hsm] at h
    have hsm:=ckSame_eq hsm
    subst hsm
    simp only [cond_true] at h
    cases h with
    | wr h=>
     obtain ⟨rfl,rfl⟩:=ret_inv h
     obtain ⟨d0,hu0,hd0⟩:=hT.kok hk (by simp)
     have hd0:d0= .map kt et:=hd0
     subst hd0
     have hK:=KL.of hT hck κ
     obtain ⟨b,ents,clock,hev,hbk,hh,hm,hst⟩:=map_block hs hi (ev_rel he hx)
     rw [←hix] at hkx
     have hkv:=keyV_val he hkx
     have hck':=fun e=> hK.check κ.w e kv hb
     have hF:=hK.find κ.w kv hb ents.toList hm.keys
     have hst':=hK.stays κ.w kv hb
     have fin:∀(ents':Array MapEntry) (es':List (Value×D)),(Builtin.delete_ #[t,t'] o.type #[.map (some b),kv]).run P κ.w= .ok (.tuple #[]) {κ.w with heap:=κ.w.heap.setIfInBounds b (.map ents' clock)}→
       ents'.size=es'.length→(∀(j:Nat) (p:Value×D) (e:MapEntry),es'[j]? =some p→ents'[j]? =some e→(e.key=p.1∧ckHas ck p.1=true)∧RelE κ.S κ.w p.2 e.val)→Stamped ents' clock→mdel kv es=es'→
       o.wp P a κ.w (fun a' w'=> After w0 A κ o (.tup []) (m.set s g (some (.mapi ck (mdel kv es)))) a a' w') Q:=by
      intro ents' es' hrun hsz hrel hst' hes
      subst hes
      have hset:=heap_set (o':= .map ents' clock) hh
      obtain ⟨t1,t2⟩:=hs.set (i':= .mapi ck (mdel kv es)) (w':={κ.w with heap:=κ.w.heap.setIfInBounds b (.map ents' clock)}) hi rfl rfl (Nat.le_refl _) rfl rfl rfl (by simp) (fun q hq=> hset.2 q fun e=> hq (by rw [e];exact hbk))
       (fun hle=> ⟨b,ents',clock,hbk,hset.1,⟨hsz,fun j p e hp he'=> ⟨(hrel j p e hp he').1.1,hle.relE (hrel j p e hp he').2,(hrel j p e hp he').1.2⟩⟩,hst'⟩)
      refine wp_val (w':={κ.w with heap:=κ.w.heap.setIfInBounds b (.map ents' clock)}) ?_ ⟨_,rfl,t1,t2,.tuple #[],rfl,.tup rfl fun j c y h=> by simp at h⟩
      unfold execOp
      rw [ho]
      simp only [resolve,List.map_toArray,List.map_cons,List.map_nil,Sem.run_bind,Sem.run_pure,Result.andThen_ok,invoke,builtin,hev,hkv,hrun]
     rcases findL_get hb (.v kv) ents.toList es 0 hm.list.1 hm.list.2 with ⟨q1,_,_,q2,_⟩ | ⟨j,e,p,q1,q2,q3,_,_,_,q5⟩ <;> rw [q1] at hF
     ·refine fin ents _ ?_ hm.1 (fun j' p' e' hp he'=> ?_) hst q2
      ·simp [Builtin.delete_,run_underlying hu0,MapKept.run_getObj_map hh,hck',hF,MapKept.run_setObj_map _ hh,Result.andThen]
      ·have:=hm.2 j' p' e' hp he'
       exact ⟨⟨this.1,this.2.2⟩,this.2.1⟩
     ·have hj:ents[j]? =some e:=by simpa using q2
      have hlt:j < ents.size:=(Array.getElem?_eq_some_iff.1 hj).1
      have hel:(ents.eraseIdxIfInBounds j).toList=ents.toList.eraseIdx j:=by
       unfold Array.eraseIdxIfInBounds
       rw [dif_pos hlt,Array.toList_eraseIdx]
      have hze:(ents.eraseIdxIfInBounds j).size=(es.eraseIdx j).length:=by
       rw [←Array.length_toList,hel,List.length_eraseIdx,List.length_eraseIdx,hm.list.1]
      refine fin (ents.eraseIdxIfInBounds j) _ ?_ hze (fun j' p' e' hp he'=> ?_) (stamped_erase hst j) q5
      ·rw [Nat.zero_add] at hF
       simp [Builtin.delete_,run_underlying hu0,MapKept.run_getObj_map hh,hck',hF,MapKept.run_setObj_map _ hh,Result.andThen]
      ·rw [←Array.getElem?_toList,hel] at he'
       rw [List.getElem?_eraseIdx] at hp he'
       split at hp
       ·rename_i hlt'
        rw [if_pos hlt'] at he'
        have:=hm.2 j' p' e' hp (by simpa using he')
        exact ⟨⟨this.1,this.2.2⟩,this.2.1⟩
       ·rename_i hlt'
        rw [if_neg hlt'] at he'
        have:=hm.2 (j' + 1) p' e' hp (by simpa using he')
        exact ⟨⟨this.1,this.2.2⟩,this.2.1⟩
  ·cases h
 ·cases h
end
end Go.Proofs.YtiklglcjecopcaaGreatDoor
namespace Go.Proofs.YtiklglcjecopcaaGreatDoor
open Go.RowKit
theorem rowat_over {κ κ':Cx} (hle:κ.Le κ') {cur:Array Value} {sz q:Nat} {es ys:List (List D)} {news:List Value} (hcur:es.length * sz≤cur.size) (hr:RowAt κ cur sz es) (hes:∀e∈es,e.length=sz) (hys:∀e∈ys,e.length=sz)
  (hq:q + ys.length≤es.length) (hnl:news.length=ys.length * sz) (hn:∀(i j:Nat) (e:List D) (x:D),ys[i]? =some e→e[j]? =some x→∃u,news[i * sz + j]? =some u∧RelD κ'.S κ'.w x u):
  (q * sz + news.length≤cur.toList.length)∧RowAt κ' (over cur.toList (q * sz) news).toArray sz (es.take q ++ ys ++ es.drop (q + ys.length)):=by
 have hfit:q * sz + news.length≤cur.toList.length:=by
  rw [hnl,←Nat.add_mul,Array.length_toList]
  exact Nat.le_trans (Nat.mul_le_mul_right _ hq) hcur
 refine ⟨hfit,fun i j e x hi hx=> ?_⟩
 have hget:∀p,((over cur.toList (q * sz) news).toArray)[p]? =if p < q * sz then cur[p]? else if p < q * sz + news.length then news[p - q * sz]? else cur[p]? :=by
  intro p
  have:=over_get cur.toList (q * sz) news hfit p
  rw [List.getElem?_toArray,this]
  simp
 have htl:(es.take q).length=q:=by rw [List.length_take];omega
 have hmem:e∈es.take q ++ ys ++ es.drop (q + ys.length):=List.mem_of_getElem? hi
 have hez:e.length=sz:=by
  rcases List.mem_append.1 hmem with h | h
  ·rcases List.mem_append.1 h with h | h
   ·exact hes e (List.mem_of_mem_take h)
   ·exact hys e h
  ·exact hes e (List.mem_of_mem_drop h)
 have hj:j < sz:=by rw [←hez];exact (List.getElem?_eq_some_iff.1 hx).1
 by_cases h1:i < q
 ·have h2:es[i]? =some e:=by
   rw [List.append_assoc,List.getElem?_append_left (by omega),List.getElem?_take,if_pos h1] at hi
   exact hi
  obtain ⟨u,hu,hd⟩:=hr i j e x h2 hx
  refine ⟨u,?_,hle.relD hd⟩
  have hp:i * sz + j < q * sz:=by
   have:(i + 1) * sz≤q * sz:=Nat.mul_le_mul_right _ (by omega)
   rw [Nat.add_mul] at this
   omega
  rw [hget,if_pos hp]
  exact hu
 ·by_cases h2:i < q + ys.length
  ·have h3:ys[i - q]? =some e:=by
    rw [List.append_assoc,List.getElem?_append_right (by omega),htl,List.getElem?_append_left (by omega)] at hi
    exact hi
   obtain ⟨u,hu,hd⟩:=hn (i - q) j e x h3 hx
   have e1:i * sz=q * sz + (i - q) * sz:=by rw [←Nat.add_mul];congr 1;omega
   have e2:(i - q) * sz + j < news.length:=(List.getElem?_eq_some_iff.1 hu).1
   refine ⟨u,?_,hd⟩
   rw [hget,if_neg (by omega),if_pos (by omega)]
   have:i * sz + j - q * sz=(i - q) * sz + j:=by omega
   rw [this]
   exact hu
  ·have h3:es[i]? =some e:=by
    rw [List.getElem?_append_right (by rw [List.length_append,htl];omega),List.length_append,htl,List.getElem?_drop] at hi
    have:q + ys.length + (i - (q + ys.length))=i:=by omega
    rw [this] at hi
    exact hi
   obtain ⟨u,hu,hd⟩:=hr i j e x h3 hx
   refine ⟨u,?_,hle.relD hd⟩
   have e1:(q + ys.length) * sz≤i * sz:=Nat.mul_le_mul_right _ (by omega)
   rw [Nat.add_mul] at e1
   rw [hget,if_neg (by omega),if_neg (by omega)]
   exact hu
section
variable {P : Program} {T : Nat → TI} {base : Nat} {F : FuncId → List AV → AV → Prop} {w0 : Start} {A : Nat → Prop} {m m' : Mem} {κ : Cx} {a : Act} {env : Nat → Option AV} {v : AV} {o : Oper} {Q : Exit → Act → World → Prop}
theorem zero_get (z:Array Value) (n p:Nat) (h:p < n * z.size):(Builtin.zeroCells z n).toList[p]? =some (z[p % z.size]!):=by
 simp [Builtin.zeroCells,h]
theorem datasZ_one:∀(cs:List AV) (ds:List D),datasZ cs=some ds→cs.all isOne=true:=by
 intro cs
 induction cs with
 | nil=> intro _ _;rfl
 | cons c cs ih=>
  intro ds hds
  cases c with
  | d y=>
   simp only [datasZ] at hds
   cases hq:datasZ cs with
   | none=> rw [hq] at hds;cases hds
   | some l=> simp [isOne,ih l hq]
  | nl=>
   simp only [datasZ] at hds
   cases hq:datasZ cs with
   | none=> rw [hq] at hds;cases hds
   | some l=> simp [isOne,ih l hq]
  | _=> cases hds
theorem sim_clear (hT:TOk P T) (hs:Sim w0 A m κ) (he:EnvOk κ env a.tmps) {x:Operand} {t e z:Nat} (ho:o.op= .call {callee:= .builtin .clear,args:= #[x],argTypes:= #[t]}) (hk:(T t).k= .slice e z) (h:(clearF (T e) (rhoOf env x)).Runs F m v m'):
  o.wp P a κ.w (fun a' w'=> After w0 A κ o v m' a a' w') Q:=by
 unfold clearF at h
 cases hb:((T e).known && Nat.blt 0 (T e).size)
 ·rw [hb] at h;cases h
 ·rw [hb] at h
  simp only [Bool.and_eq_true] at hb
  obtain ⟨hkn,hpos⟩:=hb
  have hpos:0 < (T e).size:=Nat.lt_of_succ_le (Nat.le_of_ble_eq_true hpos)
  have ht:=hT e hkn
  obtain ⟨it,hit,hsz,hby,hz⟩:=ht.info
  obtain ⟨dd,hu,hd,_⟩:=hT.kok hk (by simp)
  have hd:dd=_:=hd
  subst hd
  generalize hx:rhoOf env x=xa at h
  generalize hzd:zeroD (T e)=za at h
  simp only [cond_true] at h
  have fin:∀(s g q n:Nat) (zd:List D) (es:List (List D)) (y:Value),zeroD (T e)=some zd→m.at_ s g=some (.rows (T e).size es false)→a.eval x=y→v= .tup []→m'=m.set s g (some (.rows (T e).size (es.take q ++ List.replicate n zd ++ es.drop (q + n)) false))→q + n≤es.length→
    ((n=0∧∃A' c,y= .slice A' 0 c)∨∃b c,(κ.φ s g).blk=some b∧y= .slice (some ⟨b,q * (T e).size,none⟩) n c)→o.wp P a κ.w (fun a' w'=> After w0 A κ o v m' a a' w') Q:=by
   rintro s g q n zd es y hzd' hi hy rfl rfl hqn hcase
   have hrun:∀(w':World),(Builtin.clear_ #[t] o.type #[a.eval x]).run P κ.w= .ok (.tuple #[]) w'→After w0 A κ o (.tup []) (m.set s g (some (.rows (T e).size (es.take q ++ List.replicate n zd ++ es.drop (q + n)) false))) a (a.put o.dst (.tuple #[])) w'→o.wp P a κ.w (fun a' w'=> After w0 A κ o (.tup []) (m.set s g (some (.rows (T e).size (es.take q ++ List.replicate n zd ++ es.drop (q + n)) false))) a a' w') Q:=by
    intro w' hr hK
    refine wp_val ?_ hK
    unfold execOp
    rw [ho]
    simp only [resolve,List.map_toArray,List.map_cons,List.map_nil,Sem.run_bind,Sem.run_pure,Result.andThen_ok,invoke,builtin,hr]
   obtain ⟨hlen,hes,h3⟩:=hs.ok s g _ hi
   have htup:∀κ':Cx,Rel κ' (.tup []) (.tuple #[]):=fun κ'=> .tup rfl fun j c u hc=> by simp at hc
   by_cases hn0:n=0
   ·subst hn0
    have hsame:es.take q ++ List.replicate 0 zd ++ es.drop (q + 0)=es:=by simp
    have hclr:(Builtin.clear_ #[t] o.type #[a.eval x]).run P κ.w= .ok (.tuple #[]) κ.w:=by
     rw [hy]
     rcases hcase with ⟨_,A',c,rfl⟩ | ⟨b,c,_,rfl⟩
     ·cases A' <;> simp [Builtin.clear_,run_underlying hu]
     ·simp [Builtin.clear_,run_underlying hu]
    refine hrun _ hclr ?_
    rw [hsame]
    have:=hs.set (i':= .rows (T e).size es false) (w':=κ.w) hi rfl rfl (Nat.le_refl _) rfl rfl rfl rfl (fun _ _=> rfl) (fun hle=> (hs.ok s g _ hi).mono hle fun b hb=> rfl)
    exact ⟨_,rfl,this.1,this.2,_,rfl,htup _⟩
   ·rcases hcase with ⟨h0,_⟩ | ⟨b,c,hb,rfl⟩
    ·exact absurd h0 hn0
    ·rcases h3 with ⟨h4,_⟩ | ⟨b',tt,cur,hb',hzz,hh,hlc,hcm,hcs,hra⟩
     ·rw [h4] at hb;cases hb
     ·rw [hb] at hb'
      injection hb' with hb'
      subst hb'
      have hzr:=(ofConst_rel κ _ ht.zok).unk
      obtain ⟨hzc,_⟩:=hzr.cells (datasZ_one _ _ hzd')
      obtain ⟨hzl,hzg⟩:=datasZ_get hzd' hzc
      have hsize:(T e).zero.cells.size=(T e).size:=ht.zsz
      have hzsz:zd.length=(T e).size:=by rw [hzl,Array.length_toList,hsize]
      have hnl:(Builtin.zeroCells (T e).zero.cells n).toList.length=n * (T e).size:=by rw [Array.length_toList,size_zeroCells,hsize]
      have hmod:∀p,p < n * (T e).size→∃x,zd[p % (T e).size]? =some x∧∃u,(Builtin.zeroCells (T e).zero.cells n).toList[p]? =some u∧RelD κ.S κ.w x u:=by
       intro p hp
       have hlt:p % (T e).size < (T e).size:=Nat.mod_lt _ hpos
       have hjz:p % (T e).size < (T e).zero.cells.size:=by rw [hsize];exact hlt
       have hx:zd[p % (T e).size]? =some (zd[p % (T e).size]'(by rw [hzsz];exact hlt)):=List.getElem?_eq_getElem _
       refine ⟨_,hx,(T e).zero.cells[p % (T e).size],?_,hzg _ _ _ hx (by simp [hjz])⟩
       rw [zero_get _ _ _ (by rw [hsize];exact hp),hsize,getElem!_pos (T e).zero.cells _ hjz]
      have hzone:∀u∈(Builtin.zeroCells (T e).zero.cells n).toList,u.oneCell'=true:=by
       intro u hu'
       obtain ⟨p,hp⟩:=List.mem_iff_getElem?.1 hu'
       have hlt:p < n * (T e).size:=by rw [←hnl];exact (List.getElem?_eq_some_iff.1 hp).1
       obtain ⟨x,_,u',h1,h2⟩:=hmod p hlt
       rw [hp] at h1
       injection h1 with h1
       rw [h1]
       exact h2.one
      have hcur:es.length * (T e).size≤cur.size:=by rw [hcs];exact Nat.mul_le_mul_right _ (by omega)
      have hov:∀κ':Cx,κ.Le κ'→(q * (T e).size + (Builtin.zeroCells (T e).zero.cells n).toList.length≤cur.toList.length)∧RowAt κ' (over cur.toList (q * (T e).size) (Builtin.zeroCells (T e).zero.cells n).toList).toArray (T e).size (es.take q ++ List.replicate n zd ++ es.drop (q + n)):=by
       intro κ' hle
       have:=rowat_over hle (q:=q) (ys:=List.replicate n zd) (news:=(Builtin.zeroCells (T e).zero.cells n).toList) hcur hra hes (fun e' he'=> by rw [List.eq_of_mem_replicate he'];exact hzsz) (by simpa using hqn) (by rw [hnl];simp) (fun i j e' x' hi' hx'=> by
        rw [List.getElem?_replicate] at hi'
        split at hi'
        ·rename_i hin
         injection hi' with hi'
         subst hi'
         have hj:j < (T e).size:=by rw [←hzsz];exact (List.getElem?_eq_some_iff.1 hx').1
         have hlt:i * (T e).size + j < n * (T e).size:=by
          have:(i + 1) * (T e).size≤n * (T e).size:=Nat.mul_le_mul_right _ (by omega)
          rw [Nat.add_mul] at this
          omega
         obtain ⟨x,k1,u,k2,k3⟩:=hmod _ hlt
         have hmd:(i * (T e).size + j) % (T e).size=j:=by rw [Nat.add_comm,Nat.add_mul_mod_self_right,Nat.mod_eq_of_lt hj]
         rw [hmd,hx'] at k1
         injection k1 with k1
         subst k1
         exact ⟨u,k2,hle.relD k3⟩
        ·cases hi')
       simpa using this
      have hfit:=(hov κ (.refl κ)).1
      have hst:=run_storeCells_at P b (q * (T e).size) tt (Builtin.zeroCells (T e).zero.cells n).toList 0 cur κ.w hh (by simpa using hfit) hzone
      simp only [Nat.add_zero] at hst
      have hclr:(Builtin.clear_ #[t] o.type #[a.eval x]).run P κ.w= .ok (.tuple #[]) (κ.w.setRow b (over cur.toList (q * (T e).size) (Builtin.zeroCells (T e).zero.cells n).toList).toArray):=by
       rw [hy]
       obtain ⟨k,rfl⟩:∃k,n=k + 1:=⟨n - 1,by omega⟩
       simp only [Array.length_toList] at hst
       simp [Builtin.clear_,run_underlying hu,typeInfo,zeroValue,hit,hz,hst,over]
      refine hrun _ hclr ?_
      have:=hs.set (i':= .rows (T e).size (es.take q ++ List.replicate n zd ++ es.drop (q + n)) false) (w':=κ.w.setRow b (over cur.toList (q * (T e).size) (Builtin.zeroCells (T e).zero.cells n).toList).toArray) hi rfl rfl (Nat.le_refl _) rfl rfl rfl (setRow_size _ _ _)
       (fun k' hk'=> by
        rw [setRow_other]
        rintro rfl
        exact hk' hb)
       (fun hle=> ⟨by simp;omega,fun e' he'=> by
         rcases List.mem_append.1 he' with h | h
         ·rcases List.mem_append.1 h with h | h
          ·exact hes e' (List.mem_of_mem_take h)
          ·rw [List.eq_of_mem_replicate h];exact hzsz
         ·exact hes e' (List.mem_of_mem_drop h),
        Or.inr ⟨_,tt,_,hb,hzz,setRow_heap _ _ cur _ tt _ hh,hlc,hcm,by
         rw [List.size_toArray,over_length _ _ _ hfit]
         simpa using hcs,(hov _ hle).2⟩⟩)
      exact ⟨_,rfl,this.1,this.2,_,rfl,htup _⟩
  split at h
  ·rename_i s g n zd
   cases h with
   | rww hi h=>
    rename_i sz es
    dsimp only at h
    cases hbe:Nat.beq sz (T e).size
    ·rw [hbe] at h;cases h
    ·rw [hbe] at h
     have hbe:=Nat.eq_of_beq_eq_true hbe
     subst hbe
     cases h with
     | wr h=>
      obtain ⟨rfl,rfl⟩:=ret_inv h
      obtain ⟨hlen,_,h3⟩:=hs.ok s g _ hi
      have hr:=ev_rel he hx
      generalize hyx:a.eval x=yx at hr
      cases hr with
      | row0 A' hg hb hl=> exact fin s g 0 0 zd es _ hzd hi hyx rfl (by simp [List.eq_nil_of_length_eq_zero (hlen.trans hl)]) (Nat.zero_le _) (Or.inl ⟨rfl,_,_,rfl⟩)
      | row hg hb=>
       have e1:m.set s g (some (.rows (T e).size (List.replicate (κ.φ s g).len zd) false))=m.set s g (some (.rows (T e).size (es.take 0 ++ List.replicate (κ.φ s g).len zd ++ es.drop (0 + (κ.φ s g).len)) false)):=by rw [←hlen];simp
       exact fin s g 0 (κ.φ s g).len zd es _ hzd hi hyx rfl e1 (by omega) (Or.inr ⟨_,(κ.φ s g).cap,hb,by rw [Nat.zero_mul]⟩)
  ·rename_i s g q n zd
   cases h with
   | rww hi h=>
    rename_i sz es
    dsimp only at h
    cases hbe:Nat.beq sz (T e).size
    ·rw [hbe] at h;cases h
    ·rw [hbe] at h
     have hbe:=Nat.eq_of_beq_eq_true hbe
     subst hbe
     cases h with
     | wr h=>
      obtain ⟨rfl,rfl⟩:=ret_inv h
      obtain ⟨hlen,_,h3⟩:=hs.ok s g _ hi
      have hr:=ev_rel he hx
      generalize hyx:a.eval x=yx at hr
      cases hr with
      | sub0 A' hg hb hl=> exact fin s g 0 0 zd es _ hzd hi hyx rfl rfl (Nat.zero_le _) (Or.inl ⟨rfl,_,_,rfl⟩)
      | sub A' hg hb hA hn=>
       rcases h3 with ⟨h4,_⟩ | ⟨b',tt,cur,hb',hzz,_⟩
       ·rw [h4] at hb;cases hb
       ·refine fin s g q n zd es _ hzd hi hyx rfl rfl (by omega) ?_
        rcases hA with ⟨rfl,hA⟩ | rfl
        ·exact Or.inl ⟨rfl,_,_,rfl⟩
        ·exact Or.inr ⟨_,_,hb,by rw [hzz]⟩
  ·cases h
end
end Go.Proofs.YtiklglcjecopcaaGreatDoor

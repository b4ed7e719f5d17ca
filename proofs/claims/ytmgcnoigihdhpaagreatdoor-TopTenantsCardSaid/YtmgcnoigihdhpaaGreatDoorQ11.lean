/-
Evaluation of Go code on plain data: loads and stores. Over any program.
-/
import Derived.Test.YtmgcnoigihdhpaaGreatDoorQ10
namespace Go.Proofs.YtmgcnoigihdhpaaGreatDoor
open Go.RowKit
theorem range_block {w:World} {b:Nat} {vs:Array Value} {t:TypeId} {fr:Nat×Nat} (h:w.heap[b]? =some (.cells vs t fr)) (o:Nat):w.rangeAt b o (vs.toList.drop o):=fun j v hv=> by
 rw [cell_of_row w b (o + j) vs t fr h]
 rw [List.getElem?_drop] at hv
 simpa using hv
theorem run_store_row {P:Program} {w:World} {g q t:Nat} {cur:Array Value} {tt:TypeId} {x:Value} (hg:w.heap[g]? =some (.cells cur tt (0,0))) (hl:q + x.cells.size≤cur.size) (h1:∀u∈x.cells.toList,u.oneCell'=true) (hz:SizeIs P t x.cells.size):
  (Instr.storeAt t (.pointer (some ⟨g,q,none⟩)) x).run P w= .ok () (w.setRow g (over cur.toList q x.cells.toList).toArray):=by
 unfold SizeIs at hz
 cases hq:P.info? t with
 | none=> simp [hq] at hz
 | some i=>
  have hs:x.cells.size=i.size:=by simp [hq] at hz;omega
  have hst:=run_storeCells_at P g q tt x.cells.toList 0 cur w hg (by simpa using hl) h1
  simp only [Nat.add_zero] at hst
  simp [Instr.storeAt,Instr.sureAddr,storeVar,sizeOf,typeInfo,hq,hs,hst,over]
theorem setRow_size (w:World) (g:Nat) (cs:Array Value):(w.setRow g cs).heap.size=w.heap.size:=by simp [World.setRow]
section
variable {P : Program} {T : Nat → TI} {F : FuncId → List AV → AV → Prop} {w0 : Start} {A : Nat → Prop} {o : Oper} {a : Act} {κ : Cx} {m m' : Mem} {v : AV} {Q : Exit → Act → World → Prop} {env : Nat → Option AV}
theorem loadF_inv {t:TI} {x:Option AV} (h:(loadF t x).Runs F m v m'):(∃cs,x=some (.fp cs)∧(ldD t cs).Runs F m v m')∨(∃s g o cs,x=some (.lp s g o)∧m.at_ s g=some (.box cs)∧(ldA t (cs.drop o)).Runs F m v m')∨
  ∃s g i o sz es ro c,x=some (.rp s g i o)∧m.at_ s g=some (.rows sz es ro)∧es[i]? =some c∧(ldD t (c.drop o)).Runs F m v m':=by
 unfold loadF at h
 split at h
 ·exact Or.inl ⟨_,rfl,h⟩
 ·cases h with
  | rdb hi h=> exact Or.inr (Or.inl ⟨_,_,_,_,rfl,hi,h⟩)
 ·cases h with
  | rdr hi h=>
   cases h with
   | elem hc h=> exact Or.inr (Or.inr ⟨_,_,_,_,_,_,_,_,rfl,hi,hc,h⟩)
 ·cases h
theorem sim_load (hT:TOk P T) (hs:Sim w0 A m κ) (he:EnvOk κ env a.tmps) {t:Nat} {x:Operand} (ho:o.op= .load t x) (h:(loadF (T t) (rhoOf env x)).Runs F m v m'):
  o.wp P a κ.w (fun a' w'=> After w0 A κ o v m' a a' w') Q:=by
 have fin:∀(b q:Nat) (cs:List AV) (vs:List Value),a.eval x= .pointer (some ⟨b,q,none⟩)→RelL κ cs vs→κ.w.rangeAt b q vs→(ldA (T t) cs).Runs F m v m'→o.wp P a κ.w (fun a' w'=> After w0 A κ o v m' a a' w') Q:=by
  intro b q cs vs hx hr hw h
  obtain ⟨y,hrun,hy,rfl⟩:=ldA_runs hT hr hw h
  have:(execOp a.eval o).run P κ.w= .ok (.value y) κ.w:=by
   unfold execOp
   rw [ho]
   simp only [hx,Sem.run_bind,hrun,Result.andThen_ok]
   rfl
  exact wp_val this (After.pure_ hs hy)
 rcases loadF_inv h with ⟨cs,hx,h⟩ | ⟨s,g,q,cs,hx,hi,h⟩ | ⟨s,g,i,q,sz,es,ro,c,hx,hi,hc,h⟩
 ·have hr:=ev_rel he hx
  generalize hy:a.eval x=y at hr
  cases hr with
  | fp vs hb hcell hrel=>
   rw [ldD_eq] at h
   refine fin _ _ _ ((List.range cs.length).map vs) hy (relL_of_data (by simp) fun j y u hj hu=> ?_) (fun j u hu=> ?_) h
   ·have hlt:j < cs.length:=(List.getElem?_eq_some_iff.1 hj).1
    simp [hlt] at hu
    subst hu
    exact hrel j y hj
   ·have hlt:j < cs.length:=by
     have:=(List.getElem?_eq_some_iff.1 hu).1
     simpa using this
    simp [hlt] at hu
    subst hu
    exact hcell j hlt
 ·have hr:=ev_rel he hx
  generalize hy:a.eval x=y at hr
  cases hr with
  | lp hg hb=>
   obtain ⟨b',tt,vs,hb',hh,hl,hrel⟩:=hs.ok s g _ hi
   rw [hb] at hb'
   injection hb' with hb'
   subst hb'
   have hL:RelL κ cs vs.toList:=⟨by simpa using hl,fun j c u hc hu=> (hrel j c u hc (by simpa using hu)).1⟩
   exact fin _ _ _ (vs.toList.drop q) hy (hL.drop q) (range_block hh q) h
 ·have hr:=ev_rel he hx
  generalize hy:a.eval x=y at hr
  cases hr with
  | rp hg hb=>
   obtain ⟨hlen,hall,h3⟩:=hs.ok s g _ hi
   rcases h3 with ⟨h4,_⟩ | ⟨b',tt,cur,hb',hz,hh,hl,hm,hcs,hra⟩
   ·rw [h4] at hb;cases hb
   ·rw [hb] at hb'
    injection hb' with hb'
    subst hb'
    rw [ldD_eq] at h
    have hcl:c.length=sz:=hall c (List.mem_of_getElem? hc)
    have hi':i < es.length:=(List.getElem?_eq_some_iff.1 hc).1
    have hfit:i * sz + sz≤cur.size:=by
     rw [hcs]
     have:(i + 1) * sz≤(κ.φ s g).cap * sz:=Nat.mul_le_mul_right _ (by omega)
     rw [Nat.add_mul] at this
     omega
    refine fin _ _ _ ((cur.toList.drop (i * sz + q)).take (c.length - q)) hy (relL_of_data ?_ fun j y u hj hu=> ?_) (fun j u hu=> ?_) h
    ·simp
     omega
    ·rw [List.getElem?_take] at hu
     split at hu
     ·rw [List.getElem?_drop] at hj hu
      obtain ⟨u',hu',hd⟩:=hra i (q + j) c y hc hj
      have:cur.toList[i * sz + q + j]? =some u':=by rw [Nat.add_assoc];simpa using hu'
      rw [this] at hu
      injection hu with hu
      subst hu
      exact hd
     ·cases hu
    ·rw [List.getElem?_take] at hu
     split at hu
     ·rw [hz]
      exact range_block hh (i * sz + q) j u hu
     ·cases hu
theorem storeF_inv {t:TI} {x y:Option AV} (h:(storeF t x y).Runs F m v m'):t.known=true∧∃c,y=some c∧(cellsOf c).all isOne=true∧(cellsOf c).length=t.size∧
  ((∃s g o,x=some (.lp s g o)∧(settle (s + 1048576 * (o + 1)) t.cz 0 (cellsOf c) fun vs=> .rdb s g fun cs=> bif Nat.ble (o + vs.length) cs.length then .wr s g (.box (over cs o vs)) (.ret (.tup [])) else .fail).Runs F m v m')∨
   ∃s g i o,x=some (.rp s g i o)∧(dataList (cellsOf c) fun vs=> .rww s g fun sz es=> .elem es i fun c=> bif Nat.ble (o + vs.length) sz then .wr s g (.rows sz (es.set i (over c o vs)) false) (.ret (.tup [])) else .fail).Runs F m v m'):=by
 unfold storeF at h
 split at h
 ·rename_i s g q c
  cases hb:(t.known && (cellsOf c).all isOne && Nat.beq (cellsOf c).length t.size)
  ·rw [hb] at h;cases h
  ·rw [hb] at h
   simp only [Bool.and_eq_true] at hb
   exact ⟨hb.1.1,c,rfl,hb.1.2,Nat.eq_of_beq_eq_true hb.2,Or.inl ⟨s,g,q,rfl,h⟩⟩
 ·rename_i s g i q c
  cases hb:(t.known && (cellsOf c).all isOne && Nat.beq (cellsOf c).length t.size)
  ·rw [hb] at h;cases h
  ·rw [hb] at h
   simp only [Bool.and_eq_true] at hb
   exact ⟨hb.1.1,c,rfl,hb.1.2,Nat.eq_of_beq_eq_true hb.2,Or.inr ⟨s,g,i,q,rfl,h⟩⟩
 ·cases h
theorem sim_store (hT:TOk P T) (hs:Sim w0 A m κ) (he:EnvOk κ env a.tmps) {t:Nat} {x y:Operand} (ho:o.op= .store t x y) (h:(storeF (T t) (rhoOf env x) (rhoOf env y)).Runs F m v m'):
  o.wp P a κ.w (fun a' w'=> After w0 A κ o v m' a a' w') Q:=by
 obtain ⟨hk,c,hy,hone,hlen,h⟩:=storeF_inv h
 have ht:=hT t hk
 obtain ⟨it,hit,hsz,_,_⟩:=ht.info
 obtain ⟨hcs,h1⟩:=(ev_rel he hy).cells hone
 have hz:SizeIs P t (a.eval y).cells.size:=by
  have:=hcs.1
  simp only [Array.length_toList] at this
  simp [SizeIs,hit,hsz,this,hlen]
 have fin:∀(g q:Nat) (cur:Array Value) (tt:TypeId),a.eval x= .pointer (some ⟨g,q,none⟩)→κ.w.heap[g]? =some (.cells cur tt (0,0))→q + (a.eval y).cells.size≤cur.size→
   After w0 A κ o v m' a (a.put o.dst undef) (κ.w.setRow g (over cur.toList q (a.eval y).cells.toList).toArray)→o.wp P a κ.w (fun a' w'=> After w0 A κ o v m' a a' w') Q:=by
  intro g q cur tt hx hg hl hk
  have:(execOp a.eval o).run P κ.w= .ok .skip (κ.w.setRow g (over cur.toList q (a.eval y).cells.toList).toArray):=by
   unfold execOp
   rw [ho]
   simp only [hx,Sem.run_bind,run_store_row hg hl h1 hz,Result.andThen_ok]
   rfl
  exact wp_skp this hk
 have hundef:∀κ':Cx,Rel κ' (.tup []) undef:=fun κ'=> .tup rfl fun j c v hc=> by simp at hc
 rcases h with ⟨s,g,q,hx,h⟩ | ⟨s,g,i,q,hx,h⟩
 ·have hr:=ev_rel he hx
  generalize hyx:a.eval x=yx at hr
  cases hr with
  | lp hg hb=>
   obtain ⟨m1,κ1,cs1,g1,g2,g3,g4,g5⟩:=settle_runs _ _ (cellsOf c) 0 _ m κ _ v m' hs hcs h
   cases g5 with
   | rdb hi g5=>
    rename_i cs
    dsimp only at g5
    cases hble:Nat.ble (q + cs1.length) cs.length
    ·rw [hble] at g5;cases g5
    ·rw [hble] at g5
     have hble:=Nat.le_of_ble_eq_true hble
     cases g5 with
     | wr g5=>
      cases g5 with
      | ret=>
       obtain ⟨b',tt,vs,hb',hh,hl,hrel⟩:=g1.ok s g _ hi
       rw [g2.φ s g hg,hb] at hb'
       injection hb' with hb'
       subst hb'
       have hvs:vs.size=cs.length:=hl
       have hc1:(a.eval y).cells.size=cs1.length:=by simpa using g4.1
       rw [g3] at hh
       refine fin _ _ vs tt hyx hh (by omega) ?_
       have hL:RelL κ1 cs vs.toList:=⟨by simpa using hl,fun j c u hc hu=> (hrel j c u hc (by simpa using hu)).1⟩
       have:=g1.set (i':= .box (over cs q cs1)) (w':=κ.w.setRow _ (over vs.toList q (a.eval y).cells.toList).toArray) hi rfl rfl (by rw [g3];exact Nat.le_refl _) (by rw [g3];rfl) (by rw [g3];rfl) (by rw [g3];rfl) (by rw [g3];exact setRow_size _ _ _)
        (fun k hk=> by
         rw [g3,setRow_other]
         rintro rfl
         rw [g2.φ s g hg] at hk
         exact hk hb)
        (fun hle=> ⟨_,tt,_,by rw [g2.φ s g hg];exact hb,setRow_heap _ _ vs _ tt _ hh,by
          rw [List.size_toArray,over_length _ _ _ (by simp;omega),over_length _ _ _ (by omega)]
          simpa using hl,
         fun j c' u hc' hu=> by
          have hov:=(hL.over g4 q)
          refine ⟨(hov.2 j c' u hc' (by simpa using hu)).mono hle,?_⟩
          have hu':(over vs.toList q (a.eval y).cells.toList)[j]? =some u:=by simpa using hu
          rw [over_get _ _ _ (by simp;omega)] at hu'
          have hold:∀(j:Nat) (u:Value),vs.toList[j]? =some u→u.oneCell'=true:=by
           intro j u hu
           have hj:j < cs.length:=by
            have:=(List.getElem?_eq_some_iff.1 hu).1
            simp at this
            omega
           exact (hrel j cs[j] u (List.getElem?_eq_getElem hj) (by simpa using hu)).2
          split at hu'
          ·exact hold j u hu'
          ·split at hu'
           ·exact h1 u (List.mem_of_getElem? hu')
           ·exact hold j u hu'⟩)
       exact ⟨_,rfl,this.1,g2.trans this.2,undef,rfl,hundef _⟩
 ·have hr:=ev_rel he hx
  generalize hyx:a.eval x=yx at hr
  cases hr with
  | rp hg hb=>
   obtain ⟨m1,κ1,ds,g1,g2,g3,g4,g5⟩:=dataList_runs (cellsOf c) _ m κ _ v m' hs hcs h
   cases g5 with
   | rww hi g5=>
    rename_i sz es
    cases g5 with
    | elem hc g5=>
     rename_i cc
     dsimp only at g5
     cases hble:Nat.ble (q + ds.length) sz
     ·rw [hble] at g5;cases g5
     ·rw [hble] at g5
      have hble:=Nat.le_of_ble_eq_true hble
      cases g5 with
      | wr g5=>
       cases g5 with
       | ret=>
        obtain ⟨hlen2,hall,h3⟩:=g1.ok s g _ hi
        rcases h3 with ⟨h4,_⟩ | ⟨b',tt,cur,hb',hzz,hh,hl,hm,hcsz,hra⟩
        ·rw [g2.φ s g hg,hb] at h4;cases h4
        ·rw [g2.φ s g hg,hb] at hb'
         injection hb' with hb'
         subst hb'
         rw [g2.φ s g hg] at hzz hl hm hcsz hlen2
         have hcl:cc.length=sz:=hall cc (List.mem_of_getElem? hc)
         have hi':i < es.length:=(List.getElem?_eq_some_iff.1 hc).1
         have hfit:i * sz + sz≤cur.size:=by
          rw [hcsz]
          have:(i + 1) * sz≤(κ.φ s g).cap * sz:=Nat.mul_le_mul_right _ (by omega)
          rw [Nat.add_mul] at this
          omega
         have hd1:(a.eval y).cells.size=ds.length:=by simpa using g4.1.symm
         rw [g3] at hh
         rw [hzz] at hyx
         refine fin _ _ cur tt hyx hh (by omega) ?_
         have:=g1.set (i':= .rows sz (es.set i (over cc q ds)) false) (w':=κ.w.setRow _ (over cur.toList (i * sz + q) (a.eval y).cells.toList).toArray) hi rfl rfl (by rw [g3];exact Nat.le_refl _) (by rw [g3];rfl) (by rw [g3];rfl) (by rw [g3];rfl) (by rw [g3];exact setRow_size _ _ _)
          (fun k hk=> by
           rw [g3,setRow_other]
           rintro rfl
           rw [g2.φ s g hg] at hk
           exact hk hb)
          (fun hle=> ⟨by simp [hlen2,g2.φ s g hg],fun e he=> by
            rcases List.mem_or_eq_of_mem_set he with he | rfl
            ·exact hall e he
            ·rw [over_length _ _ _ (by omega)];exact hcl,
           Or.inr ⟨_,tt,_,by rw [g2.φ s g hg];exact hb,by rw [g2.φ s g hg];exact hzz,setRow_heap _ _ cur _ tt _ hh,by rw [g2.φ s g hg];exact hl,by rw [g2.φ s g hg];exact hm,
            by rw [List.size_toArray,over_length _ _ _ (by simp;omega),g2.φ s g hg];simpa using hcsz,
            fun i' j' e xx he' hx'=> by
             have hov:∀k,((over cur.toList (i * sz + q) (a.eval y).cells.toList).toArray)[k]? =if k < i * sz + q then cur[k]? else if k < i * sz + q + ds.length then (a.eval y).cells.toList[k - (i * sz + q)]? else cur[k]? :=by
              intro k
              have:=over_get cur.toList (i * sz + q) (a.eval y).cells.toList (by simp;omega) k
              simpa [hd1] using this
             rw [List.getElem?_set] at he'
             have hj':j' < sz:=by
              have hje:j' < e.length:=(List.getElem?_eq_some_iff.1 hx').1
              split at he'
              ·injection he' with he'
               subst he'
               rw [over_length _ _ _ (by omega)] at hje
               omega
              ·rw [hall e (List.mem_of_getElem? he')] at hje
               exact hje
             split at he'
             ·rename_i hii
              subst hii
              ·injection he' with he'
               subst he'
               rw [over_get _ _ _ (by omega)] at hx'
               by_cases hq1:j' < q
               ·rw [if_pos hq1] at hx'
                obtain ⟨u,hu,hd⟩:=hra i j' cc xx hc hx'
                exact ⟨u,by rw [hov,if_pos (by omega)];exact hu,hle.relD hd⟩
               ·rw [if_neg hq1] at hx'
                by_cases hq2:j' < q + ds.length
                ·rw [if_pos hq2] at hx'
                 have hlt:j' - q < (a.eval y).cells.toList.length:=by simp;omega
                 exact ⟨_,by rw [hov,if_neg (by omega),if_pos (by omega),show i * sz + j' - (i * sz + q)=j' - q by omega];exact List.getElem?_eq_getElem hlt,hle.relD (g4.2 (j' - q) xx _ hx' (List.getElem?_eq_getElem hlt))⟩
                ·rw [if_neg hq2] at hx'
                 obtain ⟨u,hu,hd⟩:=hra i j' cc xx hc hx'
                 exact ⟨u,by rw [hov,if_neg (by omega),if_neg (by omega)];exact hu,hle.relD hd⟩
             ·rename_i hii
              obtain ⟨u,hu,hd⟩:=hra i' j' e xx he' hx'
              refine ⟨u,?_,hle.relD hd⟩
              rw [hov]
              rcases Nat.lt_or_ge i' i with hlt | hge
              ·have:(i' + 1) * sz≤i * sz:=Nat.mul_le_mul_right _ (by omega)
               rw [Nat.add_mul] at this
               rw [if_pos (by omega)]
               exact hu
              ·have:(i + 1) * sz≤i' * sz:=Nat.mul_le_mul_right _ (by omega)
               rw [Nat.add_mul] at this
               rw [if_neg (by omega),if_neg (by omega)]
               exact hu⟩⟩)
         exact ⟨_,rfl,this.1,g2.trans this.2,undef,rfl,hundef _⟩
end
end Go.Proofs.YtmgcnoigihdhpaaGreatDoor
namespace Go.Proofs.YtmgcnoigihdhpaaGreatDoor
open Go.RowKit
section
variable {P : Program} {T : Nat → TI} {F : FuncId → List AV → AV → Prop} {w0 : Start} {A : Nat → Prop} {o : Oper} {a : Act} {κ : Cx} {m m' : Mem} {v : AV} {Q : Exit → Act → World → Prop} {env : Nat → Option AV}
theorem relv (κ:Cx) (x:Value) (h:x.oneCell'=true:=by rfl):Rel κ (.d (.v x)) x:= .d (.v x h)
theorem fin_val (hs:Sim w0 A m κ) {x:Value} (hrun:(execOp a.eval o).run P κ.w= .ok (.value x) κ.w) (hx:Rel κ v x):o.wp P a κ.w (fun a' w'=> After w0 A κ o v m a a' w') Q:=wp_val hrun (After.pure_ hs hx)
theorem ret_inv {x:AV} (h:(Step.ret x).Runs F m v m'):v=x∧m'=m:=by cases h with | ret=> exact ⟨rfl,rfl⟩
theorem chk_inv {p:Prop} {k:Step} (h:(Step.chk p k).Runs F m v m'):p∧k.Runs F m v m':=by cases h with | chk hp h=> exact ⟨hp,h⟩
theorem guard_int (op:BinOp) (t:TypeId) (x y:Operand) (k k':IntKind) (p q:Int) (w:World):(eqGuard op t x y (.int k p) (.int k' q)).run P w= .ok () w:=by cases op <;> rfl
theorem guard_str (op:BinOp) (t:TypeId) (x y:Operand) (p q:ByteArray) (w:World):(eqGuard op t x y (.string p) (.string q)).run P w= .ok () w:=by cases op <;> rfl
theorem guard_bool (op:BinOp) (t:TypeId) (x y:Operand) (p q:Bool) (w:World):(eqGuard op t x y (.bool p) (.bool q)).run P w= .ok () w:=by cases op <;> rfl
theorem sim_bin (hT:TOk P T) (hs:Sim w0 A m κ) (he:EnvOk κ env a.tmps) {op:BinOp} {t yt:Nat} {x y:Operand} (ho:o.op= .binOp op t x y yt) (h:(bopF (T t) op (rhoOf env x) (rhoOf env y)).Runs F m v m')
  (hkn:(T t).eqs=true→(T t).known=true):
  o.wp P a κ.w (fun a' w'=> After w0 A κ o v m' a a' w') Q:=by
 have fin:∀(p q r:Value),a.eval x=p→a.eval y=q→(binOp op t p q).run P κ.w= .ok r κ.w→(eqGuard op t x y p q).run P κ.w= .ok () κ.w→Rel κ v r→m'=m→o.wp P a κ.w (fun a' w'=> After w0 A κ o v m' a a' w') Q:=by
  intro p q r hp hq hrun hg hr hm
  subst hm
  refine fin_val hs ?_ hr
  unfold execOp
  rw [ho]
  simp [hp,hq,hg,hrun]
 cases hx:rhoOf env x with
 | none=> rw [hx] at h;cases h
 | some c=>
  cases hy:rhoOf env y with
  | none=> rw [hx,hy] at h;cases c <;> cases h
  | some d=>
   rw [hx,hy] at h
   have hrx:=ev_rel he hx
   have hry:=ev_rel he hy
   by_cases hagg:∃xs ys,c= .agg xs∧d= .agg ys
   ·obtain ⟨xs,ys,rfl,rfl⟩:=hagg
    obtain ⟨us,hus,hru⟩:=hrx.agg_inv
    obtain ⟨vs,hvs,hrv⟩:=hry.agg_inv
    simp only [bopF] at h
    split at h
    ·rename_i b he1 he2
     obtain ⟨rfl,rfl⟩:=ret_inv h
     obtain ⟨e1,e2,e3⟩:=((hT t (hkn he2)).eq he2).eq κ.w us vs xs ys b x y κ hru hrv he1
     exact fin _ _ (.bool b) hus hvs (by simp [binOp,e3]) e1 (relv κ _) rfl
    ·rename_i b he1 he2
     obtain ⟨rfl,rfl⟩:=ret_inv h
     obtain ⟨e1,e2,e3⟩:=((hT t (hkn he2)).eq he2).eq κ.w us vs xs ys b x y κ hru hrv he1
     exact fin _ _ (.bool (!b)) hus hvs (by simp [binOp,e3]) e2 (relv κ _) rfl
    ·cases h
   ·have e:bopF (T t) op (some c) (some d)=binF (T t).k op c d:=by
     cases c <;> cases d <;> first | rfl | exact absurd ⟨_,_,rfl,rfl⟩ hagg
    rw [e] at h
    unfold binF at h
    split at h
    ·rename_i k p k' q
     have hp:=hrx.val
     have hq:=hry.val
     by_cases hop:op= .shr
     ·subst hop
      obtain ⟨h0,h⟩:=chk_inv h
      obtain ⟨rfl,rfl⟩:=ret_inv h
      have h0:¬q < 0:=by omega
      exact fin _ _ _ hp hq (by simp [binOp,Op.shift,h0]) (guard_int ..) (relv κ _) rfl
     have h:(intF op k k' p q).Runs F m v m':=by
      clear fin e
      cases op <;> first | exact h | exact absurd rfl hop
     unfold intF at h
     by_cases hk:k=k'
     ·subst hk
      simp only [ne_eq,not_true_eq_false,if_false] at h
      have hg:(eqGuard op t x y (.int k p) (.int k q)).run P κ.w= .ok () κ.w:=guard_int ..
      split at h
      all_goals first
       | (obtain ⟨rfl,rfl⟩:=ret_inv h;exact fin _ _ _ hp hq (by simp [binOp,Op.intArith,Op.intCmp]) hg (relv κ _) rfl)
       | (obtain ⟨h0,h⟩:=chk_inv h;obtain ⟨rfl,rfl⟩:=ret_inv h;exact fin _ _ _ hp hq (by simp [binOp,Op.intDiv,h0]) hg (relv κ _) rfl)
       | cases h
     ·simp only [ne_eq,hk,not_false_eq_true,if_true] at h
      cases h
    ·rename_i p q
     have hp:=hrx.val
     have hq:=hry.val
     have hg:(eqGuard op t x y (.string p) (.string q)).run P κ.w= .ok () κ.w:=guard_str ..
     split at h
     all_goals first
      | (obtain ⟨h0,h⟩:=chk_inv h;obtain ⟨rfl,rfl⟩:=ret_inv h;exact fin _ _ _ hp hq (by
        have hmx:IntKind.i64.max=9223372036854775807:=by decide
        have:¬((p.size + q.size:Nat):Int) > IntKind.i64.max:=by rw [hmx];omega
        simp only [binOp,Op.stringOp,this,if_false];rfl) hg (relv κ _) rfl)
      | (obtain ⟨rfl,rfl⟩:=ret_inv h;exact fin _ _ _ hp hq (by simp [binOp,Op.stringOp]) hg (relv κ _) rfl)
      | cases h
    ·rename_i p q
     have hp:=hrx.val
     have hq:=hry.val
     cases hk:(T t).k with
     | bool=>
      rw [hk] at h
      obtain ⟨d,hu,hd⟩:=hT.kok hk (by simp)
      have hd:d= .bool:=hd
      subst hd
      have hb:(Op.equal t (.bool p) (.bool q)).run P κ.w= .ok (p==q) κ.w:=by
       rw [Op.equal,show Op.maxDepth=9999 + 1 from rfl,Op.equalIn]
       simp [run_underlying hu]
      dsimp only at h
      split at h
      all_goals first
       | (obtain ⟨rfl,rfl⟩:=ret_inv h;exact fin _ _ _ hp hq (by simp [binOp,hb]) (guard_bool ..) (relv κ _) rfl)
       | cases h
     | _=> rw [hk] at h;cases h
    ·cases h
theorem sim_nil (hT:TOk P T) (hs:Sim w0 A m κ) (he:EnvOk κ env a.tmps) {op:BinOp} {t yt:Nat} {x y:Operand} (ho:o.op= .binOp op t x y yt) (hy:isNilC y=true) (h:(nilF (T t).k op (rhoOf env x)).Runs F m v m'):
  o.wp P a κ.w (fun a' w'=> After w0 A κ o v m' a a' w') Q:=by
 have hy:y= .const (.slice none 0 0):=by
  unfold isNilC at hy
  split at hy
  ·rfl
  ·cases hy
 subst hy
 generalize hk:(T t).k=k at h
 generalize hx:rhoOf env x=c at h
 have equ:∀(e:TypeId) (A':Option Addr) (n c:Nat),P.underlying t=some (.slice e)→(Op.equal t (.slice A' n c) (.slice none 0 0)).run P κ.w= .ok A'.isNone κ.w:=by
  intro e A' n c hu
  have gen:∀dd,(Op.equalIn (dd + 1) t (.slice A' n c) (.slice none 0 0)).run P κ.w= .ok A'.isNone κ.w:=by
   intro dd
   cases A' <;> simp [Op.equalIn,run_underlying hu]
  exact gen 9999
 have fin:∀(e:TypeId) (A':Option Addr) (n c:Nat) (r:Bool),P.underlying t=some (.slice e)→a.eval x= .slice A' n c→((op= .eql∧r=A'.isNone)∨(op= .neq∧r= !A'.isNone))→v=B r→m'=m→o.wp P a κ.w (fun a' w'=> After w0 A κ o v m' a a' w') Q:=by
  intro e A' n c r hu hp hop hv hm
  subst hv hm
  refine fin_val hs ?_ (relv κ (.bool r))
  have hq:a.eval (.const (.slice none 0 0))= .slice none 0 0:=rfl
  unfold execOp
  rw [ho]
  rcases hop with ⟨rfl,rfl⟩ | ⟨rfl,rfl⟩ <;> simp [hp,hq,eqGuard,binOp,equ e A' n c hu]
 unfold nilF at h
 split at h
 ·obtain ⟨d,hu,hd⟩:=hT.kok hk (by simp)
  obtain ⟨rfl,_⟩:=hd
  obtain ⟨rfl,rfl⟩:=ret_inv h
  have hr:=ev_rel he hx
  generalize hq:a.eval x=u at hr
  cases hr with
  | d hr=>
   cases hr with
   | fz=> exact fin _ _ _ _ false hu hq (Or.inl ⟨rfl,rfl⟩) rfl rfl
 ·obtain ⟨d,hu,hd⟩:=hT.kok hk (by simp)
  obtain ⟨rfl,_⟩:=hd
  obtain ⟨rfl,rfl⟩:=ret_inv h
  have hr:=ev_rel he hx
  generalize hq:a.eval x=u at hr
  cases hr with
  | d hr=>
   cases hr with
   | fz=> exact fin _ _ _ _ true hu hq (Or.inr ⟨rfl,rfl⟩) rfl rfl
 ·obtain ⟨d,hu,hd⟩:=hT.kok hk (by simp)
  obtain ⟨rfl,_⟩:=hd
  obtain ⟨rfl,rfl⟩:=ret_inv h
  exact fin _ _ _ _ _ hu (ev_rel he hx).val (Or.inl ⟨rfl,rfl⟩) rfl rfl
 ·obtain ⟨d,hu,hd⟩:=hT.kok hk (by simp)
  obtain ⟨rfl,_⟩:=hd
  obtain ⟨rfl,rfl⟩:=ret_inv h
  exact fin _ _ _ _ _ hu (ev_rel he hx).val (Or.inr ⟨rfl,rfl⟩) rfl rfl
 ·cases h
theorem sim_nilp (hT:TOk P T) (hs:Sim w0 A m κ) (he:EnvOk κ env a.tmps) {op:BinOp} {t yt:Nat} {x y:Operand} (ho:o.op= .binOp op t x y yt) (hy:isNilP y=true) (h:(nilpF (T t).k op (rhoOf env x)).Runs F m v m'):
  o.wp P a κ.w (fun a' w'=> After w0 A κ o v m' a a' w') Q:=by
 have hy:y= .const (.pointer none):=by
  unfold isNilP at hy
  split at hy
  ·rfl
  ·cases hy
 subst hy
 generalize hk:(T t).k=k at h
 generalize hx:rhoOf env x=c at h
 have equ:∀(e:TypeId) (A':Option Addr),P.underlying t=some (.pointer e)→(Op.equal t (.pointer A') (.pointer none)).run P κ.w= .ok A'.isNone κ.w:=by
  intro e A' hu
  have gen:∀dd,(Op.equalIn (dd + 1) t (.pointer A') (.pointer none)).run P κ.w= .ok A'.isNone κ.w:=by
   intro dd
   cases A' <;> simp [Op.equalIn,run_underlying hu]
  exact gen 9999
 have fin:∀(A':Option Addr) (r:Bool),k= .ptr→a.eval x= .pointer A'→((op= .eql∧r=A'.isNone)∨(op= .neq∧r= !A'.isNone))→v=B r→m'=m→o.wp P a κ.w (fun a' w'=> After w0 A κ o v m' a a' w') Q:=by
  intro A' r hk' hp hop hv hm
  subst hv hm hk'
  obtain ⟨d,hu,e,rfl⟩:=hT.kok hk (by simp)
  refine fin_val hs ?_ (relv κ (.bool r))
  have hq:a.eval (.const (.pointer none))= .pointer none:=rfl
  unfold execOp
  rw [ho]
  rcases hop with ⟨rfl,rfl⟩ | ⟨rfl,rfl⟩ <;> simp [hp,hq,eqGuard,binOp,equ e A' hu]
 have some_:∀{u:Value},(∃s g q,Rel κ (.lp s g q) u)∨(∃cs,Rel κ (.fp cs) u)→∃A',u= .pointer (some A'):=by
  rintro u (⟨s,g,q,hr⟩ | ⟨cs,hr⟩)
  ·cases hr with
   | lp=> exact ⟨_,rfl⟩
  ·cases hr with
   | fp=> exact ⟨_,rfl⟩
 unfold nilpF at h
 split at h
 ·obtain ⟨rfl,rfl⟩:=ret_inv h
  obtain ⟨A',e⟩:=some_ (Or.inl ⟨_,_,_,ev_rel he hx⟩)
  exact fin _ false rfl e (Or.inl ⟨rfl,rfl⟩) rfl rfl
 ·obtain ⟨rfl,rfl⟩:=ret_inv h
  obtain ⟨A',e⟩:=some_ (Or.inl ⟨_,_,_,ev_rel he hx⟩)
  exact fin _ true rfl e (Or.inr ⟨rfl,rfl⟩) rfl rfl
 ·obtain ⟨rfl,rfl⟩:=ret_inv h
  obtain ⟨A',e⟩:=some_ (Or.inr ⟨_,ev_rel he hx⟩)
  exact fin _ false rfl e (Or.inl ⟨rfl,rfl⟩) rfl rfl
 ·obtain ⟨rfl,rfl⟩:=ret_inv h
  obtain ⟨A',e⟩:=some_ (Or.inr ⟨_,ev_rel he hx⟩)
  exact fin _ true rfl e (Or.inr ⟨rfl,rfl⟩) rfl rfl
 ·obtain ⟨rfl,rfl⟩:=ret_inv h
  exact fin none true rfl (ev_rel he hx).val (Or.inl ⟨rfl,rfl⟩) rfl rfl
 ·obtain ⟨rfl,rfl⟩:=ret_inv h
  exact fin none false rfl (ev_rel he hx).val (Or.inr ⟨rfl,rfl⟩) rfl rfl
 ·cases h
theorem sim_nilck (hs:Sim w0 A m κ) (he:EnvOk κ env a.tmps) {x:Operand} (ho:o.op= .nilCheck x) (h:(nilckF (rhoOf env x)).Runs F m v m'):o.wp P a κ.w (fun a' w'=> After w0 A κ o v m' a a' w') Q:=by
 generalize hx:rhoOf env x=c at h
 have fin:∀(A':Addr),a.eval x= .pointer (some A')→Rel κ v (a.eval x)→m'=m→o.wp P a κ.w (fun a' w'=> After w0 A κ o v m' a a' w') Q:=by
  intro A' e hr hm
  subst hm
  refine fin_val hs (x:=a.eval x) ?_ hr
  unfold execOp
  rw [ho]
  simp [e]
 unfold nilckF at h
 split at h
 ·obtain ⟨rfl,rfl⟩:=ret_inv h
  have hr:=ev_rel he hx
  obtain ⟨A',e⟩:∃A',a.eval x= .pointer (some A'):=by
   generalize a.eval x=u at hr
   cases hr with
   | lp=> exact ⟨_,rfl⟩
  exact fin A' e hr rfl
 ·obtain ⟨rfl,rfl⟩:=ret_inv h
  have hr:=ev_rel he hx
  obtain ⟨A',e⟩:∃A',a.eval x= .pointer (some A'):=by
   generalize a.eval x=u at hr
   cases hr with
   | fp=> exact ⟨_,rfl⟩
  exact fin A' e hr rfl
 ·cases h
theorem sim_un (hs:Sim w0 A m κ) (he:EnvOk κ env a.tmps) {op:UnOp} {t:Nat} {x:Operand} (ho:o.op= .unOp op t x) (h:(unF op (rhoOf env x)).Runs F m v m'):o.wp P a κ.w (fun a' w'=> After w0 A κ o v m' a a' w') Q:=by
 generalize hx:rhoOf env x=c at h
 unfold unF at h
 split at h
 ·obtain ⟨rfl,rfl⟩:=ret_inv h
  refine fin_val hs ?_ (relv κ _)
  unfold execOp
  rw [ho]
  simp [(ev_rel he hx).val,Op.unary]
 ·obtain ⟨rfl,rfl⟩:=ret_inv h
  refine fin_val hs ?_ (relv κ _)
  unfold execOp
  rw [ho]
  simp [(ev_rel he hx).val,Op.unary,Op.intArith]
 ·cases h
theorem sim_conv (hT:TOk P T) (hs:Sim w0 A m κ) (he:EnvOk κ env a.tmps) {src dst:Nat} {x:Operand} (ho:o.op= .convert src dst x) (h:(convF (T src).k (T dst).k (rhoOf env x)).Runs F m v m'):o.wp P a κ.w (fun a' w'=> After w0 A κ o v m' a a' w') Q:=by
 generalize hx:rhoOf env x=c at h
 generalize hk1:(T src).k=k1 at h
 generalize hk2:(T dst).k=k2 at h
 unfold convF at h
 split at h
 ·obtain ⟨rfl,rfl⟩:=ret_inv h
  obtain ⟨d1,hu1,hd1⟩:=hT.kok hk1 (by simp)
  obtain ⟨d2,hu2,hd2⟩:=hT.kok hk2 (by simp)
  have hd1:d1=_:=hd1
  have hd2:d2=_:=hd2
  subst hd1 hd2
  refine fin_val hs ?_ (relv κ _)
  unfold execOp
  rw [ho]
  simp [(ev_rel he hx).val,convert,run_underlying hu1,run_underlying hu2,Conv.intToInt]
 ·obtain ⟨rfl,rfl⟩:=ret_inv h
  obtain ⟨d1,hu1,hd1⟩:=hT.kok hk1 (by simp)
  obtain ⟨d2,hu2,hd2⟩:=hT.kok hk2 (by simp)
  have hd1:d1=_:=hd1
  have hd2:d2=_:=hd2
  subst hd1 hd2
  refine fin_val hs ?_ (relv κ _)
  unfold execOp
  rw [ho]
  simp [(ev_rel he hx).val,convert,run_underlying hu1,run_underlying hu2]
 ·cases h
theorem mapM_rel (he:EnvOk κ env a.tmps):∀(xs:List Operand) (cs:List AV),xs.mapM (rhoOf env)=some cs→RelL κ cs (xs.map a.eval)
 | [],cs,h=> by
  simp at h
  subst h
  exact .nil κ
 | x::xs,cs,h=> by
  rw [List.mapM_cons] at h
  cases hx:rhoOf env x with
  | none=> simp [hx] at h
  | some c=>
   cases hs:xs.mapM (rhoOf env) with
   | none=> simp [hx,hs] at h
   | some r=>
    simp [hx,hs] at h
    subst h
    exact .cons (ev_rel he hx) (mapM_rel he xs r hs)
theorem sim_mfunc (hs:Sim w0 A m κ) (he:EnvOk κ env a.tmps) {f:FuncId} {first cap:Array Operand} (ho:o.op= .makeFunc (.func f) first cap) (h:(mfuncF f (first.toList.map (rhoOf env)) (cap.toList.mapM (rhoOf env))).Runs F m v m'):o.wp P a κ.w (fun a' w'=> After w0 A κ o v m' a a' w') Q:=by
 generalize hf:first.toList.map (rhoOf env)=fs at h
 generalize hc:cap.toList.mapM (rhoOf env)=cs at h
 unfold mfuncF at h
 split at h
 ·obtain ⟨rfl,rfl⟩:=ret_inv h
  have hr:=mapM_rel he _ _ hc
  have hfe:first= #[]:=by
   cases first with
   | mk l=> simp at hf;simp [hf]
  subst hfe
  refine fin_val (x:= .func (.func f) #[] (cap.map a.eval)) hs ?_ (.fn (by simpa using hr.1) fun j c u hc hu=> hr.2 j c u hc (by simpa using hu))
  unfold execOp
  rw [ho]
  simp [Instr.makeFunc]
 ·cases h
theorem sim_faddr (hT:TOk P T) (hs:Sim w0 A m κ) (he:EnvOk κ env a.tmps) {t f:Nat} {x:Operand} (ho:o.op= .fieldAddr t x f) (h:(faddrF (T t).k f (rhoOf env x)).Runs F m v m'):o.wp P a κ.w (fun a' w'=> After w0 A κ o v m' a a' w') Q:=by
 generalize hx:rhoOf env x=c at h
 generalize hk:(T t).k=k at h
 unfold faddrF at h
 split at h
 ·rename_i fs
  obtain ⟨d,hu,fields,rfl,hf,hfz⟩:=hT.kok hk (by simp)
  have key:∀(q:Nat) (tt n b p:Nat),fs[f]? =some (q,tt,n + 1)→a.eval x= .pointer (some ⟨b,p,none⟩)→(execOp a.eval o).run P κ.w= .ok (.value (.pointer (some ⟨b,p + q,none⟩))) κ.w:=by
   intro q tt n b p hfs hp
   have h1:=congrArg (·[f]?) hf
   simp only [List.getElem?_map,hfs,Option.map_some] at h1
   cases hg:fields.toList[f]? with
   | none=> rw [hg] at h1;simp at h1
   | some fl=>
    rw [hg] at h1
    simp at h1
    have hg':fields[f]? =some fl:=by simpa using hg
    have hz:=hfz _ (List.mem_of_getElem? hfs)
    unfold SizeIs at hz
    cases hq:P.info? tt with
    | none=> simp [hq] at hz
    | some it=>
     simp [hq] at hz
     unfold execOp
     rw [ho]
     simp [hp,Instr.fieldAt,run_underlying hu,hg',Instr.sureAddr,fieldPlace,sizeOf,typeInfo,h1.2,hq,hz,h1.1,Addr.add_lit]
  split at h
  ·rename_i h1
   obtain ⟨rfl,rfl⟩:=ret_inv h
   have hr:=ev_rel he hx
   generalize hy:a.eval x=y at hr
   cases hr with
   | lp hg hb=> exact fin_val hs (key _ _ _ _ _ h1 hy) (.lp hg hb)
  ·rename_i q tt n cs h1
   obtain ⟨rfl,rfl⟩:=ret_inv h
   have hr:=ev_rel he hx
   generalize hy:a.eval x=y at hr
   cases hr with
   | fp vs hb hc hrr=>
    refine fin_val hs (key _ _ _ _ _ h1 hy) (.fp (fun j=> vs (q + j)) hb (fun j hj=> ?_) (fun j x hj=> ?_))
    ·rw [Nat.add_assoc]
     exact hc _ (by simp at hj;omega)
    ·rw [List.getElem?_drop] at hj
     exact hrr _ x hj
  ·rename_i h1
   obtain ⟨rfl,rfl⟩:=ret_inv h
   have hr:=ev_rel he hx
   generalize hy:a.eval x=y at hr
   cases hr with
   | rp hg hb=>
    have:=key _ _ _ _ _ h1 hy
    rw [Nat.add_assoc] at this
    exact fin_val hs this (.rp hg hb)
  ·cases h
 ·cases h
theorem sim_field (hT:TOk P T) (hs:Sim w0 A m κ) (he:EnvOk κ env a.tmps) {t f:Nat} {x:Operand} (ho:o.op= .field t x f) (h:(fieldF T (T t).k f (rhoOf env x)).Runs F m v m'):o.wp P a κ.w (fun a' w'=> After w0 A κ o v m' a a' w') Q:=by
 generalize hx:rhoOf env x=c at h
 generalize hk:(T t).k=k at h
 unfold fieldF at h
 split at h
 ·rename_i fs
  obtain ⟨d,hu,fields,rfl,hf,_⟩:=hT.kok hk (by simp)
  split at h
  ·rename_i q ft n cs h1
   obtain ⟨us,hus,hr⟩:=(ev_rel he hx).agg_inv
   obtain ⟨y,hrun,hy,rfl⟩:=ldA_part hT hr h
   refine fin_val hs ?_ hy
   have h2:=congrArg (·[f]?) hf
   simp only [List.getElem?_map,h1,Option.map_some] at h2
   cases hg:fields.toList[f]? with
   | none=> rw [hg] at h2;simp at h2
   | some fl=>
    rw [hg] at h2
    simp at h2
    have hg':fields[f]? =some fl:=by simpa using hg
    unfold execOp
    rw [ho]
    simp [hus,Instr.field,run_underlying hu,hg',asAgg,h2.1,h2.2,hrun]
  ·cases h
 ·cases h
theorem sim_extract (hs:Sim w0 A m κ) (he:EnvOk κ env a.tmps) {i:Nat} {x:Operand} (ho:o.op= .extract x i) (h:(extractF i (rhoOf env x)).Runs F m v m'):o.wp P a κ.w (fun a' w'=> After w0 A κ o v m' a a' w') Q:=by
 generalize hx:rhoOf env x=c at h
 unfold extractF at h
 split at h
 ·rename_i vs
  obtain ⟨h1,rfl⟩:=retO_runs h
  obtain ⟨us,hus,hr⟩:=(ev_rel he hx).tup_inv
  obtain ⟨u,hu,hru⟩:=hr.get h1
  refine fin_val hs ?_ hru
  have hu':us[i]? =some u:=by simpa using hu
  unfold execOp
  rw [ho]
  simp [hus,Instr.extract,hu']
 ·cases h
theorem iaddr_run {t:Nat} {x ix:Operand} {e n:Nat} {b p:Nat} {k:IntKind} {i:Int} {z:Nat} (ho:o.op= .indexAddr t x ix) (hz:SizeIs P e z) (hi:a.eval ix= .int k i) (h0:0≤i) (h1:i < n)
  (h:(P.underlying t=some (.array n e)∧a.eval x= .pointer (some ⟨b,p,none⟩))∨(P.underlying t=some (.slice e)∧∃c,a.eval x= .slice (some ⟨b,p,none⟩) n c)):
  (execOp a.eval o).run P κ.w= .ok (.value (.pointer (some ⟨b,p + i.toNat * z,none⟩))) κ.w:=by
 unfold SizeIs at hz
 cases hq:P.info? e with
 | none=> simp [hq] at hz
 | some it=>
  have hz':it.size=z:=by simpa [hq] using hz
  unfold execOp
  rw [ho]
  rcases h with ⟨hu,hx⟩ | ⟨hu,c,hx⟩
  ·simp [hx,hi,Instr.indexAt,asIntOf,run_underlying hu,Instr.sureAddr,h0,h1,sizeOf,typeInfo,hq,hz',Addr.add_lit]
  ·simp [hx,hi,Instr.indexAt,asIntOf,run_underlying hu,h0,h1,sizeOf,typeInfo,hq,hz',Addr.add_lit]
theorem sim_iaddr (hT:TOk P T) (hs:Sim w0 A m κ) (he:EnvOk κ env a.tmps) {t:Nat} {x ix:Operand} (ho:o.op= .indexAddr t x ix) (h:(iaddrF (T t).k (rhoOf env x) (rhoOf env ix)).Runs F m v m'):o.wp P a κ.w (fun a' w'=> After w0 A κ o v m' a a' w') Q:=by
 generalize hx:rhoOf env x=c at h
 generalize hix:rhoOf env ix=ci at h
 generalize hk:(T t).k=k at h
 unfold iaddrF at h
 split at h
 ·obtain ⟨⟨h0,h1⟩,h⟩:=chk_inv h
  obtain ⟨rfl,rfl⟩:=ret_inv h
  obtain ⟨d,hu,hd,hz⟩:=hT.kok hk (by simp)
  have hd:d=_:=hd
  subst hd
  have hr:=ev_rel he hx
  generalize hy:a.eval x=y at hr
  cases hr with
  | lp hg hb=> exact fin_val hs (iaddr_run ho hz (ev_rel he hix).val h0 h1 (Or.inl ⟨hu,hy⟩)) (.lp hg hb)
 ·rename_i n e z cs ki i
  obtain ⟨⟨h0,h1⟩,h⟩:=chk_inv h
  obtain ⟨rfl,rfl⟩:=ret_inv h
  obtain ⟨d,hu,hd,hz⟩:=hT.kok hk (by simp)
  have hd:d=_:=hd
  subst hd
  have hr:=ev_rel he hx
  generalize hy:a.eval x=y at hr
  cases hr with
  | fp vs hb hc hrr=>
   refine fin_val hs (iaddr_run ho hz (ev_rel he hix).val h0 h1 (Or.inl ⟨hu,hy⟩)) (.fp (fun j=> vs (i.toNat * z + j)) hb (fun j hj=> ?_) (fun j x hj=> ?_))
   ·rw [Nat.add_assoc]
    exact hc _ (by simp at hj;omega)
   ·rw [List.getElem?_drop] at hj
    exact hrr _ x hj
 ·obtain ⟨⟨h0,h1⟩,h⟩:=chk_inv h
  obtain ⟨rfl,rfl⟩:=ret_inv h
  obtain ⟨d,hu,hd,hz⟩:=hT.kok hk (by simp)
  have hd:d=_:=hd
  subst hd
  have hr:=ev_rel he hx
  generalize hy:a.eval x=y at hr
  cases hr with
  | rp hg hb=>
   have:=iaddr_run (κ:=κ) ho hz (ev_rel he hix).val h0 h1 (Or.inl ⟨hu,hy⟩)
   rw [Nat.add_assoc] at this
   exact fin_val hs this (.rp hg hb)
 ·rename_i e z es ki i
  obtain ⟨⟨h0,h1⟩,h⟩:=chk_inv h
  cases h with
  | elem hc h=>
   rename_i cc
   obtain ⟨hcl,h⟩:=chk_inv h
   obtain ⟨rfl,rfl⟩:=ret_inv h
   obtain ⟨d,hu,hd,hz⟩:=hT.kok hk (by simp)
   have hd:d=_:=hd
   subst hd
   have hr:=ev_rel he hx
   generalize hy:a.eval x=y at hr
   cases hr with
   | d hr=>
    cases hr with
    | fz0 A' c' _=> simp at h1;omega
    | fz _ b q sz c' vs hsz hb hcap hcell hrr=>
     have hszz:sz=z:=by rw [←hcl,hsz cc (List.mem_of_getElem? hc)]
     subst hszz
     refine fin_val hs (iaddr_run ho hz (ev_rel he hix).val h0 h1 (Or.inr ⟨hu,_,hy⟩)) (.fp (fun j=> vs (i.toNat * sz + j)) hb (fun j hj=> ?_) (fun j x hj=> ?_))
     ·rw [Nat.add_assoc]
      refine hcell _ ?_
      have:(i.toNat + 1) * sz≤es.length * sz:=Nat.mul_le_mul_right _ (by omega)
      rw [Nat.add_mul] at this
      omega
     ·exact hrr _ j _ x hc hj
 ·rename_i e z s g n ki i
  obtain ⟨⟨h0,h1⟩,h⟩:=chk_inv h
  cases h with
  | rdz hi h=>
   obtain ⟨rfl,rfl⟩:=ret_inv h
   obtain ⟨d,hu,hd,hz⟩:=hT.kok hk (by simp)
   have hd:d=_:=hd
   subst hd
   have hr:=ev_rel he hx
   generalize hy:a.eval x=y at hr
   have hok:=hs.ok s g _ hi
   cases hr with
   | row0 A' hg hb hl=> simp at h1;omega
   | row hg hb=>
    obtain ⟨_,_,h3⟩:=hok
    rcases h3 with ⟨h4,_⟩ | ⟨b',tt,cur,hb',hzz,_⟩
    ·rw [h4] at hb;cases hb
    ·have:=iaddr_run (κ:=κ) ho hz (ev_rel he hix).val h0 h1 (Or.inr ⟨hu,_,hy⟩)
     rw [Nat.zero_add,←hzz] at this
     exact fin_val hs this (.rp hg hb)
 ·rename_i e z s g q n ki i
  obtain ⟨⟨h0,h1⟩,h⟩:=chk_inv h
  cases h with
  | rdz hi h=>
   obtain ⟨rfl,rfl⟩:=ret_inv h
   obtain ⟨d,hu,hd,hz⟩:=hT.kok hk (by simp)
   have hd:d=_:=hd
   subst hd
   have hr:=ev_rel he hx
   generalize hy:a.eval x=y at hr
   have hok:=hs.ok s g _ hi
   cases hr with
   | sub0 A' hg hb hl=> simp at h1;omega
   | sub A' hg hb hA hn=>
    obtain ⟨_,_,h3⟩:=hok
    rcases h3 with ⟨h4,_⟩ | ⟨b',tt,cur,hb',hzz,_⟩
    ·rw [h4] at hb;cases hb
    ·rcases hA with ⟨rfl,hA⟩ | rfl
     ·simp at h1;omega
     ·have:=iaddr_run (κ:=κ) ho hz (ev_rel he hix).val h0 h1 (Or.inr ⟨hu,_,hy⟩)
      rw [←hzz,←Nat.add_mul] at this
      exact fin_val hs this (.rp hg hb)
 ·cases h
theorem sim_index (hT:TOk P T) (hs:Sim w0 A m κ) (he:EnvOk κ env a.tmps) {t:Nat} {x ix:Operand} (ho:o.op= .index t x ix) (h:(indexF T (T t).k (rhoOf env x) (rhoOf env ix)).Runs F m v m'):o.wp P a κ.w (fun a' w'=> After w0 A κ o v m' a a' w') Q:=by
 generalize hx:rhoOf env x=c at h
 generalize hix:rhoOf env ix=ci at h
 generalize hk:(T t).k=k at h
 unfold indexF at h
 split at h
 ·rename_i s ki i
  obtain ⟨⟨h0,h1⟩,h⟩:=chk_inv h
  obtain ⟨rfl,rfl⟩:=ret_inv h
  obtain ⟨d,hu,hd⟩:=hT.kok hk (by simp)
  have hd:d=_:=hd
  subst hd
  refine fin_val hs ?_ (relv κ _)
  have hlt:i.toNat < s.size:=by omega
  have hb:s[i.toNat]? =some s[i.toNat]:=getElem?_pos s i.toNat hlt
  have hl:s.data.toList.getD i.toNat 0=s[i.toNat]:=by
   rw [List.getD_eq_getElem?_getD,List.getElem?_eq_getElem (by simpa using hlt)]
   rfl
  rw [hl]
  unfold execOp
  rw [ho]
  simp [(ev_rel he hx).val,(ev_rel he hix).val,Instr.index,asIntOf,run_underlying hu,h0,hb]
 ·rename_i n e z cs ki i
  obtain ⟨⟨h0,h1⟩,h⟩:=chk_inv h
  obtain ⟨d,hu,hd,hz⟩:=hT.kok hk (by simp)
  have hd:d=_:=hd
  subst hd
  obtain ⟨us,hus,hr⟩:=(ev_rel he hx).agg_inv
  obtain ⟨y,hrun,hy,rfl⟩:=ldA_part hT hr h
  refine fin_val hs ?_ hy
  unfold SizeIs at hz
  cases hq:P.info? e with
  | none=> simp [hq] at hz
  | some it=>
   have hz':it.size=z:=by simpa [hq] using hz
   unfold execOp
   rw [ho]
   simp [hus,(ev_rel he hix).val,Instr.index,asIntOf,run_underlying hu,h0,h1,sizeOf,typeInfo,hq,hz',hrun]
 ·cases h
theorem sim_len (hT:TOk P T) (hs:Sim w0 A m κ) (he:EnvOk κ env a.tmps) {x:Operand} {t:Nat} (ho:o.op= .call {callee:= .builtin .len,args:= #[x],argTypes:= #[t]}) (h:(lenF (T t).k (rhoOf env x)).Runs F m v m'):
  o.wp P a κ.w (fun a' w'=> After w0 A κ o v m' a a' w') Q:=by
 generalize hx:rhoOf env x=c at h
 generalize hk:(T t).k=k at h
 have key:∀(n:Nat),v=I n→m'=m→(Builtin.len_ #[t] o.type #[a.eval x]).run P κ.w= .ok (goInt n) κ.w→o.wp P a κ.w (fun a' w'=> After w0 A κ o v m' a a' w') Q:=by
  intro n hv hm hrun
  subst hv hm
  refine fin_val (x:= .int .i64 n) hs ?_ (relv κ _)
  unfold execOp
  rw [ho]
  simp only [resolve,List.map_toArray,List.map_cons,List.map_nil,Sem.run_bind,Sem.run_pure,Result.andThen_ok,invoke,builtin,hrun]
  rfl
 have hu:k≠ .none_→∃d,P.underlying t=some d∧KOk P k d:=fun hn=> hT.kok hk hn
 unfold lenF at h
 split at h
 ·obtain ⟨rfl,rfl⟩:=ret_inv h
  obtain ⟨d,hu,hd⟩:=hu (by simp)
  have hd:d=_:=hd
  subst hd
  exact key _ rfl rfl (by rw [(ev_rel he hx).val];simp [Builtin.len_,run_underlying hu])
 ·rename_i e z es
  obtain ⟨rfl,rfl⟩:=ret_inv h
  obtain ⟨d,hu,hd,_⟩:=hu (by simp)
  have hd:d=_:=hd
  subst hd
  have hr:=ev_rel he hx
  refine key es.length rfl rfl ?_
  generalize a.eval x=y at hr
  cases hr with
  | d hr=>
   cases hr with
   | fz0=> simp [Builtin.len_,run_underlying hu]
   | fz=> simp [Builtin.len_,run_underlying hu]
 ·obtain ⟨rfl,rfl⟩:=ret_inv h
  obtain ⟨d,hu,hd,_⟩:=hu (by simp)
  have hd:d=_:=hd
  subst hd
  have hr:=ev_rel he hx
  refine key 0 rfl rfl ?_
  generalize a.eval x=y at hr
  cases hr with
  | nl=> simp [Builtin.len_,run_underlying hu]
 ·rename_i e z s g n
  obtain ⟨rfl,rfl⟩:=ret_inv h
  obtain ⟨d,hu,hd,_⟩:=hu (by simp)
  have hd:d=_:=hd
  subst hd
  have hr:=ev_rel he hx
  refine key n rfl rfl ?_
  generalize a.eval x=y at hr
  cases hr with
  | row0=> simp [Builtin.len_,run_underlying hu]
  | row=> simp [Builtin.len_,run_underlying hu]
 ·rename_i e z s g q n
  obtain ⟨rfl,rfl⟩:=ret_inv h
  obtain ⟨d,hu,hd,_⟩:=hu (by simp)
  have hd:d=_:=hd
  subst hd
  have hr:=ev_rel he hx
  refine key n rfl rfl ?_
  generalize a.eval x=y at hr
  cases hr with
  | sub0=> simp [Builtin.len_,run_underlying hu]
  | sub=> simp [Builtin.len_,run_underlying hu]
 ·rename_i n e z _
  obtain ⟨rfl,rfl⟩:=ret_inv h
  obtain ⟨d,hu,hd,_⟩:=hu (by simp)
  have hd:d=_:=hd
  subst hd
  exact key n rfl rfl (by simp [Builtin.len_,run_underlying hu])
 ·rename_i kt et s g
  cases h with
  | rdm hi h=>
   obtain ⟨rfl,rfl⟩:=ret_inv h
   obtain ⟨d,hu,hd⟩:=hu (by simp)
   have hd:d= .map kt et:=hd
   subst hd
   obtain ⟨b,ents,clock,hev,hbk,hh,hm,_⟩:=map_block hs hi (ev_rel he hx)
   rw [hev] at key
   exact key _ rfl rfl (by simp [Builtin.len_,run_underlying hu,MapKept.run_getObj_map hh,Result.andThen,hm.1])
 ·rename_i kt et ck es
  obtain ⟨rfl,rfl⟩:=ret_inv h
  obtain ⟨d,hu,hd⟩:=hu (by simp)
  have hd:d= .map kt et:=hd
  subst hd
  have hr:=ev_rel he hx
  generalize hy:a.eval x=y at hr key
  cases hr with
  | d hr=>
   obtain ⟨b,ents,clock,rfl,hbS,hh,hm,_⟩:=hr.map_inv
   exact key _ rfl rfl (by simp [Builtin.len_,run_underlying hu,MapKept.run_getObj_map hh,Result.andThen,hm.1])
 ·cases h
theorem sim_min (hs:Sim w0 A m κ) (he:EnvOk κ env a.tmps) {x y:Operand} {ts:Array TypeId} (ho:o.op= .call {callee:= .builtin .min,args:= #[x,y],argTypes:=ts}) (h:(minF (rhoOf env x) (rhoOf env y)).Runs F m v m'):
  o.wp P a κ.w (fun a' w'=> After w0 A κ o v m' a a' w') Q:=by
 generalize hx:rhoOf env x=c at h
 generalize hy:rhoOf env y=d at h
 unfold minF at h
 split at h
 ·obtain ⟨rfl,rfl⟩:=ret_inv h
  refine fin_val hs ?_ (relv κ _)
  unfold execOp
  rw [ho]
  simp [resolve,invoke,builtin,Builtin.min_,Builtin.min2,(ev_rel he hx).val,(ev_rel he hy).val]
 ·cases h
theorem sim_max (hs:Sim w0 A m κ) (he:EnvOk κ env a.tmps) {x y:Operand} {ts:Array TypeId} (ho:o.op= .call {callee:= .builtin .max,args:= #[x,y],argTypes:=ts}) (h:(maxF (rhoOf env x) (rhoOf env y)).Runs F m v m'):
  o.wp P a κ.w (fun a' w'=> After w0 A κ o v m' a a' w') Q:=by
 generalize hx:rhoOf env x=c at h
 generalize hy:rhoOf env y=d at h
 unfold maxF at h
 split at h
 ·obtain ⟨rfl,rfl⟩:=ret_inv h
  refine fin_val hs ?_ (relv κ _)
  unfold execOp
  rw [ho]
  simp [resolve,invoke,builtin,Builtin.max_,Builtin.max2,(ev_rel he hx).val,(ev_rel he hy).val]
 ·cases h
def Bnd:Option Value→Int→Int→Prop
 | none,l,d=> l=d
 | some x,l,_=> ∃k,x= .int k l
theorem boundO_rel (he:EnvOk κ env a.tmps) {lo:Option Operand} {d l:Int} (h:boundO (lo.map (rhoOf env)) d=some l):Bnd (lo.map a.eval) l d:=by
 cases lo with
 | none=> simp [boundO] at h;exact h.symm
 | some x=>
  simp only [Option.map_some] at h ⊢
  generalize hx:rhoOf env x=c at h
  unfold boundO at h
  split at h
  ·rename_i heq;cases heq
  ·rename_i heq
   injection heq with heq
   injection h with h
   subst h
   exact ⟨_,(ev_rel he (hx.trans heq)).val⟩
  ·cases h
theorem run_bounds {w:World} {b:Bool} {len cap:Nat} {lo hi:Option Value} {l h:Int} (hlo:Bnd lo l 0) (hhi:Bnd hi h len) (h0:0≤l) (h1:l≤h) (h2:h≤len) (h3:len≤cap):
  (Instr.sliceBounds b len cap lo hi none).run P w= .ok (l.toNat,h.toNat,cap) w:=by
 have hc:h≤cap:=by omega
 have hh:0≤h:=by omega
 cases lo with
 | none=>
  have hlo:l=0:=hlo
  subst hlo
  cases hi with
  | none=>
   have hhi:h=len:=hhi
   subst hhi
   simp [Instr.sliceBounds]
  | some y=>
   obtain ⟨k,rfl⟩:=hhi
   simp [Instr.sliceBounds,Instr.sliceBound,asIntOf,hh,hc]
 | some x=>
  obtain ⟨k,rfl⟩:=hlo
  cases hi with
  | none=>
   have hhi:h=len:=hhi
   subst hhi
   simp [Instr.sliceBounds,Instr.sliceBound,asIntOf,h0,h1]
  | some y=>
   obtain ⟨k',rfl⟩:=hhi
   have hm:¬max h 0 < l:=by omega
   simp [Instr.sliceBounds,Instr.sliceBound,asIntOf,hh,hc,h0,hm]
theorem run_slice_sl {w:World} {t e z:Nat} {A':Option Addr} {len cap:Nat} {lo hi:Option Value} {l h:Int} (hu:P.underlying t=some (.slice e)) (hz:SizeIs P e z) (hlo:Bnd lo l 0) (hhi:Bnd hi h len) (h0:0≤l) (h1:l≤h) (h2:h≤len) (h3:len≤cap):
  (Instr.sliceAt t (.slice A' len cap) lo hi none).run P w= .ok (.slice (if cap=l.toNat then A' else A'.map (·.add (l.toNat * z))) (h.toNat - l.toNat) (cap - l.toNat)) w:=by
 unfold SizeIs at hz
 cases hq:P.info? e with
 | none=> simp [hq] at hz
 | some it=>
  have hz':it.size=z:=by simpa [hq] using hz
  simp [Instr.sliceAt,Instr.slice,run_underlying hu,run_bounds hlo hhi h0 h1 h2 h3,sizeOf,typeInfo,hq,hz']
theorem sim_slice (hT:TOk P T) (hs:Sim w0 A m κ) (he:EnvOk κ env a.tmps) {t:Nat} {x:Operand} {lo hi:Option Operand} (ho:o.op= .slice t x lo hi none) (h:(sliceF (T t).k (rhoOf env x) (lo.map (rhoOf env)) (hi.map (rhoOf env))).Runs F m v m'):
  o.wp P a κ.w (fun a' w'=> After w0 A κ o v m' a a' w') Q:=by
 generalize hx:rhoOf env x=c at h
 generalize hk:(T t).k=k at h
 have key:∀(y r:Value),a.eval x=y→(Instr.sliceAt t y (lo.map a.eval) (hi.map a.eval) none).run P κ.w= .ok r κ.w→Rel κ v r→m'=m→o.wp P a κ.w (fun a' w'=> After w0 A κ o v m' a a' w') Q:=by
  intro y r hy hrun hr hm
  subst hm
  refine fin_val hs ?_ hr
  unfold execOp
  rw [ho]
  simp [hy,hrun]
 unfold sliceF at h
 split at h
 ·rename_i s
  split at h
  ·rename_i l hh hl hr
   obtain ⟨⟨h0,h1,h2⟩,h⟩:=chk_inv h
   obtain ⟨rfl,rfl⟩:=ret_inv h
   obtain ⟨d,hu,hd⟩:=hT.kok hk (by simp)
   have hd:d=_:=hd
   subst hd
   refine key _ _ (ev_rel he hx).val ?_ (relv κ _) rfl
   simp [Instr.sliceAt,Instr.slice,run_underlying hu,run_bounds (boundO_rel he hl) (boundO_rel he hr) h0 h1 h2 (Nat.le_refl _)]
  ·cases h
 ·rename_i e z es
  split at h
  ·rename_i l hh hl hr
   obtain ⟨⟨h0,h1,h2,hall⟩,h⟩:=chk_inv h
   obtain ⟨rfl,rfl⟩:=ret_inv h
   obtain ⟨d,hu,hd,hz⟩:=hT.kok hk (by simp)
   have hd:d=_:=hd
   subst hd
   have hrel:=ev_rel he hx
   generalize hy:a.eval x=y at hrel
   cases hrel with
   | d hrel=>
    have hb1:=boundO_rel he hl
    have hb2:=boundO_rel he hr
    cases hrel with
    | fz0 A' c' hA'=>
     refine key _ _ hy (run_slice_sl hu hz hb1 hb2 h0 h1 h2 (Nat.zero_le _)) ?_ rfl
     simp at h2
     obtain rfl:l=0:=by omega
     obtain rfl:hh=0:=by omega
     have:=RelD.fz0 (S:=κ.S) (w:=κ.w) (if c'=0 then A' else Option.map (fun x=> x.add 0) A') c' (fun h=> by
      split at h
      ·assumption
      ·exact hA' (by simpa using h))
     simpa using Rel.d this
    | fz _ b q sz c' vs hsz hb hcap hcell hrr=>
     refine key _ _ hy (run_slice_sl hu hz hb1 hb2 h0 h1 h2 hcap) ?_ rfl
     by_cases hn:hh.toNat - l.toNat=0
     ·have e1:(es.take hh.toNat).drop l.toNat= []:=by
       apply List.eq_nil_of_length_eq_zero
       simp
       omega
      rw [e1,hn]
      exact .d (.fz0 _ _ fun h=> by split at h <;> cases h)
     ·rw [if_neg (by omega)]
      have hszz:sz=z:=by
       obtain ⟨e0,es',rfl⟩:=List.exists_cons_of_length_pos (l:=es) (by omega)
       rw [←hsz e0 (by simp),hall e0 (by simp)]
      subst hszz
      have hlen:((es.take hh.toNat).drop l.toNat).length=hh.toNat - l.toNat:=by simp;omega
      rw [←hlen]
      simp only [Option.map_some,Addr.add_lit]
      refine .d (.fz _ b _ sz _ (fun j=> vs (l.toNat * sz + j)) (fun e he=> hsz e (List.mem_of_mem_take (List.mem_of_mem_drop he))) hb (by rw [hlen];omega) (fun j hj=> ?_) (fun i j e' x' he' hx'=> ?_))
      ·rw [hlen] at hj
       rw [Nat.add_assoc]
       refine hcell _ ?_
       have:hh.toNat * sz≤es.length * sz:=Nat.mul_le_mul_right _ (by omega)
       have h4:(hh.toNat - l.toNat) * sz=hh.toNat * sz - l.toNat * sz:=Nat.sub_mul _ _ _
       have h5:l.toNat * sz≤hh.toNat * sz:=Nat.mul_le_mul_right _ (by omega)
       omega
      ·rw [List.getElem?_drop,List.getElem?_take] at he'
       split at he'
       ·have:=hrr _ j e' x' he' hx'
        rw [Nat.add_mul,Nat.add_assoc] at this
        exact this
       ·cases he'
  ·cases h
 ·rename_i e z s g n
  split at h
  ·rename_i l hh hl hr
   obtain ⟨⟨h0,h1,h2⟩,h⟩:=chk_inv h
   cases h with
   | rdz hi h=>
    obtain ⟨rfl,rfl⟩:=ret_inv h
    obtain ⟨d,hu,hd,hz⟩:=hT.kok hk (by simp)
    have hd:d=_:=hd
    subst hd
    have hrel:=ev_rel he hx
    generalize hy:a.eval x=y at hrel
    have hb1:=boundO_rel he hl
    have hb2:=boundO_rel he hr
    have hok:=hs.ok s g _ hi
    cases hrel with
    | row0 A' hg hb hlz=>
     refine key _ _ hy (run_slice_sl hu hz hb1 hb2 h0 h1 h2 (Nat.le_refl _)) ?_ rfl
     simp at h2
     obtain rfl:l=0:=by omega
     obtain rfl:hh=0:=by omega
     simpa using Rel.sub0 (κ:=κ) _ hg hb hlz
    | row hg hb=>
     obtain ⟨_,_,h3⟩:=hok
     rcases h3 with ⟨h4,_⟩ | ⟨b',tt,cur,hb',hzz,_,hlc,_⟩
     ·rw [h4] at hb;cases hb
     ·refine key _ _ hy (run_slice_sl hu hz hb1 hb2 h0 h1 h2 hlc) ?_ rfl
      have e1:hh.toNat - l.toNat=(hh - l).toNat:=by omega
      rw [e1]
      refine .sub _ hg hb ?_ (by omega)
      by_cases hc:(κ.φ s g).cap=l.toNat
      ·left;exact ⟨by omega,by omega⟩
      ·right
       rw [if_neg hc,hzz]
       simp [Addr.add_lit]
  ·cases h
 ·rename_i e z s g q n
  split at h
  ·rename_i l hh hl hr
   obtain ⟨⟨h0,h1,h2⟩,h⟩:=chk_inv h
   cases h with
   | rdz hi h=>
    obtain ⟨rfl,rfl⟩:=ret_inv h
    obtain ⟨d,hu,hd,hz⟩:=hT.kok hk (by simp)
    have hd:d=_:=hd
    subst hd
    have hrel:=ev_rel he hx
    generalize hy:a.eval x=y at hrel
    have hb1:=boundO_rel he hl
    have hb2:=boundO_rel he hr
    have hok:=hs.ok s g _ hi
    cases hrel with
    | sub0 A' hg hb hlz=>
     refine key _ _ hy (run_slice_sl hu hz hb1 hb2 h0 h1 h2 (Nat.le_refl _)) ?_ rfl
     simp at h2
     obtain rfl:l=0:=by omega
     obtain rfl:hh=0:=by omega
     simpa using Rel.sub0 (κ:=κ) _ hg hb hlz
    | sub A' hg hb hA hn=>
     obtain ⟨_,_,h3⟩:=hok
     rcases h3 with ⟨h4,_⟩ | ⟨b',tt,cur,hb',hzz,_,hlc,_⟩
     ·rw [h4] at hb;cases hb
     ·refine key _ _ hy (run_slice_sl hu hz hb1 hb2 h0 h1 h2 (by omega)) ?_ rfl
      have e1:hh.toNat - l.toNat=(hh - l).toNat:=by omega
      have e2:(κ.φ s g).cap - q - l.toNat=(κ.φ s g).cap - (q + l.toNat):=by omega
      rw [e1,e2]
      refine .sub _ hg hb ?_ (by omega)
      by_cases hc:(κ.φ s g).cap - q=l.toNat
      ·left;exact ⟨by omega,by omega⟩
      ·rw [if_neg hc]
       rcases hA with ⟨rfl,hA⟩ | rfl
       ·left;exact ⟨by omega,by omega⟩
       ·right
        rw [hzz]
        simp [Addr.add_lit,Nat.add_mul]
  ·cases h
 ·cases h
end
end Go.Proofs.YtmgcnoigihdhpaaGreatDoor

/-
Running code on constants: operations that make a block. Over any program.
-/
import Derived.Test.YtmgcnoigihdhpaaGreatDoorQ03
import Derived.Laws.MakeOwn
import Derived.Laws.CopyRow
import Derived.Laws.AppendOwn
import Derived.Laws.Append
import Derived.Lib.AppendStr
import Derived.Lib.UnsafeStr
namespace Go.Proofs.YtmgcnoigihdhpaaGreatDoor.Ci
open Go.RowKit
section
variable {P : Program} {σ : Nm} {E : Tr CV} {ρ : Operand → Value} {w : World}
theorem blk_new {cs:List CV} {vals:Array Value} (hr:VRL σ cs vals.toList) (h1:∀c∈cs,oneC c=true) (T:TypeId) {k:Kd} (hk:KdOk T ⟨w.heap.size,0,vals.size⟩ cs.length k) {σ':Nm} (hs:Le σ σ'):BlkOk σ' (w.alloc (.cells vals T)) ⟨w.heap.size,0,vals.size⟩ (.cl k cs):=by
 have hl:=hr.1
 refine ⟨vals,T,heap_alloc_new w _,by show cs.length≤vals.size;rw [←hl];simp,Nat.zero_add _,hk,fun j x hx=> ?_⟩
 obtain ⟨v,hv,hx2⟩:=hr.get hx
 exact ⟨v,by show vals[0 + j]? =some v;rw [Nat.zero_add];simpa using hv,hx2.mono hs,h1 x (List.mem_of_getElem? hx)⟩
theorem repC_succ (z:List CV) (n:Nat):repC z (n + 1)=z ++ repC z n:=by
 show app z (repC z n)=_
 rw [app_eq]
theorem repC_len (z:List CV):∀n,(repC z n).length=n * z.length
 | 0=> by show ([]:List CV).length=_;simp
 | n + 1=> by rw [repC_succ,List.length_append,repC_len z n,Nat.add_mul];omega
theorem repC_get (z:List CV):∀(n j:Nat),j < n * z.length→(repC z n)[j]? =z[j % z.length]?
 | 0,j,h=> by simp at h
 | n + 1,j,h=> by
  rw [repC_succ]
  by_cases hj:j < z.length
  ·rw [List.getElem?_append_left hj,Nat.mod_eq_of_lt hj]
  ·rw [List.getElem?_append_right (by omega),repC_get z n _ (by rw [Nat.add_mul] at h;omega)]
   congr 1
   rw [Nat.mod_eq_sub_mod (a:=j) (by omega)]
theorem repC_ones {z:List CV} (h:∀c∈z,oneC c=true):∀n,∀c∈repC z n,oneC c=true
 | 0,c,hc=> by cases hc
 | n + 1,c,hc=> by
  rw [repC_succ] at hc
  rcases List.mem_append.1 hc with hc | hc
  ·exact h c hc
  ·exact repC_ones h n c hc
theorem repC_rel {z:List CV} {zs:Array Value} (h:VRL σ z zs.toList) (n:Nat):VRL σ (repC z n) (madeCells zs (n * z.length)).toList:=by
 have hl:zs.size=z.length:=by have:=h.1;simpa using this
 refine ⟨by simp [size_madeCells,repC_len],fun j c v hc hv=> ?_⟩
 have hj:j < n * z.length:=by
  have:=(List.getElem?_eq_some_iff.1 hc).1
  rw [repC_len] at this
  exact this
 rw [repC_get z n j hj] at hc
 have hv:(madeCells zs (n * z.length))[j]? =some v:=by simpa using hv
 simp only [madeCells,Array.getElem?_map] at hv
 rw [Array.getElem?_range] at hv
 rw [if_pos hj] at hv
 injection hv with hv
 have hm:j % z.length < z.length:=(List.getElem?_eq_some_iff.1 hc).1
 have hm':j % zs.size < zs.size:=by rw [hl];exact hm
 have hv:zs[j % zs.size]! =v:=hv
 rw [getElem!_pos zs _ hm'] at hv
 refine h.2 (j % z.length) c v hc ?_
 rw [←hv]
 simp only [hl,Array.getElem?_toList]
 rw [Array.getElem?_eq_getElem (by rw [hl];exact hm)]
def Makes (P:Program) (σ:Nm) (ρ:Operand→Value) (w:World) (o:Oper) (v:CV) (l:Nat) (b:Blk):Prop:=∃(obj:Obj) (room:Nat) (x:Value),(execOp ρ o).run P w= .ok (.value x) (w.alloc obj)∧∀σ',Le σ σ'→σ' l=some ⟨w.heap.size,0,room⟩→BlkOk σ' (w.alloc obj) ⟨w.heap.size,0,room⟩ b∧VR σ' v x
theorem exA_ok {o:Oper} {l:Nat} {v:CV} {b:Blk} (hev:Evs σ E ρ o.op.operands) (h:exA P E o.op l=some (v,b)):Makes P σ ρ w o v l b:=by
 obtain ⟨dst,op,ty,pos,after,guard⟩:=o
 have box:∀{cs:List CV} {x:Value} {t:TypeId},VRL σ cs x.cells.toList→(∀c∈cs,oneC c=true)→v= .p l 0→b= .cl (.whole t) cs→(execOp ρ ⟨dst,op,ty,pos,after,guard⟩).run P w= .ok (.value (.pointer (some ⟨w.heap.size,0,none⟩))) (w.alloc (.cells x.cells t))→Makes P σ ρ w ⟨dst,op,ty,pos,after,guard⟩ v l b:=by
  intro cs x t hr h1 hv hb hrun
  subst hv hb
  exact ⟨_,x.cells.size,_,hrun,fun σ' hs hl=> ⟨blk_new (k:= .whole t) hr h1 t ⟨rfl,rfl,by have:=hr.1;simpa using this⟩ hs,.p 0 hl⟩⟩
 cases op with
 | alloc t=>
  obtain ⟨cs,h1,h⟩:=ob_some (show ob (zeroT P t) _=some (v,b) from h)
  injection h with h
  injection h with h2 h3
  obtain ⟨zv,z1,z2,z3⟩:=zeroT_run h1 σ w
  refine box z2 z3 h2.symm h3.symm (t:=t) ?_
  show (do pure (.value (←Instr.alloc t true (.tuple #[]))):Sem Next).run P w=_
  simp only [Instr.alloc,Sem.run_bind,z1,Result.andThen_ok]
  rfl
 | box t x=>
  obtain ⟨c,h1,h⟩:=ob_some (show ob (ev E x) _=some (v,b) from h)
  obtain ⟨hn,h⟩:=ifO_some h
  injection h with h
  injection h with h2 h3
  obtain ⟨k1,k2⟩:=(hev x (by simp [Op.operands]) c h1).cells hn
  exact box k1 k2 h2.symm h3.symm (t:=t) rfl
 | buildSlice t n ps=>
  obtain ⟨e,h1,h⟩:=ob_some (show ob (elT P t) _=some (v,b) from h)
  obtain ⟨z,h2,h⟩:=ob_some h
  obtain ⟨z0,h3,h⟩:=ob_some h
  obtain ⟨vs,h4,h⟩:=ob_some h
  obtain ⟨h5,h⟩:=ifO_some h
  obtain ⟨cs,h6,h⟩:=ob_some h
  injection h with h
  injection h with h7 h8
  subst h7 h8
  obtain ⟨k1,k2⟩:=and_true h5
  have k1:=beq_eq' k1
  have k2:=ble_le k2
  rw [len_eq] at k1
  obtain ⟨zv,z1,z2,z3⟩:=zeroT_run h3 σ w
  obtain ⟨p1,p2⟩:=evP_rel2 (ρ:=ρ) (σ:=σ) (fun q hq=> hev q.2 (by
   simp only [Op.operands]
   simp
   exact ⟨q.1,hq⟩)) h4
  have hr:=repC_rel z2 n
  rw [k1] at hr
  obtain ⟨us,q1,q2,q3⟩:=fillC_rel vs _ (repC z0 n) cs (madeCells zv.cells (n * z)) p1 p2 hr (repC_ones z3 n) h6
  have hlen:us.size=cs.length:=by have:=q2.1;simpa using this
  refine ⟨.cells us e,us.size,.slice (some ⟨w.heap.size,0,none⟩) n n,?_,fun σ' hs hl=> ⟨blk_new (k:= .of e) q2 q3 e ⟨rfl,rfl⟩ hs,.sk 0 n n hl (Nat.le_refl _)⟩⟩
  have hk2:¬(n * z > 2 ^ 24):=by
   have:n * z≤16777216:=k2
   omega
  have q1:Instr.fill (fun i=> some (i * z,z)) (madeCells zv.cells (n * z)) (ps.map fun q=> (q.1,ρ q.2)).toList=some us:=q1
  show (do pure (.value (←Instr.buildSlice t n (ps.map fun q=> (q.1,ρ q.2)))):Sem Next).run P w=_
  by_cases h0:n * z=0
  ·have e1:(Array.range (n * z)).map (fun x=> (#[]:Array Value)[x % (#[]:Array Value).size]!)=madeCells zv.cells (n * z):=by
    rw [h0]
    simp [madeCells]
   simp only [Instr.buildSlice,Sem.run_bind,Sem.run_pure,run_underlying (elT_some h1),szT_run h2 w,Result.andThen_ok,if_neg hk2,if_pos h0,e1,q1]
   rfl
  ·have e1:(Array.range (n * z)).map (fun x=> zv.cells[x % zv.cells.size]!)=madeCells zv.cells (n * z):=rfl
   simp only [Instr.buildSlice,Sem.run_bind,Sem.run_pure,run_underlying (elT_some h1),szT_run h2 w,Result.andThen_ok,if_neg hk2,if_neg h0,z1,e1,q1]
   rfl
 | makeMap t r=>
  obtain ⟨hr,h⟩:=noneO_some (show noneO r _=some (v,b) from h)
  subst hr
  injection h with h
  injection h with h2 h3
  subst h2 h3
  exact ⟨.map #[] 0,0,.map (some w.heap.size),rfl,fun σ' hs hl=> ⟨⟨#[],heap_alloc_new w _,MapKept.stamped_empty 0,rfl,rfl,fun j p e hp=> by simp at hp⟩,.m hl⟩⟩
 | makeSlice t x y=>
  obtain ⟨e,h1,h⟩:=ob_some (show ob (elT P t) _=some (v,b) from h)
  obtain ⟨u,h2,h⟩:=ob_some h
  obtain ⟨z,h3,h⟩:=ob_some h
  obtain ⟨z0,h4,h⟩:=ob_some h
  obtain ⟨cx,h5,h⟩:=ob_some h
  obtain ⟨cy,h6,h⟩:=ob_some h
  obtain ⟨kx,n,ex,ha⟩:=isNat_some h
  obtain ⟨ky,c,ey,hb⟩:=isNat_some ha
  obtain ⟨h7,hc⟩:=ifO_some hb
  clear h ha hb
  subst ex
  subst ey
  injection hc with hc
  injection hc with h8 h9
  subst h8
  subst h9
  obtain ⟨k1,h7⟩:=and_true h7
  obtain ⟨k2,h7⟩:=and_true h7
  obtain ⟨k3,k4⟩:=and_true h7
  have k1:=beq_eq' k1
  have k2:=ble_le k2
  have k3:=ble_le k3
  have k4:=ble_le k4
  rw [len_eq] at k1
  obtain ⟨i,hi,h2⟩:=ob_some h2
  obtain ⟨hb,_⟩:=ifO_some h2
  have hb:=ble_le hb
  obtain ⟨i',hi',h3⟩:=ob_some h3
  rw [hi] at hi'
  injection hi' with hi'
  subst hi'
  injection h3 with h3
  obtain ⟨i',hi',h4'⟩:=ob_some (show ob (P.info? e) _=some z0 from h4)
  rw [hi] at hi'
  injection hi' with hi'
  subst hi'
  obtain ⟨zv,hz,_⟩:=ob_some h4'
  obtain ⟨zv',z1,z2,z3⟩:=zeroT_run h4 σ w
  have hzz:zv'=zv:=by
   simp [zeroValue,typeInfo,hi,hz] at z1
   exact z1.symm
  subst hzz
  have hr:=repC_rel z2 c
  rw [k1] at hr
  have hx:=(hev x (by simp [Op.operands]) _ h5).val
  have hy:=(hev y (by simp [Op.operands]) _ h6).val
  have hsz:(madeCells zv'.cells (c * z)).size=c * z:=size_madeCells _ _
  refine ⟨.cells (madeCells zv'.cells (c * z)) e,(madeCells zv'.cells (c * z)).size,.slice (some ⟨w.heap.size,0,none⟩) n c,?_,fun σ' hs hl=> ⟨blk_new (k:= .of e) hr (repC_ones z3 c) e ⟨rfl,rfl⟩ hs,.sk 0 n c hl k2⟩⟩
  have hby:(i.bytes:Int) * (c:Int)≤281474976710656:=by
   have:i.bytes * c≤1000 * 1000000:=Nat.mul_le_mul hb k3
   have h2:((i.bytes * c:Nat):Int)≤((1000 * 1000000:Nat):Int):=Int.ofNat_le.2 this
   rw [Int.natCast_mul] at h2
   omega
  have:=run_makeSlice (P:=P) w t e i zv' (elT_some h1) hi hz kx ky (n:Int) (c:Int) (Int.natCast_nonneg n) (by omega) (by simp only [Int.toNat_natCast];rw [h3];exact k4) hby (by omega)
  show (do pure (.value (←Instr.makeSlice t (ρ x) (ρ y))):Sem Next).run P w=_
  rw [hx,hy,Sem.run_bind]
  have e1:(Value.int kx (Int.ofNat n))= .int kx (n:Int):=rfl
  have e2:(Value.int ky (Int.ofNat c))= .int ky (c:Int):=rfl
  rw [e1,e2,this]
  simp only [Int.toNat_natCast,h3]
  rfl
 | _=> cases h
end
end Go.Proofs.YtmgcnoigihdhpaaGreatDoor.Ci
namespace Go.Proofs.YtmgcnoigihdhpaaGreatDoor.Ci
open Go.RowKit
theorem vSame_eq {a b:Value} (h:vSame a b=true):a=b:=by
 unfold vSame at h
 split at h
 ·rename_i k a k' b
  obtain ⟨h1,h2⟩:=and_true h
  rw [kEq_eq h1]
  rw [ieq_eq] at h2
  rw [of_decide_eq_true h2]
 ·rw [eq_of_beq h]
 all_goals first | rfl | cases h
theorem cpSame_eq {a b:Cp} (h:cpSame a b=true):a=b:=by
 cases a <;> cases b <;> first | (rw [beq_eq' h];done) | (obtain ⟨h1,h2⟩:=and_true h;rw [beq_eq' h1,beq_eq' h2];done) | cases h
theorem same1_eq {a b:CV} (h:same1 a b=true):a=b:=by
 unfold same1 at h
 split at h
 ·rw [vSame_eq h]
 ·rw [leqN_eq h]
 ·obtain ⟨h1,h2⟩:=and_true h
  rw [beq_eq' h1,beq_eq' h2]
 ·obtain ⟨h1,h2⟩:=and_true h
  obtain ⟨h2,h3⟩:=and_true h2
  obtain ⟨h3,h4⟩:=and_true h3
  rw [beq_eq' h1,beq_eq' h2,beq_eq' h3,cpSame_eq h4]
 ·rw [beq_eq' h]
 ·rw [beq_eq' h]
 ·cases h
theorem sameL_eq:∀{a b:List CV},sameL a b=true→a=b
 | [],[],_=> rfl
 | x::l,y::r,h=> by
  obtain ⟨h1,h2⟩:=and_true h
  rw [same1_eq h1,sameL_eq h2]
 | [],_::_,h=> by cases h
 | _::_,[],h=> by cases h
theorem same_eq {a b:CV} (h:same a b=true):a=b:=by
 unfold same at h
 split at h
 ·rw [sameL_eq h]
 ·rw [sameL_eq h]
 ·exact same1_eq h
theorem dist1_ne {σ:Nm} {a b:CV} {x y:Value} (ha:VR σ a x) (hb:VR σ b y) (h:dist1 a b=true):x≠y:=by
 unfold dist1 at h
 split at h
 ·rename_i k m k' n
  rw [ha.val,hb.val]
  intro e
  injection e with e1 e2
  subst e1 e2
  have:ieq m m=true:=by rw [ieq_eq];exact decide_eq_true rfl
  have hk:kEq k k=true:=by cases k <;> rfl
  simp [this,hk] at h
 ·rename_i m n
  rw [ha.val,hb.val]
  intro e
  injection e with e1
  subst e1
  simp at h
 ·rename_i m n
  cases ha with
  | t _ hm=>
   cases hb with
   | t _ hn=>
    intro e
    injection e with e
    injection e with e
    have e:=congrArg Array.toList e
    have:=map_inj hm hn (by simpa using e)
    subst this
    simp [leqN_refl] at h
 ·cases h
theorem distL_ne {σ:Nm}:∀{a b:List CV} {x y:List Value},VRL σ a x→VRL σ b y→distL a b=true→x≠y
 | p::l,q::r,x,y,ha,hb,h=> by
  obtain ⟨v,vs,rfl,a1,a2⟩:=ha.cons_inv
  obtain ⟨u,us,rfl,b1,b2⟩:=hb.cons_inv
  have h:(dist1 p q || distL l r)=true:=h
  intro e
  injection e with e1 e2
  cases hd:dist1 p q
  ·rw [hd] at h
   exact distL_ne a2 b2 h e2
  ·exact dist1_ne a1 b1 hd e1
 | [],[],_,_,_,_,h=> by cases h
 | [],_::_,_,_,_,_,h=> by cases h
 | _::_,[],_,_,_,_,h=> by cases h
theorem dist_ne {σ:Nm} {a b:CV} {x y:Value} (ha:VR σ a x) (hb:VR σ b y) (h:dist a b=true):x≠y:=by
 unfold dist at h
 split at h
 ·obtain ⟨vs,rfl,a1,_⟩:=ha.aggL
  obtain ⟨us,rfl,b1,_⟩:=hb.aggL
  intro e
  injection e with e
  exact distL_ne a1 b1 h (by rw [e])
 ·exact dist1_ne ha hb h
theorem setAt_eq {α:Type} (x:α):∀(i:Nat) (l:List α),setAt x i l=l.set i x
 | 0,[]=> rfl
 | 0,_::_=> rfl
 | _ + 1,[]=> rfl
 | i + 1,y::l=> by
  show y::setAt x i l=_
  rw [setAt_eq x i l]
  rfl
section
variable {P : Program} {σ : Nm} {E : Tr CV} {ρ : Operand → Value} {w : World} {w0 : Base} {H : Tr Blk} {nx : Nat}
def After (w0:Base) (σ:Nm) (nx:Nat) (v:CV) (H':Tr Blk) (nx':Nat) (x:Value) (w':World):Prop:=∃σ',Le σ σ'∧(∀l,l < nx→σ' l=σ l)∧R w0 σ' H' nx' w'∧nx≤nx'∧VR σ' v x
theorem After.same {v:CV} {H':Tr Blk} {x:Value} {w':World} (h:R w0 σ H' nx w') (hv:VR σ v x):After w0 σ nx v H' nx x w':=⟨σ,.refl σ,fun _ _=> rfl,h,Nat.le_refl _,hv⟩
theorem run_store_row {g q t:Nat} {cur:Array Value} {tt:TypeId} {x:Value} (hg:w.heap[g]? =some (.cells cur tt (0,0))) (hl:q + x.cells.size≤cur.size) (h1:∀u∈x.cells.toList,u.oneCell'=true) (hz:(sizeOf t).run P w= .ok x.cells.size w):
  (Instr.storeAt t (.pointer (some ⟨g,q,none⟩)) x).run P w= .ok () (w.setRow g (over cur.toList q x.cells.toList).toArray):=by
 have hst:=run_storeCells_at P g q tt x.cells.toList 0 cur w hg (by simpa using hl) h1
 simp only [Nat.add_zero] at hst
 simp [Instr.storeAt,Instr.sureAddr,storeVar,hz,hst,over]
theorem setRow_size (w:World) (g:Nat) (cs:Array Value):(w.setRow g cs).heap.size=w.heap.size:=by simp [World.setRow]
theorem cl_over {σ:Nm} {w':World} {c:Loc} {k:Kd} {cs ns:List CV} {us:List Value} {vals:Array Value} {T:TypeId} {o:Nat} (h2:cs.length≤c.room) (h3:c.off + c.room=vals.size) (hk:KdOk T c cs.length k) (h4:∀(j:Nat) (x:CV),cs[j]? =some x→∃v,vals[c.off + j]? =some v∧VR σ x v∧oneC x=true)
  (hr:VRL σ ns us) (h1:∀x∈ns,oneC x=true) (ho:o + ns.length≤cs.length) (hh:w'.heap[c.blk]? =some (.cells (over vals.toList (c.off + o) us).toArray T (0,0))):BlkOk σ w' c (.cl k (over cs o ns)):=by
 have hl:=hr.1
 have hov:(c.off + o) + us.length≤vals.toList.length:=by rw [hl];simp;omega
 refine ⟨_,T,hh,by rw [over_length _ _ _ ho];exact h2,by rw [List.size_toArray,over_length _ _ _ hov];simpa using h3,by rw [over_length _ _ _ ho];exact hk,fun j x hx=> ?_⟩
 rw [over_get _ _ _ ho] at hx
 have hg:∀j,((over vals.toList (c.off + o) us).toArray)[c.off + j]? =if c.off + j < c.off + o then vals[c.off + j]? else if c.off + j < c.off + o + us.length then us[c.off + j - (c.off + o)]? else vals[c.off + j]? :=by
  intro j
  rw [List.getElem?_toArray,over_get _ _ _ hov]
  simp
 rw [hg]
 by_cases a1:j < o
 ·rw [if_pos a1] at hx
  rw [if_pos (by omega)]
  exact h4 j x hx
 ·rw [if_neg a1] at hx
  rw [if_neg (by omega)]
  by_cases a2:j < o + ns.length
  ·rw [if_pos a2] at hx
   rw [if_pos (by omega)]
   obtain ⟨u,b1,b2⟩:=hr.get hx
   refine ⟨u,?_,b2,h1 x (List.mem_of_getElem? hx)⟩
   have:c.off + j - (c.off + o)=j - o:=by omega
   rw [this]
   exact b1
  ·rw [if_neg a2] at hx
   rw [if_neg (by omega)]
   exact h4 j x hx
theorem setCl_eq {l:Nat} {k:Kd} {cs0:List CV} (h:H.get l=some (.cl k cs0)) (cs:List CV):setCl H l cs=H.put l (.cl k cs):=by
 unfold setCl
 rw [h]
theorem kOf_eq {l:Nat} {k:Kd} {cs0:List CV} (h:H.get l=some (.cl k cs0)):kOf H l=k:=by
 unfold kOf
 rw [h]
theorem row_upd (hs:R w0 σ H nx w) {l o:Nat} {c:Loc} {k:Kd} {cs ns:List CV} {us:List Value} {vals:Array Value} {T:TypeId} (hl:σ l=some c) (hH:H.get l=some (.cl k cs)) (hg:w.heap[c.blk]? =some (.cells vals T (0,0))) (hr:VRL σ ns us) (h1:∀x∈ns,oneC x=true) (ho:o + ns.length≤cs.length):
  R w0 σ (setCl H l (wrt ns o cs)) nx (w.setRow c.blk (over vals.toList (c.off + o) us).toArray):=by
 obtain ⟨vals',T',g1,g2,g3,gk,g4⟩:=hs.blk l c _ hl hH
 rw [hg] at g1
 injection g1 with g1
 injection g1 with e1 e2
 subst e1 e2
 rw [wrt_eq _ _ _ ho,setCl_eq hH]
 exact hs.upd hl hH rfl rfl rfl (setRow_size _ _ _) (fun k hk=> setRow_other _ _ _ _ hk) (cl_over g2 g3 gk g4 hr h1 ho (setRow_heap _ _ vals _ T _ hg))
theorem cellsOf_some {l:Nat} {cs:List CV} (h:cellsOf H l=some cs):∃k,H.get l=some (.cl k cs):=by
 obtain ⟨b,h1,h2⟩:=ob_some h
 cases b with
 | mp es=> cases h2
 | it=> cases h2
 | mu=> cases h2
 | cl k xs=>
  injection h2 with h2
  subst h2
  exact ⟨k,h1⟩
theorem ok_inj {v v':CV} {h h':Tr Blk} {n n':Nat} (e:Res.ok v h n= .ok v' h' n'):v=v'∧h=h'∧n=n':=by
 injection e with e1 e2 e3
 exact ⟨e1,e2,e3⟩
theorem ifR_ok {b:Bool} {x:Res} {v:CV} {h':Tr Blk} {n':Nat} (h:ifB b x .no= .ok v h' n'):b=true∧x= .ok v h' n':=by
 cases b
 ·cases h
 ·exact ⟨rfl,h⟩
theorem e_store (hs:R w0 σ H nx w) {t:TypeId} {a x:Operand} {v:CV} {H':Tr Blk} {nx':Nat} (hev:Evs σ E ρ #[a,x]) (h:eStore P E H nx t a x= .ok v H' nx'):∃w',(Instr.storeAt t (ρ a) (ρ x)).run P w= .ok () w'∧After w0 σ nx v H' nx' undef w':=by
 obtain ⟨H1,h1,h2⟩:=oR_ok h
 obtain ⟨rfl,rfl,rfl⟩:=ok_inj h2
 obtain ⟨p,h3,h4⟩:=ob_some h1
 obtain ⟨l,o,rfl,h5⟩:=isP_some h4
 obtain ⟨y,h6,h7⟩:=ob_some h5
 obtain ⟨z,h8,h9⟩:=ob_some h7
 obtain ⟨cs,h10,h11⟩:=ob_some h9
 obtain ⟨h12,h13⟩:=ifO_some h11
 injection h13 with h13
 obtain ⟨k1,k2⟩:=and_true h12
 obtain ⟨k2,k3⟩:=and_true k2
 have k2:=beq_eq' k2
 rw [len_eq] at k2 k3
 have k3:o + z≤cs.length:=ble_le k3
 obtain ⟨c,hc,ha⟩:=(hev a (by simp) _ h3).pv
 obtain ⟨r1,r2⟩:=(hev x (by simp) _ h6).cells k1
 obtain ⟨kd,hH⟩:=cellsOf_some h10
 obtain ⟨vals,T,g1,g2,g3,_,g4⟩:=hs.blk l c _ hc hH
 have hsz:(ρ x).cells.size=z:=by have:=r1.1;simp at this;omega
 rw [ha]
 refine ⟨_,run_store_row g1 (by rw [hsz];omega) (r1.ones r2) (by rw [hsz];exact szT_run h8 w),?_⟩
 rw [←h13]
 exact .same (row_upd hs hc hH g1 r1 r2 (by rw [k2];omega)) (.unit σ)
theorem e_put (hs:R w0 σ H nx w) {t:TypeId} {m k x:Operand} {v:CV} {H':Tr Blk} {nx':Nat} (hev:Evs σ E ρ #[m,k,x]) (h:ePut P E H nx t m k x= .ok v H' nx'):∃w',(Instr.mapUpdate t (ρ m) (ρ k) (ρ x)).run P w= .ok () w'∧After w0 σ nx v H' nx' undef w':=by
 obtain ⟨H1,h1,h2⟩:=oR_ok h
 obtain ⟨rfl,rfl,rfl⟩:=ok_inj h2
 obtain ⟨kt,et,hu,h3⟩:=mpT_some h1
 obtain ⟨p,h4,h5⟩:=ob_some h3
 obtain ⟨l,rfl,h6⟩:=isM_some h5
 obtain ⟨i,h7,h8⟩:=ob_some h6
 obtain ⟨y,h9,h10⟩:=ob_some h8
 obtain ⟨b0,h11,h12⟩:=ob_some h10
 obtain ⟨es,bs,ck,rfl,h12⟩:∃es bs ck,b0= .mp es bs ck∧(ob (putC P kt i y es) fun es'=> some (H.put l (putB es es' bs ck)))=some H1:=by
  cases b0 with
  | cl=> cases h12
  | it=> cases h12
  | mu=> cases h12
  | mp es bs ck=> exact ⟨es,bs,ck,rfl,h12⟩
 obtain ⟨es',h13,h14⟩:=ob_some h12
 injection h14 with h14
 have hma:mapOf H (.m l)=some es:=by
  show ob (H.get l) _=_
  rw [h11]
 have hm:=hev m (by simp) _ h4
 have hk:=hev k (by simp) _ h7
 have hx:=hev x (by simp) _ h9
 rcases mapOf_ok hs hm hma with ⟨e1,_⟩ | ⟨l',lc,ents,bs',clock,e1,hl,hH,hmv,hg,hst,hbo,hsz,hrel⟩
 ·exact absurd hm (by rw [e1];intro e;cases e)
 ·injection e1 with e1
  subst e1
  rw [h11] at hH
  injection hH with hH
  injection hH with _ eb1 eb2
  subst eb1 eb2
  have hH:=h11
  obtain ⟨r,h15,h16⟩:=ob_some h13
  obtain ⟨f1,r',f2,f3,f4⟩:=findC_ok (ents:=ents.toList) hk (by simpa using hsz) (fun j p e hp he=> (hrel j p e hp (by simpa using he)).1) h15 w
  have fin:∀(ents':Array MapEntry) (clock':Nat) (bs':List Nat),putB es es' bs ck= .mp es' bs' clock'→ents'.toList.map (·.born)=bs'→(Instr.mapUpdate t (.map (some lc.blk)) (ρ k) (ρ x)).run P w= .ok () {w with heap:=w.heap.setIfInBounds lc.blk (.map ents' clock')}→MapKept.Stamped ents' clock'→ents'.size=es'.length→
    (∀(j:Nat) (p:CV×CV) (e:MapEntry),es'[j]? =some p→ents'[j]? =some e→VR σ p.1 e.key∧VR σ p.2 e.val)→∃w',(Instr.mapUpdate t (ρ m) (ρ k) (ρ x)).run P w= .ok () w'∧After w0 σ nx (.tup []) H1 nx undef w':=by
   intro ents' clock' bs' hpb hbo' hrun hst' hsz' hrel'
   rw [hmv,←h14,hpb]
   have hset:=MapKept.heap_set (o':= .map ents' clock') hg
   exact ⟨_,hrun,.same (hs.upd hl hH rfl rfl rfl (by simp) hset.2 ⟨ents',hset.1,hst',hbo',hsz',hrel'⟩) (.unit σ)⟩
  cases r with
  | none=>
   obtain ⟨h17,h18⟩:=ifO_some (show ifO (distAll i es) _=some es' from h16)
   injection h18 with h18
   rw [app_eq] at h18
   subst h18
   have hr':r'=none:=by
    cases r' with
    | none=> rfl
    | some q=> cases f3
   subst hr'
   have hne:∀e∈ents.toList,e.key≠ρ k:=by
    have hall:∀(l:List (CV×CV)),distAll i l=true→∀p∈l,dist p.1 i=true:=by
     intro l
     induction l with
     | nil=> intro _ p hp;cases hp
     | cons q l ih=>
      intro hq p hp
      have hq:ifB (dist q.1 i) (distAll i l) false=true:=hq
      cases hd:dist q.1 i
      ·rw [hd] at hq;cases hq
      ·rw [hd] at hq
       rcases List.mem_cons.1 hp with rfl | hp
       ·exact hd
       ·exact ih hq p hp
    intro e he
    obtain ⟨j,hj,rfl⟩:=List.getElem_of_mem he
    have hj':j < es.length:=by rw [←hsz];simpa using hj
    exact dist_ne (hrel j es[j] _ (List.getElem?_eq_getElem hj') (by simp at hj;simp [hj])).1 hk (hall es h17 _ (List.getElem_mem hj'))
   have hpb:putB es (es ++ [(i,y)]) bs ck= .mp (es ++ [(i,y)]) (bs ++ [ck]) (ck + 1):=by
    unfold putB
    rw [len_eq,len_eq,app_eq]
    have:Nat.beq (es ++ [(i,y)]).length es.length=false:=by
     cases hq:Nat.beq (es ++ [(i,y)]).length es.length
     ·rfl
     ·have:=beq_eq' hq
      simp at this
    rw [this]
   refine fin (ents.push ⟨ρ k,ρ x,ck⟩) (ck + 1) (bs ++ [ck]) hpb (by simp [hbo]) ?_ (MapKept.stamped_push hst hne) (by simp [hsz]) fun j p e hp he=> ?_
   ·simp [Instr.mapUpdate,run_underlying hu,MapKept.run_getObj_map hg,f1,f2,MapKept.run_setObj_map _ hg,Result.andThen]
   ·rw [List.getElem?_append] at hp
    rw [Array.getElem?_push] at he
    split at hp
    ·rename_i hlt
     rw [if_neg (by rw [hsz];omega)] at he
     exact hrel j p e hp he
    ·rename_i hge
     by_cases hj:j=es.length
     ·subst hj
      rw [if_pos hsz.symm] at he
      simp at hp he
      subst hp he
      exact ⟨hk,hx⟩
     ·rw [List.getElem?_eq_none (by simp;omega)] at hp
      cases hp
  | some q=>
   obtain ⟨old,h17,h18⟩:=ob_some (show ob (nth es q.1) _=some es' from h16)
   obtain ⟨a,h19,h20⟩:=ob_some h18
   obtain ⟨b,h21,h22⟩:=ob_some h20
   obtain ⟨h23,h24⟩:=ifO_some h22
   obtain ⟨h25,h26⟩:=and_true h23
   injection h24 with h24
   rw [nth_eq] at h17
   have hlt:q.1 < es.length:=(List.getElem?_eq_some_iff.1 h17).1
   have hlt':q.1 < ents.size:=by rw [hsz];exact hlt
   have hent:ents[q.1]? =some ents[q.1]:=Array.getElem?_eq_getElem hlt'
   obtain ⟨old1,_⟩:=hrel q.1 old _ h17 hent
   have ea:=toV_rel old1 h19
   have eb:=toV_rel hk h21
   have hkey:ents[q.1].key=ρ k:=by
    rw [same_eq h25,h21] at h19
    injection h19 with h19
    rw [ea,eb,h19]
   cases r' with
   | none=> cases f3
   | some q'=>
    obtain ⟨j,vv⟩:=q'
    have hj:j=q.1:=by simpa using f3
    subst hj
    have hset:setAt (i,y) q.1 es=es.set q.1 (i,y):=setAt_eq _ _ _
    rw [hset] at h24
    subst h24
    have hpb:putB es (es.set q.1 (i,y)) bs ck= .mp (es.set q.1 (i,y)) bs ck:=by
     unfold putB
     rw [len_eq,len_eq,List.length_set]
     have:Nat.beq es.length es.length=true:=by simp
     rw [this]
    refine fin (ents.modify q.1 fun e=> {e with key:=ρ k,val:=ρ x}) ck bs hpb (by
     rw [←hbo,Array.toList_modify]
     apply List.ext_getElem?
     intro z
     rw [List.getElem?_map,List.getElem?_modify,List.getElem?_map]
     cases ents.toList[z]? with
     | none=> rfl
     | some ez=> by_cases hz:q.1=z <;> simp [hz]) ?_ (MapKept.stamped_modify hst q.1 _ (fun _ _=> rfl) fun e' _ he'=> by rw [hent] at he';injection he' with he';subst he';exact hkey.symm) (by simp [hsz]) fun j' p' e' hp he'=> ?_
    ·have hstay:(Instr.keyThatStays ents[q.1].key (ρ k)).run P w= .ok (ρ k) w:=by
      rw [hkey]
      have:Instr.sameBits 10000 (ρ k) (ρ k)=true:=by
       rw [←ea,←eb,hkey] at h26
       exact h26
      simp [Instr.keyThatStays,this]
     simp [Instr.mapUpdate,run_underlying hu,MapKept.run_getObj_map hg,f1,f2,hent,hstay,MapKept.run_setObj_map _ hg,Result.andThen]
    ·rw [Array.getElem?_modify] at he'
     by_cases hjj:q.1=j'
     ·subst hjj
      rw [if_pos rfl,hent] at he'
      rw [List.getElem?_set_self hlt] at hp
      simp at hp he'
      subst hp he'
      exact ⟨hk,hx⟩
     ·rw [if_neg hjj] at he'
      rw [List.getElem?_set_ne hjj] at hp
      exact hrel j' p' e' hp he'
theorem srcC_ok (hs:R w0 σ H nx w) {z k:Nat} {b:CV} {vb:Value} {new:List CV} (hv:VR σ b vb) (h:srcC H z b=some (k,new)):
  (k=0∧∃A c,vb= .slice A 0 c)∨(0 < k∧∃(g q c:Nat) (news:List Value),vb= .slice (some ⟨g,q,none⟩) k c∧VRL σ new news∧(∀x∈new,oneC x=true)∧new.length=k * z∧∀(j:Nat) (u:Value),news[j]? =some u→w.cell? ((⟨g,q,none⟩:Addr).add j)=some u):=by
 unfold srcC at h
 split at h
 ·rename_i y
  obtain ⟨h1,h2⟩:=ifO_some h
  injection h2 with h2
  injection h2 with h3 h4
  left
  rw [hv.val,isNilS_eq h1]
  exact ⟨h3.symm,_,_,rfl⟩
 ·rename_i l o n c
  obtain ⟨lc,hl,A,cap,e1,e2,e3,_,_⟩:=hv.sv
  cases hn:Nat.beq n 0
  ·rw [hn] at h
   obtain ⟨cs,h1,h2⟩:=ob_some (show ob (cellsAt H l o) _=some (k,new) from h)
   obtain ⟨h3,h4⟩:=ifO_some h2
   injection h4 with h4
   injection h4 with h5 h6
   subst h5
   have hpos:0 < n:=Nat.pos_of_ne_zero fun e=> by rw [e] at hn;cases hn
   have h3:n * z≤len cs:=ble_le h3
   rw [len_eq] at h3
   rw [takeN_eq] at h6
   have h6:cs.take (n * z)=new:=h6
   subst h6
   obtain ⟨all,vals,T,vs,g1,g2,g3,g4,g5,g6,g7,g8⟩:=hs.cells hl h1
   rcases e3 with e3 | ⟨e3,_⟩
   ·subst e3
    refine Or.inr ⟨hpos,lc.blk,lc.off + o,cap,vs.take (n * z),e1,g6.take _,fun x hx=> g7 x (List.mem_of_mem_take hx),by simp;omega,fun j u hu=> ?_⟩
    rw [List.getElem?_take] at hu
    split at hu
    ·rw [add_eq,Nat.add_assoc]
     exact g8 j u hu
    ·cases hu
   ·omega
  ·rw [hn] at h
   injection (show some (0,[])=some (k,new) from h) with h
   injection h with h1 h2
   have hn:=beq_eq' hn
   subst hn
   exact Or.inl ⟨h1.symm,some A,cap,e1⟩
 ·cases h
theorem run_app_grow {t e ty:TypeId} {it:TypeInfo} {z:Value} (w:World) (hu:P.underlying t=some (.slice e)) (hi:P.info? e=some it) (hz:it.zero=some z) {base:Option Addr} {n cap:Nat} {olds:List Value} (hlo:olds.length=n * it.size)
  (hbase:base=none→n=0∧cap=0) (holds:∀b,base=some b→∀(j:Nat) (u:Value),olds[j]? =some u→w.cell? (b.add j)=some u) {ad:Addr} {k c:Nat} {news:List Value} (hl:news.length=k * it.size)
  (hnews:∀(j:Nat) (u:Value),news[j]? =some u→w.cell? (ad.add j)=some u) (hg:cap < n + k) (hk:0 < k) (hby:(n + k) * it.bytes≤1000000000) (hn63:n + k≤9223372036854775807):
  (Builtin.append_ #[t,t] ty #[.slice base n cap,.slice (some ad) k c]).run P w=
   .ok (.slice (some ⟨w.heap.size,0,none⟩) (n + k) (grownCap w (n + k) cap e)) (w.drew.alloc (.cells (olds.toArray ++ news.toArray ++ Builtin.zeroCells z.cells (grownCap w (n + k) cap e - (n + k))) e)):=by
 cases base with
 | none=>
  obtain ⟨rfl,rfl⟩:=hbase rfl
  have ho:olds= []:=List.eq_nil_of_length_eq_zero (by simpa using hlo)
  subst ho
  have:=run_append_nil (P:=P) w t ty e it z hu hi hz ad k c news hl hnews hk (by omega) (by simp only [Nat.zero_add] at hby;omega)
  simpa using this
 | some b=> exact run_append_grow (P:=P) w t ty e it z hu hi hz b n cap olds hlo (holds b rfl) ad k c news hl hnews hg (by omega) (growslice_fits hg (by omega))
theorem run_app_none {t e ty:TypeId} {it:TypeInfo} (w:World) (hu:P.underlying t=some (.slice e)) (hi:P.info? e=some it) (base A':Option Addr) (n cap c:Nat) (h:n≤cap):
  (Builtin.append_ #[t,t] ty #[.slice base n cap,.slice A' 0 c]).run P w= .ok (.slice base n cap) w:=by
 cases A' <;> cases base <;> simp [Builtin.append_,run_underlying hu,sizeOf,typeInfo,hi,Builtin.lenOf,h,Builtin.firstCells,loadCells,loadCellsFrom,storeCells]
theorem run_app_room {t e ty tt:TypeId} {it:TypeInfo} (w:World) (hu:P.underlying t=some (.slice e)) (hi:P.info? e=some it) {g q n cap:Nat} {cur:Array Value} (hg:w.heap[g]? =some (.cells cur tt (0,0)))
  {ad:Addr} {k c:Nat} {news:List Value} (hl:news.length=k * it.size) (hnews:∀(j:Nat) (u:Value),news[j]? =some u→w.cell? (ad.add j)=some u) (h1:∀u∈news,u.oneCell'=true) (hroom:n + k≤cap) (hfit:q + n * it.size + news.length≤cur.size):
  (Builtin.append_ #[t,t] ty #[.slice (some ⟨g,q,none⟩) n cap,.slice (some ad) k c]).run P w= .ok (.slice (some ⟨g,q,none⟩) (n + k) cap) (w.setRow g (over cur.toList (q + n * it.size) news).toArray):=by
 have hf:=run_firstCells_some (P:=P) w it.size k ad k c news hl hnews
 have hst:=run_storeCells_at P g (q + n * it.size) tt news 0 cur w hg (by simpa using hfit) h1
 simp only [Nat.add_zero] at hst
 simp [Builtin.append_,run_underlying hu,sizeOf,typeInfo,hi,Builtin.lenOf,hroom,hf,Addr.add_lit,hst,over]
theorem R.none (hs:R w0 σ H nx w):σ nx=none:=by
 cases h:σ nx with
 | none=> rfl
 | some c=> exact absurd (hs.fresh nx c h) (Nat.lt_irrefl _)
theorem app_new (hs:R w0 σ H nx w) {H1:Tr Blk} (hH:∀j,H1.get j=H.get j∨H1.get j=none) {ocs ncs:List CV} {olds news:List Value} {e:TypeId} {kd:Kd} (hkd:kd= .any∨kd= .of e) {zv:Value} {z n gc:Nat} (ho:VRL σ ocs olds) (ho1:∀x∈ocs,oneC x=true) (hn:VRL σ ncs news) (hn1:∀x∈ncs,oneC x=true)
  (hz:zv.cells.size=z) (hl:ocs.length + ncs.length=n * z) (hge:n≤gc) (hgm:gc≤maxLen):
  After w0 σ nx (.s nx 0 n (.op z n)) (H1.put nx (.cl kd (ocs ++ ncs))) (nx + 1) (.slice (some ⟨w.heap.size,0,none⟩) n gc) (w.drew.alloc (.cells (olds.toArray ++ news.toArray ++ Builtin.zeroCells zv.cells (gc - n)) e)):=by
 generalize hvals:olds.toArray ++ news.toArray ++ Builtin.zeroCells zv.cells (gc - n)=vals
 have hon:=ho.append hn
 have hsz:vals.size=gc * z:=by
  rw [←hvals]
  simp only [Array.size_append,List.size_toArray,size_zeroCells,hz,ho.1,hn.1,hl,←Nat.add_mul]
  congr 1
  omega
 have hs1:=(hs.heap (Nat.le_refl nx) fun l c _=> hH l).drew
 have hno:=hs.none
 have hlen:(ocs ++ ncs).length=n * z:=by rw [List.length_append,hl]
 have hroom:n * z≤gc * z:=Nat.mul_le_mul_right _ hge
 have hr:=hs1.new (H':=H1.put nx (.cl kd (ocs ++ ncs))) (nx':=nx + 1) (l:=nx) (room:=vals.size) (b:= .cl kd (ocs ++ ncs)) hno (Nat.lt_succ_self _) (Nat.le_succ _) (get_put_self _ _ _) (fun j hj=> get_put_ne _ _ hj) (.cells vals e)
  ⟨vals,e,heap_alloc_new w.drew _,by rw [hlen,hsz];exact hroom,Nat.zero_add _,(by rcases hkd with h | h <;> rw [h] <;> first | exact trivial | exact ⟨rfl,rfl⟩),fun j x hx=> by
   obtain ⟨u,h1,h2⟩:=hon.get hx
   refine ⟨u,?_,h2.mono (setN_le _ hno),?_⟩
   ·rw [Nat.zero_add,←hvals,←Array.getElem?_toList]
    simp only [Array.toList_append]
    rw [List.getElem?_append_left (by
     have:=(List.getElem?_eq_some_iff.1 h1).1
     simpa using this)]
    exact h1
   ·rcases List.mem_append.1 (List.mem_of_getElem? hx) with h | h
    ·exact ho1 x h
    ·exact hn1 x h⟩
 refine ⟨_,setN_le _ hno,fun l hl=> setN_ne σ _ (Nat.ne_of_lt hl),hr,Nat.le_succ _,?_⟩
 exact .so 0 n z n gc (setN_self _ _ _) hge hge (by rw [Nat.zero_add];show gc * z≤vals.size;rw [hsz];exact Nat.le_refl _) hgm
def SrcOk (P:Program) (σ:Nm) (w:World) (t u ty e:TypeId) (it:TypeInfo) (zv:Value) (k:Nat) (new:List CV) (vb:Value):Prop:=
 (k=0∧∀base n cap,n≤cap→(Builtin.append_ #[t,u] ty #[.slice base n cap,vb]).run P w= .ok (.slice base n cap) w)∨
 (0 < k∧∃news:List Value,VRL σ new news∧(∀x∈new,oneC x=true)∧new.length=k * it.size∧
  (∀(base:Option Addr) (n cap:Nat) (olds:List Value),olds.length=n * it.size→(base=none→n=0∧cap=0)→(∀b,base=some b→∀(j:Nat) (u:Value),olds[j]? =some u→w.cell? (b.add j)=some u)→cap < n + k→(n + k) * it.bytes≤1000000000→n + k≤9223372036854775807→
   (Builtin.append_ #[t,u] ty #[.slice base n cap,vb]).run P w= .ok (.slice (some ⟨w.heap.size,0,none⟩) (n + k) (grownCap w (n + k) cap e)) (w.drew.alloc (.cells (olds.toArray ++ news.toArray ++ Builtin.zeroCells zv.cells (grownCap w (n + k) cap e - (n + k))) e)))∧
  ∀(g q n cap:Nat) (cur:Array Value) (tt:TypeId),w.heap[g]? =some (.cells cur tt (0,0))→n + k≤cap→q + n * it.size + news.length≤cur.size→
   (Builtin.append_ #[t,u] ty #[.slice (some ⟨g,q,none⟩) n cap,vb]).run P w= .ok (.slice (some ⟨g,q,none⟩) (n + k) cap) (w.setRow g (over cur.toList (q + n * it.size) news).toArray))
theorem src_slice (hs:R w0 σ H nx w) {t ty e:TypeId} {it:TypeInfo} {zv:Value} {z k:Nat} (hu:P.underlying t=some (.slice e)) (hi:P.info? e=some it) (hzz:it.zero=some zv) (hsz:it.size=z) {b:CV} {vb:Value} {new:List CV} (hv:VR σ b vb) (h:srcC H z b=some (k,new)):SrcOk P σ w t t ty e it zv k new vb:=by
 subst hsz
 rcases srcC_ok hs hv h with ⟨rfl,A,c,rfl⟩ | ⟨hk,g,q,c,news,rfl,hr,h1,hl,hcell⟩
 ·exact Or.inl ⟨rfl,fun base n cap hle=> run_app_none w hu hi base A n cap c hle⟩
 ·have hnl:news.length=k * it.size:=by rw [hr.1,hl]
  exact Or.inr ⟨hk,news,hr,h1,hl,fun base n cap olds ho hbase hold hcap hby h63=> run_app_grow (ty:=ty) w hu hi hzz ho hbase hold hnl hcell hcap hk hby h63,fun g' q' n cap cur tt hg hroom hfit=> run_app_room (ty:=ty) w hu hi hg hnl hcell (hr.ones h1) hroom hfit⟩
theorem byC_rel (σ:Nm):∀{bs:List Nat},(∀b∈bs,b < 256)→VRL σ (byC bs) (bs.map fun b=> Value.int .u8 (UInt8.ofNat b).toNat)∧(∀x∈byC bs,oneC x=true)∧(byC bs).length=bs.length
 | [],_=> ⟨.nil σ,fun x hx=> (by cases hx),rfl⟩
 | b::bs,h=> by
  obtain ⟨h1,h2,h3⟩:=byC_rel σ (bs:=bs) fun x hx=> h x (by simp [hx])
  have hb:(UInt8.ofNat b).toNat=b:=by
   have:=h b (by simp)
   simp
   omega
  refine ⟨.cons ?_ h1,fun x hx=> ?_,by show (byC bs).length + 1=_;rw [h3];rfl⟩
  ·show VR σ (.v (.int .u8 (Int.ofNat b))) (.int .u8 ((UInt8.ofNat b).toNat:Int))
   rw [hb]
   exact .v _ rfl
  ·rcases List.mem_cons.1 hx with rfl | hx
   ·rfl
   ·exact h2 x hx
theorem src_str {t u ty e:TypeId} {it:TypeInfo} {zv:Value} {z k:Nat} (hu:P.underlying t=some (.slice e)) (hstr:P.underlying u=some .string) (hi:P.info? e=some it) (hzz:it.zero=some zv) (hsz:it.size=z) {b:CV} {vb:Value} {new:List CV} (hv:VR σ b vb) (h:srcT b z=some (k,new)):SrcOk P σ w t u ty e it zv k new vb:=by
 subst hsz
 unfold srcT at h
 split at h
 ·rename_i bs
  obtain ⟨h1,h2⟩:=ifO_some h
  injection h2 with h2
  injection h2 with h3 h4
  have h1:=beq_eq' h1
  rw [len_eq] at h3
  subst h3 h4
  cases hv with
  | t _ hb=>
   generalize hS:(⟨(bs.map UInt8.ofNat).toArray⟩:ByteArray)=S
   have hvs:strV bs= .string S:=by rw [←hS];rfl
   have hss:S.size=bs.length:=by rw [←hS];simp [ByteArray.size]
   have hcs:Lib.strCells S=bs.map fun b=> Value.int .u8 (UInt8.ofNat b).toNat:=by
    rw [←hS]
    simp [Lib.strCells]
   obtain ⟨r1,r2,r3⟩:=byC_rel σ hb
   rw [←hcs] at r1
   rw [hvs]
   have hf:=Lib.run_firstCells_string (P:=P) w 1 S
   have hlen:(Lib.strCells S).length=bs.length:=by rw [Lib.strCells_length,hss]
   by_cases h0:bs.length=0
   ·refine Or.inl ⟨h0,fun base n cap hle=> ?_⟩
    have e0:Lib.strCells S= []:=List.eq_nil_of_length_eq_zero (by omega)
    rw [e0] at hf
    rw [hss,h0] at hf
    cases base <;> simp [Builtin.append_,run_underlying hu,run_underlying hstr,sizeOf,typeInfo,hi,h1,Builtin.lenOf,hss,h0,hle,hf,storeCells]
   ·refine Or.inr ⟨Nat.pos_of_ne_zero h0,Lib.strCells S,r1,r2,by rw [r3,h1,Nat.mul_one],fun base n cap olds ho hbase hold hcap hby h63=> ?_,fun g q n cap cur tt hg hroom hfit=> ?_⟩
    ·cases base with
     | none=>
      obtain ⟨rfl,rfl⟩:=hbase rfl
      have ho:olds= []:=List.eq_nil_of_length_eq_zero (by simpa using ho)
      subst ho
      have:=run_append_nil_string (P:=P) w t u ty e it zv hu hstr hi hzz S (by omega) (by omega) (by rw [hss];simp only [Nat.zero_add] at hby;omega)
      rw [hss] at this
      have e3:(Lib.strCells S).toArray=S.data.map fun b=> Value.int .u8 b.toNat:=by
       apply Array.ext'
       simp [Lib.strCells]
      simp only [Nat.zero_add]
      rw [this,e3]
      simp
     | some b=>
      have:=Lib.run_append_grow_string (P:=P) w t u ty e it zv hu hstr hi hzz b n cap olds ho (fun j v hj=> hold b rfl j v hj) S (by rw [hss];exact hcap) (by rw [hss];omega) (by rw [hss];exact growslice_fits hcap (by omega))
      rw [hss] at this
      exact this
    ·have hst:=run_storeCells_at P g (q + n) tt (Lib.strCells S) 0 cur w hg (by rw [h1,Nat.mul_one] at hfit;simpa using hfit) (Lib.strCells_oneCell S)
     simp only [Nat.add_zero] at hst
     rw [hss] at hf
     rw [h1,Nat.mul_one]
     simp [Builtin.append_,run_underlying hu,run_underlying hstr,sizeOf,typeInfo,hi,h1,Builtin.lenOf,hss,hroom,hf,Addr.add_lit,hst,over]
 ·cases h
theorem appC_ok (hs:R w0 σ H nx w) {t u ty e:TypeId} {it:TypeInfo} {zv:Value} {z k:Nat} (hsz:it.size=z) (hzs:zv.cells.size=z) (hby:it.bytes≤1000)
  {a:CV} {va vb:Value} {new:List CV} (ha:VR σ a va) (hb:SrcOk P σ w t u ty e it zv k new vb)
  {v:CV} {H':Tr Blk} {nx':Nat} (h:appC e H nx z a k new= .ok v H' nx'):∃x w',(Builtin.append_ #[t,u] ty #[va,vb]).run P w= .ok x w'∧After w0 σ nx v H' nx' x w':=by
 subst hsz
 have hmul:∀m,m≤1000000→m * it.bytes≤1000000000:=fun m hm=> Nat.le_trans (Nat.mul_le_mul hm hby) (by decide)
 have hgrow:∀(m:Nat) (cap:Nat),m≤1000000→m≤grownCap w m cap e∧grownCap w m cap e≤maxLen:=fun m cap hm=> ⟨grownCap_ge _ _ _ _,grownCap_le_maxLen _ _ _ _ (by simp only [maxLen];omega)⟩
 unfold appC at h
 split at h
 ·rename_i y
  obtain ⟨hn,h2⟩:=ifR_ok h
  have hva:va= .slice none 0 0:=by rw [ha.val,isNilS_eq hn]
  rcases hb with ⟨rfl,hnone⟩ | ⟨hk,news,hr,h1,hl,hg,_⟩
  ·obtain ⟨rfl,rfl,rfl⟩:=ok_inj (show Res.ok (.v y) H nx= .ok v H' nx' from h2)
   exact ⟨_,w,by rw [hva];exact hnone none 0 0 (Nat.le_refl _),.same hs (by rw [←hva];exact ha)⟩
  ·have hk0:Nat.beq k 0=false:=by
    cases k with
    | zero=> omega
    | succ k=> rfl
   rw [hk0] at h2
   obtain ⟨h3,h4⟩:=ifR_ok (show ifB (Nat.ble k 1000000) (appNew (.of e) H nx k it.size new) .no= .ok v H' nx' from h2)
   have h3:=ble_le h3
   obtain ⟨rfl,rfl,rfl⟩:=ok_inj h4
   have hrun:=hg none 0 0 [] (by simp) (fun _=> ⟨rfl,rfl⟩) (fun b hb=> by cases hb) (by omega) (hmul _ (by omega)) (by omega)
   rw [hva]
   refine ⟨_,_,hrun,?_⟩
   obtain ⟨b1,b2⟩:=hgrow (0 + k) 0 (by omega)
   have:=app_new hs (H1:=H) (fun j=> Or.inl rfl) (ocs:= []) (ncs:=new) (olds:= []) (news:=news) (e:=e) (kd:= .of e) (Or.inr rfl) (zv:=zv) (z:=it.size) (n:=0 + k) (gc:=grownCap w (0 + k) 0 e) (.nil σ) (fun x hx=> by cases hx) hr h1 hzs (by simp [hl]) b1 b2
   simpa using this
 ·rename_i l o n c
  obtain ⟨lc,hl0,A,cap,e1,e2,e3,e4,e5⟩:=ha.sv
  subst e1
  rcases hb with ⟨rfl,hnone⟩ | ⟨hk,news,hr,h1,hl,hg,hrm⟩
  ·obtain ⟨rfl,rfl,rfl⟩:=ok_inj (show Res.ok (.s l o n c) H nx= .ok v H' nx' from h)
   exact ⟨_,w,hnone (some A) n cap e2,.same hs ha⟩
  ·have hk0:Nat.beq k 0=false:=by
    cases k with
    | zero=> omega
    | succ k=> rfl
   rw [hk0] at h
   obtain ⟨h3,h4⟩:=ifR_ok (show ifB (Nat.ble (Nat.add n k) 1000000) (oR (cellsOf H l) fun cs=> appS e H nx it.size l o n k c new cs) .no= .ok v H' nx' from h)
   have h3:n + k≤1000000:=ble_le h3
   obtain ⟨cs,h5,h6⟩:=oR_ok h4
   obtain ⟨kd,hH⟩:=cellsOf_some h5
   obtain ⟨vals,T,g1,g2,g3,gk,g4⟩:=hs.blk l lc _ hl0 hH
   have hcl:∀j,w.cell? ⟨lc.blk,j,none⟩=vals[j]? :=fun j=> cell_of_row _ _ _ vals T (0,0) g1
   have hnl:news.length=k * it.size:=by rw [hr.1,hl]
   have olds:o + n * it.size≤cs.length→∃us:List Value,VRL σ ((cs.drop o).take (n * it.size)) us∧(∀x∈(cs.drop o).take (n * it.size),oneC x=true)∧us.length=n * it.size∧∀b,some A=some b→∀(j:Nat) (u:Value),us[j]? =some u→w.cell? (b.add j)=some u:=by
    intro hle
    have hsz:lc.off + (o + n * it.size)≤vals.size:=by omega
    refine ⟨(vals.toList.drop (lc.off + o)).take (n * it.size),⟨by simp;omega,fun j x u hx hu=> ?_⟩,fun x hx=> ?_,by simp;omega,fun b hb j u hu=> ?_⟩
    ·rw [List.getElem?_take] at hx hu
     split at hx
     ·rename_i hj
      rw [if_pos hj,List.getElem?_drop] at hu
      rw [List.getElem?_drop] at hx
      obtain ⟨u',a1,a2,_⟩:=g4 _ x hx
      have:vals.toList[lc.off + o + j]? =some u':=by rw [Array.getElem?_toList,Nat.add_assoc];exact a1
      rw [this] at hu
      injection hu with hu
      rw [←hu]
      exact a2
     ·cases hx
    ·obtain ⟨j,hj⟩:=List.mem_iff_getElem?.1 (List.mem_of_mem_drop (List.mem_of_mem_take hx))
     obtain ⟨_,_,_,a3⟩:=g4 _ x hj
     exact a3
    ·injection hb with hb
     subst hb
     rw [List.getElem?_take] at hu
     split at hu
     ·rename_i hj
      rw [List.getElem?_drop,Array.getElem?_toList] at hu
      rcases e3 with e3 | ⟨e3,_⟩
      ·subst e3
       rw [add_eq,hcl]
       exact hu
      ·subst e3
       omega
     ·cases hu
   have grow:∀(kd:Kd) (H1:Tr Blk),(kd= .any∨kd= .of e)→(∀j,H1.get j=H.get j∨H1.get j=none)→cap < n + k→o + n * it.size≤cs.length→appNew kd H1 nx (Nat.add n k) it.size (app (takeN (Nat.mul n it.size) (dropN o cs)) new)= .ok v H' nx'→
     ∃x w',(Builtin.append_ #[t,u] ty #[.slice (some A) n cap,vb]).run P w= .ok x w'∧After w0 σ nx v H' nx' x w':=by
    intro kd H1 hkd hH1 hcap hle h7
    obtain ⟨us,u1,u2,u3,u4⟩:=olds hle
    rw [takeN_eq,dropN_eq,app_eq] at h7
    obtain ⟨rfl,rfl,rfl⟩:=ok_inj h7
    have hrun:=hg (some A) n cap us u3 (fun h=> by cases h) u4 hcap (hmul _ h3) (by omega)
    obtain ⟨b1,b2⟩:=hgrow (n + k) cap h3
    exact ⟨_,_,hrun,app_new hs hH1 hkd u1 u2 hr h1 hzs (by show ((cs.drop o).take (n * it.size)).length + new.length=(n + k) * it.size;rw [←u1.1,u3,hl,←Nat.add_mul]) b1 b2⟩
   cases c with
   | kn c=>
    have hcap:cap=c:=e4 c rfl
    subst hcap
    have h7:ifB (Nat.ble (Nat.add n k) cap) (ifB (Nat.ble (Nat.add o (Nat.mul (Nat.add n k) it.size)) (len cs)) (appIn H nx it.size l o n (.kn cap) cs new k) .no) (ifB (Nat.ble (Nat.add o (Nat.mul n it.size)) (len cs)) (appNew (.of e) H nx (Nat.add n k) it.size (app (takeN (Nat.mul n it.size) (dropN o cs)) new)) .no)= .ok v H' nx':=h6
    cases hroom:Nat.ble (Nat.add n k) cap
    ·rw [hroom] at h7
     obtain ⟨h8,h9⟩:=ifR_ok (show ifB (Nat.ble (Nat.add o (Nat.mul n it.size)) (len cs)) (appNew (.of e) H nx (Nat.add n k) it.size (app (takeN (Nat.mul n it.size) (dropN o cs)) new)) .no= .ok v H' nx' from h7)
     have h8:o + n * it.size≤len cs:=ble_le h8
     rw [len_eq] at h8
     have hlt:cap < n + k:=by
      rcases Nat.lt_or_ge cap (n + k) with h | h
      ·exact h
      ·have:=Nat.ble_eq_true_of_le h
       rw [show Nat.ble (n + k) cap=Nat.ble (Nat.add n k) cap from rfl,hroom] at this
       cases this
     exact grow (.of e) H (Or.inr rfl) (fun j=> Or.inl rfl) hlt h8 h9
    ·rw [hroom] at h7
     obtain ⟨h8,h9⟩:=ifR_ok (show ifB (Nat.ble (Nat.add o (Nat.mul (Nat.add n k) it.size)) (len cs)) (appIn H nx it.size l o n (.kn cap) cs new k) .no= .ok v H' nx' from h7)
     have h8:o + (n + k) * it.size≤len cs:=ble_le h8
     rw [len_eq,Nat.add_mul] at h8
     have hroom:n + k≤cap:=ble_le hroom
     obtain ⟨rfl,rfl,rfl⟩:=ok_inj h9
     rcases e3 with e3 | ⟨_,e3⟩
     ·subst e3
      have hrun:=hrm lc.blk (lc.off + o) n cap vals T g1 hroom (by rw [hnl];omega)
      refine ⟨_,_,hrun,?_⟩
      have:=row_upd hs (o:=o + n * it.size) hl0 hH g1 hr h1 (by rw [hl];omega)
      rw [←Nat.add_assoc] at this
      exact .same this (.sk o (n + k) cap hl0 hroom)
     ·omega
   | op z' q=>
    have h7:ifB (Nat.beq it.size z') (ifB (Nat.ble (Nat.add n k) q) (ifB (Nat.ble (Nat.add o (Nat.mul (Nat.add n k) it.size)) (len cs)) (appIn H nx it.size l o n (.op z' q) cs new k) .no) (ifB (Nat.ble (Nat.add o (Nat.mul n it.size)) (len cs)) (appNew (kdE e o (kOf H l)) (H.del l) nx (Nat.add n k) it.size (app (takeN (Nat.mul n it.size) (dropN o cs)) new)) .no)) .no= .ok v H' nx':=h6
    obtain ⟨h8,h9⟩:=ifR_ok h7
    have h8:=beq_eq' h8
    subst h8
    obtain ⟨hcz0,hcm,hqc⟩:=e5 _ _ rfl
    cases hin:Nat.ble (Nat.add n k) q
    case true=>
     rw [hin] at h9
     have hin:n + k≤q:=ble_le hin
     obtain ⟨h8,h9⟩:=ifR_ok (show ifB (Nat.ble (Nat.add o (Nat.mul (Nat.add n k) it.size)) (len cs)) (appIn H nx it.size l o n (.op it.size q) cs new k) .no= .ok v H' nx' from h9)
     have h8:o + (n + k) * it.size≤len cs:=ble_le h8
     rw [len_eq,Nat.add_mul] at h8
     have hroom:n + k≤cap:=by omega
     obtain ⟨rfl,rfl,rfl⟩:=ok_inj h9
     rcases e3 with e3 | ⟨_,e3⟩
     ·subst e3
      have hrun:=hrm lc.blk (lc.off + o) n cap vals T g1 hroom (by rw [hnl];omega)
      refine ⟨_,_,hrun,?_⟩
      have:=row_upd hs (o:=o + n * it.size) hl0 hH g1 hr h1 (by rw [hl];omega)
      rw [←Nat.add_assoc] at this
      exact .same this (.so o (n + k) it.size q cap hl0 hroom hqc (hcz0.elim id fun h=> by omega) hcm)
     ·omega
    case false=>
    rw [hin] at h9
    obtain ⟨h10,h11⟩:=ifR_ok (show ifB (Nat.ble (Nat.add o (Nat.mul n it.size)) (len cs)) (appNew (kdE e o (kOf H l)) (H.del l) nx (Nat.add n k) it.size (app (takeN (Nat.mul n it.size) (dropN o cs)) new)) .no= .ok v H' nx' from h9)
    have h10:o + n * it.size≤len cs:=ble_le h10
    rw [len_eq] at h10
    rw [kOf_eq hH] at h11
    have hkd:kdE e o kd= .any∨(kdE e o kd= .of e∧T=e∧lc.off=0∧o=0):=by
     have hb:∀t,(Nat.beq t e && Nat.beq o 0)=true→t=e∧o=0:=fun t h=> ⟨beq_eq' (and_true h).1,beq_eq' (and_true h).2⟩
     cases kd with
     | any=> exact Or.inl rfl
     | of t'=>
      show (bif Nat.beq t' e && Nat.beq o 0 then Kd.of e else .any)= .any∨_
      cases hq:(Nat.beq t' e && Nat.beq o 0)
      ·exact Or.inl rfl
      ·obtain ⟨q1,q2⟩:=hb t' hq
       obtain ⟨q3,q4⟩:=gk
       refine Or.inr ⟨?_,by rw [q3,q1],q4,q2⟩
       show (bif Nat.beq t' e && Nat.beq o 0 then Kd.of e else .any)= .of e
       rw [hq]
       rfl
     | whole t'=>
      show (bif Nat.beq t' e && Nat.beq o 0 then Kd.of e else .any)= .any∨_
      cases hq:(Nat.beq t' e && Nat.beq o 0)
      ·exact Or.inl rfl
      ·obtain ⟨q1,q2⟩:=hb t' hq
       obtain ⟨q3,q4,_⟩:=gk
       refine Or.inr ⟨?_,by rw [q3,q1],q4,q2⟩
       show (bif Nat.beq t' e && Nat.beq o 0 then Kd.of e else .any)= .of e
       rw [hq]
       rfl
    have hdel:∀j,(H.del l).get j=H.get j∨(H.del l).get j=none:=fun j=> by
     rw [get_del]
     by_cases hj:j=l
     ·rw [if_pos hj];exact Or.inr rfl
     ·rw [if_neg hj];exact Or.inl rfl
    by_cases hroom:n + k≤cap
    ·rcases e3 with e3 | ⟨_,e3⟩
     ·subst e3
      obtain ⟨us,u1,u2,u3,u4⟩:=olds h10
      rw [takeN_eq,dropN_eq,app_eq] at h11
      obtain ⟨rfl,rfl,rfl⟩:=ok_inj h11
      have hcz:o + cap * it.size≤lc.room:=by
       rcases hcz0 with h | h
       ·exact h
       ·omega
      have hmm:(n + k) * it.size≤cap * it.size:=Nat.mul_le_mul_right _ hroom
      rw [Nat.add_mul] at hmm
      have hfit:lc.off + o + n * it.size + news.length≤vals.size:=by rw [hnl];omega
      have hrun:=hrm lc.blk (lc.off + o) n cap vals T g1 hroom hfit
      refine ⟨_,_,hrun,?_⟩
      have hs1:=hs.heap (H':=H.del l) (Nat.le_refl nx) fun j c _=> hdel j
      have hno:=hs.none
      have hon:=u1.append hr
      have hlen:((cs.drop o).take (n * it.size) ++ new).length=n * it.size + k * it.size:=by rw [List.length_append,←u1.1,u3,hl]
      have hnm:=hs1.name (w':=w.setRow lc.blk (over vals.toList (lc.off + o + n * it.size) news).toArray) (H':=(H.del l).put nx (.cl (kdE e o kd) ((cs.drop o).take (n * it.size) ++ new))) (nx':=nx + 1) (l:=nx) (c:=⟨lc.blk,lc.off + o,lc.room - o⟩) (b:= .cl (kdE e o kd) ((cs.drop o).take (n * it.size) ++ new))
       hno (Nat.lt_succ_self _) (Nat.le_succ _) (get_put_self _ _ _) (fun j hj=> get_put_ne _ _ hj) rfl rfl rfl (by rw [setRow_size];exact Nat.le_refl _) (by rw [setRow_size];exact hs.lo l lc hl0) (fun j _ hj=> setRow_other _ _ _ _ hj)
       (fun l' c' b' hl' hb' he=> by
        rw [get_del] at hb'
        by_cases hj:l'=l
        ·rw [if_pos hj] at hb';cases hb'
        ·rw [if_neg hj] at hb'
         exact hj (hs.sep l' l c' lc b' _ hl' hl0 hb' hH he))
       ⟨_,T,setRow_heap _ _ vals _ T _ g1,by rw [hlen];show _≤lc.room - o;omega,by
        rw [List.size_toArray,over_length _ _ _ (by simpa using hfit)]
        simp
        omega,by
        rcases hkd with hkd | ⟨hkd,q1,q2,q3⟩
        ·rw [hkd];trivial
        ·rw [hkd];exact ⟨q1,by show lc.off + o=0;omega⟩,fun j x hx=> by
        have hle:=setN_le (σ:=σ) (l:=nx) ⟨lc.blk,lc.off + o,lc.room - o⟩ hno
        obtain ⟨u,a1,a2⟩:=hon.get hx
        refine ⟨u,?_,a2.mono hle,?_⟩
        ·show ((over vals.toList (lc.off + o + n * it.size) news).toArray)[lc.off + o + j]? =some u
         rw [List.getElem?_toArray,over_get _ _ _ (by simpa using hfit)]
         rw [List.getElem?_append] at a1
         split at a1
         ·rename_i hj
          rw [u3] at hj
          rw [if_pos (by omega)]
          have:=u4 _ rfl j u a1
          rw [add_eq,hcl] at this
          simpa using this
         ·rename_i hj
          rw [u3] at hj a1
          have hj2:j - n * it.size < news.length:=(List.getElem?_eq_some_iff.1 a1).1
          rw [if_neg (by omega),if_pos (by omega)]
          have:lc.off + o + j - (lc.off + o + n * it.size)=j - n * it.size:=by omega
          rw [this]
          exact a1
        ·rcases List.mem_append.1 (List.mem_of_getElem? hx) with h | h
         ·exact u2 x h
         ·exact h1 x h⟩
      refine ⟨_,setN_le _ hno,fun j hj=> setN_ne σ _ (Nat.ne_of_lt hj),hnm,Nat.le_succ _,?_⟩
      have:=VR.so (σ:=setN σ nx ⟨lc.blk,lc.off + o,lc.room - o⟩) (l:=nx) (c:=⟨lc.blk,lc.off + o,lc.room - o⟩) 0 (n + k) it.size (n + k) cap (setN_self _ _ _) hroom hroom (by rw [Nat.zero_add];show _≤lc.room - o;omega) (by
       exact hcm)
      exact this
     ·omega
    ·exact grow _ (H.del l) (hkd.imp id fun h=> h.1) hdel (by omega) h10 h11
 ·cases h
theorem eApp2_ok (hs:R w0 σ H nx w) {t u ty e:TypeId} {a:CV} {va vb:Value} (ha:VR σ a va) {src:Nat→Option (Nat×List CV)}
  (hsrc:∀(it:TypeInfo) (zv:Value) (z k:Nat) (new:List CV),P.info? e=some it→it.zero=some zv→it.size=z→src z=some (k,new)→SrcOk P σ w t u ty e it zv k new vb) {v:CV} {H':Tr Blk} {nx':Nat} (h:eApp2 P H nx e a src= .ok v H' nx'):∃x w',(Builtin.append_ #[t,u] ty #[va,vb]).run P w= .ok x w'∧After w0 σ nx v H' nx' x w':=by
 obtain ⟨_,h7,h8⟩:=oR_ok h
 obtain ⟨z,h9,h10⟩:=oR_ok h8
 obtain ⟨z0,h11,h12⟩:=oR_ok h10
 obtain ⟨h13,h14⟩:=ifR_ok h12
 obtain ⟨q,h15,h16⟩:=oR_ok h14
 obtain ⟨it,hi,hb7⟩:=ob_some h7
 obtain ⟨hby,_⟩:=ifO_some hb7
 have hby:=ble_le hby
 obtain ⟨it',hi',h9'⟩:=ob_some h9
 rw [hi] at hi'
 injection hi' with hi'
 subst hi'
 injection h9' with hz
 obtain ⟨zv',z1,z2,z3⟩:=zeroT_run h11 σ w
 obtain ⟨it',hi',h11'⟩:=ob_some (show ob (P.info? e) _=some z0 from h11)
 rw [hi] at hi'
 injection hi' with hi'
 subst hi'
 obtain ⟨zv,hzv,_⟩:=ob_some h11'
 have hzz:zv'=zv:=by
  simp [zeroValue,typeInfo,hi,hzv] at z1
  exact z1.symm
 subst hzz
 have h13:=beq_eq' h13
 rw [len_eq] at h13
 have hzs:zv'.cells.size=z:=by have:=z2.1;simp at this;omega
 exact appC_ok (ty:=ty) hs hz hzs hby ha (hsrc _ _ _ _ _ hi hzv hz (show src z=some (q.1,q.2) from h15)) h16
theorem eApp_ok (hs:R w0 σ H nx w) {t u ty:TypeId} {a b:CV} {va vb:Value} (ha:VR σ a va) (hb:VR σ b vb) {v:CV} {H':Tr Blk} {nx':Nat} (h:eApp P H nx t u a b= .ok v H' nx'):∃x w',(Builtin.append_ #[t,u] ty #[va,vb]).run P w= .ok x w'∧After w0 σ nx v H' nx' x w':=by
 obtain ⟨e,h5,h6⟩:=oR_ok h
 have hu:=elT_some h5
 cases hq:Nat.beq t u
 ·rw [hq] at h6
  obtain ⟨n,h7,h8⟩:=oR_ok (show oR (isStr P u) _= .ok v H' nx' from h6)
  exact eApp2_ok hs ha (fun it zv z k new hi hzv hz hsrc=> src_str hu (isStr_some h7) hi hzv hz hb hsrc) h8
 ·rw [hq] at h6
  have hq:=beq_eq' hq
  subst hq
  exact eApp2_ok hs ha (fun it zv z k new hi hzv hz hsrc=> src_slice hs hu hi hzv hz hb hsrc) (show eApp2 P H nx e a (fun z=> srcC H z b)= .ok v H' nx' from h6)
end
end Go.Proofs.YtmgcnoigihdhpaaGreatDoor.Ci
namespace Go.Proofs.YtmgcnoigihdhpaaGreatDoor.Ci
open Go.RowKit
section
variable {P : Program} {σ : Nm} {E : Tr CV} {ρ : Operand → Value} {w : World} {w0 : Base} {H : Tr Blk} {nx : Nat}
theorem R.gone {w':World} {l:Nat} {c:Loc} {b:Blk} (h:R w0 σ H nx w) (hl:σ l=some c) (hH:H.get l=some b) (ho:w'.os=w.os) (ht:w'.tape=w.tape) (hp:w'.output=w.output) (hsz:w'.heap.size=w.heap.size)
  (hw:∀k,k≠c.blk→w'.heap[k]? =w.heap[k]?):R w0 σ (H.del l) nx w':=by
 have hlo:=h.lo l c hl
 have up:∀l1 b1,(H.del l).get l1=some b1→l1≠l∧H.get l1=some b1:=by
  intro l1 b1 g
  rw [get_del] at g
  by_cases he:l1=l
  ·rw [if_pos he] at g;cases g
  ·rw [if_neg he] at g;exact ⟨he,g⟩
 refine ⟨⟨by rw [ho];exact h.below.os,by rw [ht];exact h.below.tape,by rw [hp];exact h.below.output,by rw [hsz];exact h.below.size,fun k hk=> by rw [hw k (fun e=> hlo.1 (e ▸ hk))];exact h.below.block k hk⟩,fun l' c' b2 hl' hb2=> ?_,fun l' c' hl'=> by rw [hsz];exact h.lo l' c' hl',fun l1 l2 c1 c2 b1 b2 h1 h2 g1 g2 e=> ?_,h.fresh⟩
 ·obtain ⟨he,hb2⟩:=up l' b2 hb2
  exact (h.blk l' c' b2 hl' hb2).mono (.refl σ) (hw _ fun e=> he (h.sep l' l c' c b2 b hl' hl hb2 hH e))
 ·exact h.sep l1 l2 c1 c2 _ _ h1 h2 (up l1 b1 g1).2 (up l2 b2 g2).2 e
theorem isI64_some {β:Type} {x:CV} {f:Nat→Option β} {r:β} (h:isI64 x f=some r):∃n,x= .v (.int .i64 (Int.ofNat n))∧f n=some r:=by
 obtain ⟨y,rfl,h1⟩:=isV_some h
 split at h1
 ·rename_i k n
  obtain ⟨h2,h3⟩:=ifO_some h1
  rw [kEq_eq h2]
  cases n with
  | ofNat n=> exact ⟨n,rfl,h3⟩
  | negSucc n=> cases h3
 ·cases h1
theorem e_data (hs:R w0 σ H nx w) {ty:TypeId} {ts:Array TypeId} {a:CV} {va:Value} (ha:VR σ a va) {v:CV} {H':Tr Blk} {nx':Nat} (h:eData a H nx= .ok v H' nx'):∃x,(Builtin.unsafeSliceData_ ts ty #[va]).run P w= .ok x w∧After w0 σ nx v H' nx' x w:=by
 unfold eData at h
 split at h
 ·rename_i y
  obtain ⟨h1,h2⟩:=ifR_ok h
  obtain ⟨rfl,rfl,rfl⟩:=ok_inj h2
  rw [ha.val,isNilS_eq h1]
  exact ⟨_,Lib.run_unsafeSliceData_nil ..,.same hs (.v _ rfl)⟩
 ·rename_i l o n c
  obtain ⟨h1,h2⟩:=ifR_ok h
  obtain ⟨rfl,rfl,rfl⟩:=ok_inj h2
  have h1:=ble_le h1
  obtain ⟨lc,hl,A,cap,rfl,e2,e3,_,_⟩:=ha.sv
  rcases e3 with e3 | ⟨e3,_⟩
  ·subst e3
   exact ⟨_,Lib.run_unsafeSliceData_row _ _ _ _ _ _ (by omega),.same hs (.p o hl)⟩
  ·omega
 ·cases h
theorem byN_some {c:CV} {b:Nat} (h:byN c=some b):c= .v (.int .u8 (Int.ofNat b))∧b < 256:=by
 unfold byN at h
 split at h
 ·rename_i y
  split at h
  ·rename_i k n
   obtain ⟨h1,h2⟩:=ifO_some h
   rw [kEq_eq h1]
   cases n with
   | ofNat n=>
    obtain ⟨h3,h4⟩:=ifO_some (show ifO (Nat.ble n 255) (some n)=some b from h2)
    injection h4 with h4
    subst h4
    exact ⟨rfl,Nat.lt_succ_of_le (ble_le h3)⟩
   | negSucc n=> cases h2
  ·cases h
 ·cases h
theorem byL_some:∀{cs:List CV} {bs:List Nat},byL cs=some bs→bs.length=cs.length∧(∀b∈bs,b < 256)∧∀(j b:Nat),bs[j]? =some b→cs[j]? =some (.v (.int .u8 (Int.ofNat b)))
 | [],bs,h=> by
  injection (show some []=some bs from h) with h
  subst h
  exact ⟨rfl,(fun b hb=> by cases hb),fun j b hb=> by simp at hb⟩
 | c::cs,bs,h=> by
  obtain ⟨b,h1,h2⟩:=ob_some (show ob (byN c) _=some bs from h)
  obtain ⟨bs',h3,h4⟩:=ob_some h2
  injection h4 with h4
  subst h4
  obtain ⟨k1,k2,k3⟩:=byL_some h3
  obtain ⟨q1,q2⟩:=byN_some h1
  refine ⟨by simp [k1],fun x hx=> ?_,fun j x hx=> ?_⟩
  ·rcases List.mem_cons.1 hx with rfl | hx
   ·exact q2
   ·exact k2 x hx
  ·cases j with
   | zero=>
    simp at hx ⊢
    rw [q1,hx]
    rfl
   | succ j=> simpa using k3 j x (by simpa using hx)
theorem freeze_other (w:World) (a:Addr) (n k:Nat) (h:k≠a.block):(w.freeze a n).heap[k]? =w.heap[k]? :=by
 unfold World.freeze
 split
 ·rfl
 ·show (w.heap.modify a.block _)[k]? =_
  rw [Array.getElem?_modify,if_neg (Ne.symm h)]
theorem freeze_same (w:World) (a:Addr) (n:Nat):(w.freeze a n).os=w.os∧(w.freeze a n).tape=w.tape∧(w.freeze a n).output=w.output∧(w.freeze a n).drawn=w.drawn∧(w.freeze a n).heap.size=w.heap.size:=by
 unfold World.freeze
 split
 ·exact ⟨rfl,rfl,rfl,rfl,rfl⟩
 ·exact ⟨rfl,rfl,rfl,rfl,by simp⟩
theorem kdIs_ok {t T:TypeId} {c:Loc} {n:Nat} {k:Kd} (h:kdIs t k=true) (hk:KdOk T c n k):T=t∧c.off=0:=by
 cases k with
 | any=> cases h
 | of e=>
  obtain ⟨h1,h2⟩:=hk
  exact ⟨h1.trans (beq_eq' h),h2⟩
 | whole e=>
  obtain ⟨h1,h2,_⟩:=hk
  exact ⟨h1.trans (beq_eq' h),h2⟩
theorem e_str (hs:R w0 σ H nx w) {t it ty:TypeId} {a b:CV} {va vb:Value} (ha:VR σ a va) (hb:VR σ b vb) {v:CV} {H':Tr Blk} {nx':Nat} (h:eStr P H nx t a b= .ok v H' nx'):∃x w',(Builtin.unsafeString_ #[t,it] ty #[va,vb]).run P w= .ok x w'∧After w0 σ nx v H' nx' x w':=by
 obtain ⟨e,h1,h2⟩:=oR_ok h
 obtain ⟨n,h3,h4⟩:=oR_ok h2
 obtain ⟨n',rfl,h5⟩:=isI64_some h3
 injection h5 with h5
 subst h5
 have hp:P.underlying t=some (.pointer e):=by
  obtain ⟨d,q1,q2⟩:=ob_some h1
  split at q2
  ·injection q2 with q2
   rw [←q2]
   exact q1
  ·cases q2
 rw [hb.val]
 split at h4
 ·rename_i q
  obtain ⟨h6,h7⟩:=ifR_ok h4
  obtain ⟨h8,h9⟩:=ifR_ok h7
  obtain ⟨rfl,rfl,rfl⟩:=ok_inj h9
  have h8:=beq_eq' h8
  subst h8
  have hq:q= .pointer none:=by
   unfold isNilP at h6
   split at h6
   ·rfl
   ·cases h6
  rw [ha.val,hq]
  exact ⟨.string .empty,w,rfl,.same hs (.t [] fun b hb=> by cases hb)⟩
 ·rename_i l o
  obtain ⟨h6,h7⟩:=ifR_ok h4
  obtain ⟨k1,k2⟩:=and_true h6
  have k1:=ble_le k1
  have k2:=beq_eq' k2
  subst k2
  unfold eStr2 at h7
  obtain ⟨h8,h9⟩:=ifR_ok h7
  obtain ⟨m1,m2⟩:=and_true h8
  obtain ⟨m2,m3⟩:=and_true m2
  have m2:=beq_eq' m2
  have m3:=ble_le m3
  obtain ⟨cs,h10,h11⟩:=oR_ok h9
  obtain ⟨h12,h13⟩:=ifR_ok h11
  obtain ⟨bs,h14,h15⟩:=oR_ok h13
  obtain ⟨rfl,rfl,rfl⟩:=ok_inj h15
  have h12:=ble_le h12
  rw [len_eq] at h12
  rw [takeN_eq] at h14
  obtain ⟨kd,hH⟩:=cellsOf_some h10
  rw [kOf_eq hH] at m1
  obtain ⟨c,hl,hva⟩:=ha.pv
  obtain ⟨vals,T,g1,g2,g3,gk,g4⟩:=hs.blk l c _ hl hH
  obtain ⟨q1,q2⟩:=kdIs_ok m1 gk
  subst q1
  obtain ⟨r1,r2,r3⟩:=byL_some h14
  have hbl:bs.length=n':=by rw [r1];simp;omega
  have hcl:∀j,w.cell? ⟨c.blk,j,none⟩=vals[j]? :=fun j=> cell_of_row _ _ _ vals T (0,0) g1
  have hrun:=Lib.run_unsafeString_row (P:=P) w t it ty T hp m2 c.blk vals.size (by simp [World.shape?,g1]) (bs.map UInt8.ofNat) (by intro e;have:=congrArg List.length e;simp at this;rw [this] at hbl;simp at hbl;omega) (by simp;omega) (by simp;omega) fun j x hx=> by
   rw [List.getElem?_map] at hx
   cases hbj:bs[j]? with
   | none=> rw [hbj] at hx;cases hx
   | some y=>
    rw [hbj] at hx
    injection hx with hx
    have hcj:=r3 j y hbj
    rw [List.getElem?_take] at hcj
    split at hcj
    ·obtain ⟨u,a1,a2,_⟩:=g4 j _ hcj
     rw [add_eq,Nat.zero_add,hcl]
     rw [q2,Nat.zero_add] at a1
     rw [a1,a2.val,←hx]
     have:=r2 y (List.mem_of_getElem? hbj)
     have e2:(UInt8.ofNat y).toNat=y:=by simp;omega
     rw [e2]
     rfl
    ·cases hcj
  have e1:va= .pointer (some ⟨c.blk,0,none⟩):=by rw [hva,q2]
  rw [e1]
  have e2:(Value.int .i64 (Int.ofNat n'))= .int .i64 ((bs.map UInt8.ofNat).length:Int):=by simp [hbl]
  rw [e2]
  obtain ⟨f1,f2,f3,_,f5⟩:=freeze_same w ⟨c.blk,0,none⟩ (bs.map UInt8.ofNat).length
  exact ⟨_,_,hrun,.same (hs.gone hl hH f1 f2 f3 f5 fun k hk=> freeze_other _ _ _ _ hk) (.t bs r2)⟩
 ·cases h4
theorem zeroCells_made (zs:Array Value) (n:Nat):Builtin.zeroCells zs n=madeCells zs (n * zs.size):=rfl
theorem e_clear (hs:R w0 σ H nx w) {t ty:TypeId} {a:CV} {va:Value} (ha:VR σ a va) {ts:Array TypeId} (ht:ts[0]? =some t) {v:CV} {H':Tr Blk} {nx':Nat} (h:eClear P H nx t a= .ok v H' nx'):
  ∃x w',(Builtin.clear_ ts ty #[va]).run P w= .ok x w'∧After w0 σ nx v H' nx' x w':=by
 obtain ⟨e,h1,ha1⟩:=oR_ok h
 obtain ⟨z,h2,ha2⟩:=oR_ok ha1
 obtain ⟨z0,h3,ha3⟩:=oR_ok ha2
 obtain ⟨h40,ha4⟩:=ifR_ok ha3
 clear h ha1 ha2 ha3
 have h:=ha4
 clear ha4
 obtain ⟨h4,h5⟩:=and_true h40
 have h4:=beq_eq' h4
 have h5:=ble_le h5
 rw [len_eq] at h4
 have hu:=elT_some h1
 unfold eClear2 at h
 split at h
 ·rename_i y
  obtain ⟨h6,h7⟩:=ifR_ok h
  obtain ⟨rfl,rfl,rfl⟩:=ok_inj h7
  refine ⟨.tuple #[],w,?_,.same hs (.unit σ)⟩
  rw [ha.val,isNilS_eq h6]
  simp [Builtin.clear_,ht,run_underlying hu]
 ·rename_i l o n c
  obtain ⟨lc,hl,A,cap,rfl,q2,q3,_,_⟩:=ha.sv
  cases hn:Nat.beq n 0
  ·rw [hn] at h
   have hpos:n≠0:=fun e=> by rw [e] at hn;cases hn
   obtain ⟨cs,h6,h7⟩:=oR_ok (show oR (cellsOf H l) _=Res.ok v H' nx' from h)
   obtain ⟨h8,h9⟩:=ifR_ok h7
   have h8:o + n * z≤len cs:=ble_le h8
   rw [len_eq] at h8
   obtain ⟨rfl,rfl,rfl⟩:=ok_inj h9
   obtain ⟨kd,hH⟩:=cellsOf_some h6
   obtain ⟨vals,T,g1,g2,g3,gk,g4⟩:=hs.blk l lc _ hl hH
   obtain ⟨zv,z1,z2,z3⟩:=zeroT_run h3 σ w
   have hzs:zv.cells.size=z:=by have:=z2.1;simp at this;omega
   have hr:=repC_rel z2 n
   rw [h4] at hr
   rw [←hzs,←zeroCells_made] at hr
   have hones:=repC_ones z3 n
   have hlen:(repC z0 n).length=n * z:=by rw [repC_len,h4]
   have hA:A=⟨lc.blk,lc.off + o,none⟩:=q3.elim id fun h=> absurd h.1 hpos
   subst hA
   have hst:=run_storeCells_at P lc.blk (lc.off + o) T (Builtin.zeroCells zv.cells n).toList 0 vals w g1 (by
    have:=hr.1
    rw [hlen] at this
    rw [this]
    omega) (hr.ones hones)
   simp only [Nat.add_zero] at hst
   refine ⟨.tuple #[],_,?_,.same (row_upd hs (o:=o) hl hH g1 hr hones (by rw [hlen];exact h8)) (.unit σ)⟩
   obtain ⟨n',rfl⟩:∃n',n=n' + 1:=⟨n - 1,by omega⟩
   simp [Builtin.clear_,ht,run_underlying hu,z1,hst,over]
  ·rw [hn] at h
   have hn:=beq_eq' hn
   subst hn
   obtain ⟨rfl,rfl,rfl⟩:=ok_inj (show Res.ok (.tup []) H nx=Res.ok v H' nx' from h)
   refine ⟨.tuple #[],w,?_,.same hs (.unit σ)⟩
   simp [Builtin.clear_,ht,run_underlying hu]
 ·cases h
theorem rmv_eq {α:Type}:∀(i:Nat) (l:List α),rmv i l=l.eraseIdx i
 | 0,[]=> rfl
 | 0,_::_=> rfl
 | _ + 1,[]=> rfl
 | i + 1,x::l=> by
  show x::rmv i l=_
  rw [rmv_eq i l,List.eraseIdx_cons_succ]
theorem e_del (hs:R w0 σ H nx w) {t ty:TypeId} {a b:CV} {va vb:Value} (ha:VR σ a va) (hb:VR σ b vb) {ts:Array TypeId} (ht:ts[0]? =some t) {v:CV} {H':Tr Blk} {nx':Nat} (h:eDel P H nx t a b= .ok v H' nx'):
  ∃x w',(Builtin.delete_ ts ty #[va,vb]).run P w= .ok x w'∧After w0 σ nx v H' nx' x w':=by
 obtain ⟨H1,h1,h2⟩:=oR_ok h
 obtain ⟨rfl,rfl,rfl⟩:=ok_inj h2
 obtain ⟨kt,et,hu,h3⟩:=mpT_some h1
 obtain ⟨l,rfl,h4⟩:=isM_some h3
 obtain ⟨b0,h5,h6⟩:=ob_some h4
 obtain ⟨es,bs,ck,rfl,h6⟩:∃es bs ck,b0= .mp es bs ck∧(ob (findC P kt (emptyB es) b es) fun r=> some (@Option.rec (Nat×Value) (fun _=> Tr Blk) (H.put l (.mp es bs ck)) (fun q=> H.put l (.mp (rmv q.1 es) (rmv q.1 bs) ck)) r))=some H1:=by
  cases b0 with
  | cl=> cases h6
  | it=> cases h6
  | mu=> cases h6
  | mp es bs ck=> exact ⟨es,bs,ck,rfl,h6⟩
 obtain ⟨r,h7,h8⟩:=ob_some h6
 injection h8 with h8
 cases ha with
 | m hl=>
  rename_i lc
  obtain ⟨ents,g1,g2,gb,g3,g4⟩:=hs.blk l lc _ hl h5
  obtain ⟨f1,r',f2,f3,f4⟩:=findC_ok (ents:=ents.toList) hb (by simpa using g3) (fun j p e hp he=> (g4 j p e hp (by simpa using he)).1) h7 w
  have hE:ents.isEmpty=emptyB es:=by
   rw [emptyB_eq]
   cases es with
   | nil=>
    have:ents= #[]:=Array.eq_empty_of_size_eq_zero (by simpa using g3)
    rw [this]
    rfl
   | cons p r=>
    have:ents.isEmpty=false:=by
     rw [Array.isEmpty_eq_false_iff]
     intro e
     rw [e] at g3
     simp at g3
    rw [this]
    rfl
  have fin:∀(ents':Array MapEntry) (es':List (CV×CV)) (bs':List Nat),H1=H.put l (.mp es' bs' ck)→ents'.toList.map (·.born)=bs'→MapKept.Stamped ents' ck→ents'.size=es'.length→
    (∀(j:Nat) (p:CV×CV) (e:MapEntry),es'[j]? =some p→ents'[j]? =some e→VR σ p.1 e.key∧VR σ p.2 e.val)→After w0 σ nx (.tup []) H1 nx (.tuple #[]) {w with heap:=w.heap.setIfInBounds lc.blk (.map ents' ck)}:=by
   intro ents' es' bs' e1 e2 e3 e4 e5
   have hset:=MapKept.heap_set (o':= .map ents' ck) g1
   rw [e1]
   exact .same (hs.upd hl h5 rfl rfl rfl (by simp) hset.2 ⟨ents',hset.1,e3,e2,e4,e5⟩) (.unit σ)
  cases r with
  | none=>
   have hr':r'=none:=by
    cases r' with
    | none=> rfl
    | some q=> cases f3
   subst hr'
   refine ⟨_,_,?_,fin ents es bs h8.symm gb g2 g3 g4⟩
   simp [Builtin.delete_,ht,run_underlying hu,MapKept.run_getObj_map g1,hE,f1,f2,MapKept.run_setObj_map _ g1,Result.andThen]
  | some q=>
   cases r' with
   | none=> cases f3
   | some q'=>
    obtain ⟨j,vv⟩:=q'
    have hj:j=q.1:=by simpa using f3
    subst hj
    have h8:H.put l (.mp (rmv q.1 es) (rmv q.1 bs) ck)=H1:=h8
    rw [rmv_eq,rmv_eq] at h8
    have hlt:q.1 < ents.size:=by
     obtain ⟨e,he,_⟩:=f4 q.1 vv rfl
     have:=(List.getElem?_eq_some_iff.1 he).1
     simpa using this
    have hel:(ents.eraseIdxIfInBounds q.1).toList=ents.toList.eraseIdx q.1:=by
     unfold Array.eraseIdxIfInBounds
     rw [dif_pos hlt,Array.toList_eraseIdx]
    refine ⟨_,_,?_,fin (ents.eraseIdxIfInBounds q.1) (es.eraseIdx q.1) (bs.eraseIdx q.1) h8.symm ?_ (MapKept.stamped_erase g2 q.1) ?_ fun j' p' e' hp he=> ?_⟩
    ·simp [Builtin.delete_,ht,run_underlying hu,MapKept.run_getObj_map g1,hE,f1,f2,MapKept.run_setObj_map _ g1,Result.andThen]
    ·rw [hel,←gb]
     apply List.ext_getElem?
     intro z
     rw [List.getElem?_map,List.getElem?_eraseIdx,List.getElem?_eraseIdx]
     split <;> rw [List.getElem?_map]
    ·have:(ents.eraseIdxIfInBounds q.1).size=(ents.toList.eraseIdx q.1).length:=by rw [←hel,Array.length_toList]
     rw [this,List.length_eraseIdx,List.length_eraseIdx,←g3]
     simp
    ·have he:(ents.toList.eraseIdx q.1)[j']? =some e':=by rw [←hel,Array.getElem?_toList];exact he
     rw [List.getElem?_eraseIdx] at hp he
     split at hp
     ·rename_i hlt'
      rw [if_pos hlt'] at he
      exact g4 j' p' e' hp (by simpa using he)
     ·rename_i hge
      rw [if_neg hge] at he
      exact g4 (j' + 1) p' e' hp (by simpa using he)
theorem e_range (hs:R w0 σ H nx w) {t:TypeId} {x:Operand} (hev:Evs σ E ρ #[x]) {v:CV} {H':Tr Blk} {nx':Nat} (h:eRange P E H nx t x= .ok v H' nx'):∃y w',(Instr.range t (ρ x)).run P w= .ok y w'∧After w0 σ nx v H' nx' y w':=by
 obtain ⟨_,h1,h2⟩:=oR_ok h
 obtain ⟨kt,et,hu,_⟩:=mpT_some h1
 obtain ⟨c,h3,h4⟩:=oR_ok h2
 have hv:=hev x (by simp) _ h3
 have hn:=hs.none
 have fin:∀(o:Obj) (b:Blk),H'=H.put nx b→nx'=nx + 1→v= .p nx 0→BlkOk (setN σ nx ⟨w.heap.size,0,0⟩) (w.alloc o) ⟨w.heap.size,0,0⟩ b→After w0 σ nx v H' nx' (.pointer (some ⟨w.heap.size,0,none⟩)) (w.alloc o):=by
  rintro o b rfl rfl rfl hb
  exact ⟨_,setN_le _ hn,fun l hl=> setN_ne σ _ (by omega),hs.new hn (Nat.lt_succ_self _) (Nat.le_succ _) (get_put_self _ _ _) (fun j hj=> get_put_ne _ _ hj) o hb,Nat.le_succ _,.p 0 (setN_self _ _ _)⟩
 unfold eRange2 at h4
 split at h4
 ·rename_i y
  obtain ⟨h5,h6⟩:=ifR_ok h4
  obtain ⟨rfl,rfl,rfl⟩:=ok_inj h6
  have hy:y= .map none:=by
   unfold isNilM at h5
   split at h5
   ·rfl
   ·cases h5
  refine ⟨_,_,?_,fin (.mapIter none 0 #[] 0) _ rfl rfl rfl ⟨rfl,rfl,rfl,rfl,heap_alloc_new w _⟩⟩
  rw [hv.val,hy]
  simp [Instr.range,run_underlying hu]
 ·rename_i l
  obtain ⟨b,h5,h6⟩:=oR_ok h4
  obtain ⟨ck,h7,h8⟩:=oR_ok h6
  obtain ⟨rfl,rfl,rfl⟩:=ok_inj h8
  obtain ⟨es,bs,rfl⟩:∃es bs,b= .mp es bs ck:=by
   cases b with
   | cl=> cases h7
   | it=> cases h7
   | mu=> cases h7
   | mp es bs k=>
    injection (show some k=some ck from h7) with h7
    exact ⟨es,bs,by rw [h7]⟩
  generalize ρ x=vx at *
  cases hv with
  | m hl=>
   rename_i lc
   obtain ⟨ents,g1,g2,gb,g3,g4⟩:=hs.blk l lc _ hl h5
   have hne:l≠nx:=by have:=hs.fresh l lc hl;omega
   refine ⟨_,_,?_,fin (.mapIter (some lc.blk) ck #[] ck) _ rfl rfl rfl ⟨lc,by rw [setN_ne σ _ hne];exact hl,rfl,heap_alloc_new w _⟩⟩
   simp [Instr.range,run_underlying hu,MapKept.run_getObj_map g1]
 ·cases h4
theorem leftC_ok {seen:List Nat}:∀{es:List (CV×CV)} {ents:List MapEntry},ents.length=es.length→(leftC seen es (ents.map (·.born))).map (fun p=> p.2.2)=(ents.filter fun e=> !seen.contains e.born).map (·.born)∧
  ∀p∈leftC seen es (ents.map (·.born)),∃(j:Nat) (q:CV×CV) (e:MapEntry),es[j]? =some q∧ents[j]? =some e∧p=(q.1,q.2,e.born)
 | [],[],_=> ⟨rfl,fun p hp=> by cases hp⟩
 | [],_::_,h=> by simp at h
 | _::_,[],h=> by simp at h
 | q::es,e::ents,h=> by
  have hany:∀l:List Nat,anyN e.born l=l.contains e.born:=by
   intro l
   induction l with
   | nil=> rfl
   | cons y l ih=>
    show ifB (Nat.beq e.born y) true (anyN e.born l)=_
    rw [List.contains_cons,ih]
    cases hb:Nat.beq e.born y
    ·have:(e.born==y)=false:=by
      cases hq:(e.born==y)
      ·rfl
      ·rw [eq_of_beq hq] at hb
       simp at hb
     rw [this]
     rfl
    ·have:(e.born==y)=true:=by
      rw [beq_eq' hb]
      simp
     rw [this]
     rfl
  obtain ⟨i1,i2⟩:=leftC_ok (seen:=seen) (es:=es) (ents:=ents) (by simpa using h)
  have hq:leftC seen (q::es) ((e::ents).map (·.born))=ifB (anyN e.born seen) (leftC seen es (ents.map (·.born))) ((q.1,q.2,e.born)::leftC seen es (ents.map (·.born))):=rfl
  have lift:∀p∈leftC seen es (ents.map (·.born)),∃(j:Nat) (q':CV×CV) (e':MapEntry),(q::es)[j]? =some q'∧(e::ents)[j]? =some e'∧p=(q'.1,q'.2,e'.born):=fun p hp=> by
   obtain ⟨j,q',e',a1,a2,a3⟩:=i2 p hp
   exact ⟨j + 1,q',e',by simpa using a1,by simpa using a2,a3⟩
  rw [hq,List.filter_cons,hany]
  cases hb:seen.contains e.born
  ·refine ⟨?_,?_⟩
   ·show e.born::(leftC seen es (ents.map (·.born))).map _=_
    rw [i1]
    simp
   ·intro p hp
    rcases List.mem_cons.1 hp with rfl | hp
    ·exact ⟨0,q,e,rfl,rfl,rfl⟩
    ·exact lift p hp
  ·exact ⟨by simpa using i1,lift⟩
theorem e_next (hs:R w0 σ H nx w) {ty:TypeId} {x:Operand} {s:Bool} (hev:Evs σ E ρ #[x]) {v:CV} {H':Tr Blk} {nx':Nat} (h:eNext E H nx x s= .ok v H' nx'):∃y w',(Instr.next (ρ x) s ty).run P w= .ok y w'∧After w0 σ nx v H' nx' y w':=by
 unfold eNext at h
 cases s
 case true=> cases h
 obtain ⟨c,h1,h2⟩:=oR_ok (show oR (ev E x) _= .ok v H' nx' from h)
 have hv:=hev x (by simp) _ h1
 cases hm:nextM H nx c with
 | some r=>
  rw [hm] at h2
  have h2:r= .ok v H' nx':=h2
  subst h2
  obtain ⟨l,lc,m,d,since,seen,last,es,bs,ck,ents,rfl,hl,hmd,hval,hH,hoff,hit,hM,hg,hst,hb,hsz,hrel,h⟩:=itAt_ok hs hv hm
  obtain ⟨h3,h4⟩:=ifO_some h
  obtain ⟨k1,k2⟩:=and_true h3
  have k1:=ble_le k1
  have k2:=ble_le k2
  have hold:∀e∈ents.toList,e.born < since:=fun e he=> Nat.lt_of_lt_of_le (hst.1 e he) k1
  obtain ⟨i1,i2⟩:=leftC_ok (seen:=seen) (es:=es) (ents:=ents.toList) (by simpa using hsz)
  rw [hb] at i1 i2
  have hleft:((leftOf ents seen.toArray).toList).map (·.born)=(leftC seen es bs).map fun p=> p.2.2:=by
   rw [i1]
   unfold leftOf
   simp
  rw [hval]
  have hlen:(leftOf ents seen.toArray).size=(leftC seen es bs).length:=by
   have:=congrArg List.length hleft
   simpa using this
  rcases run_next_at (P:=P) w ty lc.blk d.blk since last seen.toArray ents ck hit hg hold k2 with ⟨n1,n2⟩ | ⟨e,n1,w1,n2,n3⟩
  ·have:leftC seen es bs= []:=List.eq_nil_of_length_eq_zero (by omega)
   rw [this] at h4
   injection (show some (Res.ok (.tup [.v (.bool false)]) H nx)=some (.ok v H' nx') from h4) with h4
   obtain ⟨rfl,rfl,rfl⟩:=ok_inj h4
   exact ⟨_,_,n2,.same hs (.of_tup (.cons (.v _ rfl) (.nil σ)))⟩
  ·unfold stepC at h4
   split at h4
   ·rename_i hlf
    rw [hlf] at hlen
    have:(leftOf ents seen.toArray).toList= []:=List.eq_nil_of_length_eq_zero (by simpa using hlen)
    rw [this] at n1
    cases n1
   ·rename_i p hlf
    injection h4 with h4
    obtain ⟨rfl,rfl,rfl⟩:=ok_inj h4
    obtain ⟨j,q,e',j1,j2,rfl⟩:=i2 p (by rw [hlf];exact List.mem_singleton.2 rfl)
    have hee:e.born=e'.born:=by
     rw [hlf] at hleft
     have hlen1:(leftOf ents seen.toArray).toList.length=1:=by simpa [hlf] using hlen
     obtain ⟨e0,he0⟩:=List.length_eq_one_iff.1 hlen1
     rw [he0] at n1 hleft
     rw [List.mem_singleton.1 n1]
     injection hleft
    have he:e∈ents.toList:=by
     unfold leftOf at n1
     simp at n1
     simpa using n1.1
    have hsame:e=e':=by
     obtain ⟨i,hi,rfl⟩:=List.getElem_of_mem he
     have hn:=hst.2.1
     have h1:(ents.toList.map (·.born))[i]? =some (ents.toList[i]).born:=by rw [List.getElem?_map,List.getElem?_eq_getElem hi];rfl
     have h2:(ents.toList.map (·.born))[j]? =some e'.born:=by rw [List.getElem?_map,j2];rfl
     rw [←hee] at h2
     have hij:=(List.getElem?_inj (by simpa using hi) hn).1 (h1.trans h2.symm)
     subst hij
     rw [List.getElem?_eq_getElem hi] at j2
     injection j2
    subst hsame
    obtain ⟨r1,r2⟩:=hrel j q e j1 (by simpa using j2)
    have hset:∀w2:World,w2.heap=w.heap→w2.os=w.os→w2.tape=w.tape→w2.output=w.output→R w0 σ (H.put l (.it (some m) since (app seen [e.born]) ck)) nx (ChangeMaps.setBlock w2 lc.blk (.mapIter (some d.blk) since (seen.toArray.push e.born) ck)):=by
     intro w2 q1 q2 q3 q4
     refine hs.upd hl hH (by exact q2) (by exact q3) (by exact q4) (by simp [ChangeMaps.setBlock,q1]) (fun k hk=> ?_) ⟨d,hmd,hoff,?_⟩
     ·simp only [ChangeMaps.setBlock,q1]
      rw [Array.getElem?_setIfInBounds_ne (Ne.symm hk)]
     ·have hlt:=(Array.getElem?_eq_some_iff.1 hit).1
      simp only [ChangeMaps.setBlock,q1]
      rw [Array.getElem?_setIfInBounds_self_of_lt hlt,app_eq]
      simp
    refine ⟨_,_,n3,.same ?_ (.of_tup (.cons (.v _ rfl) (.cons r1 (.cons r2 (.nil σ)))))⟩
    rcases n2 with rfl | rfl
    ·exact hset _ rfl rfl rfl rfl
    ·exact hset _ rfl rfl rfl rfl
   ·cases h4
 | none=>
  rw [hm] at h2
  obtain ⟨r,h3,h4⟩:=oR_ok (show oR (nextN H nx c) (fun r=> r)= .ok v H' nx' from h2)
  subst h4
  obtain ⟨l,o,rfl,h4⟩:=isP_some h3
  obtain ⟨ho,h5⟩:=ifO_some h4
  have ho:=beq_eq' ho
  subst ho
  obtain ⟨b,h6,h7⟩:=ob_some h5
  cases b with
  | cl=> cases h7
  | mp=> cases h7
  | mu=> cases h7
  | it m since seen last=>
   obtain ⟨hm',h8⟩:=noneO_some (show noneO m _=some (Res.ok v H' nx') from h7)
   subst hm'
   injection h8 with h8
   obtain ⟨rfl,rfl,rfl⟩:=ok_inj h8
   obtain ⟨lc,hl,hval⟩:=hv.pv
   obtain ⟨_,_,_,k4,k5⟩:=hs.blk l lc _ hl h6
   refine ⟨_,w,?_,.same hs (.of_tup (.cons (.v (.bool false) rfl) (.nil σ)))⟩
   rw [hval,k4]
   simp [Instr.next,getObj,Sem.run,k5,Result.andThen]
theorem e_bui (hs:R w0 σ H nx w) {ty:TypeId} {v:CV} {H':Tr Blk} {nx':Nat} {cb:Array Bool} {args:Array Operand} {ts:Array TypeId} {b:Builtin} (hev:Evs σ E ρ args) (h:eBui P E H nx b args ts= .ok v H' nx'):∃x w',(builtin b ts ty cb (args.map ρ)).run P w= .ok (.value x) w'∧After w0 σ nx v H' nx' x w':=by
 have two_:∀{α:Type} {l:List α} {f:α→α→Res},two l f= .ok v H' nx'→∃a b,l= [a,b]∧f a b= .ok v H' nx':=by
  intro α l f h
  unfold two at h
  split at h
  ·exact ⟨_,_,rfl,h⟩
  ·cases h
 have one_:∀{α:Type} {l:List α} {f:α→Res},one l f= .ok v H' nx'→∃a,l= [a]∧f a= .ok v H' nx':=by
  intro α l f h
  unfold one at h
  split at h
  ·exact ⟨_,rfl,h⟩
  ·cases h
 have args_:∀{vs:List CV},evL E args.toList=some vs→VRL σ vs (args.map ρ).toList:=fun h1=> by
  have:=evL_rel (σ:=σ) (ρ:=ρ) args.toList (fun x hx=> hev x (by simpa using hx)) h1
  simpa using this
 unfold eBui at h
 split at h
 ·obtain ⟨vs,h1,h2⟩:=oR_ok h
  obtain ⟨a,c,rfl,h3⟩:=two_ h2
  obtain ⟨t,u,hts,h4⟩:=two_ h3
  obtain ⟨va,r1,e1,ha,hL2⟩:=(args_ h1).cons_inv
  obtain ⟨vb,r2,e2,hb,hL3⟩:=hL2.cons_inv
  have e3:=hL3.nil_inv
  subst e3 e2
  have hargs:args.map ρ= #[va,vb]:=Array.ext' (by simpa using e1)
  have hts':ts= #[t,u]:=Array.ext' (by simpa using hts)
  rw [hargs,hts']
  obtain ⟨x,w',hr,ha'⟩:=eApp_ok (ty:=ty) hs ha hb h4
  exact ⟨x,w',by simp only [builtin,Sem.run_bind,hr,Result.andThen_ok];rfl,ha'⟩
 ·obtain ⟨vs,h1,h2⟩:=oR_ok h
  obtain ⟨a,rfl,h3⟩:=one_ h2
  obtain ⟨va,r1,e1,ha,hL2⟩:=(args_ h1).cons_inv
  have e3:=hL2.nil_inv
  subst e3
  have hargs:args.map ρ= #[va]:=Array.ext' (by simpa using e1)
  rw [hargs]
  obtain ⟨x,hr,ha'⟩:=e_data (P:=P) (ty:=ty) (ts:=ts) hs ha h3
  exact ⟨x,w,by simp only [builtin,Sem.run_bind,hr,Result.andThen_ok];rfl,ha'⟩
 ·obtain ⟨vs,h1,h2⟩:=oR_ok h
  obtain ⟨a,rfl,h3⟩:=one_ h2
  obtain ⟨t,hts,h4⟩:=oR_ok h3
  obtain ⟨va,r1,e1,ha,hL2⟩:=(args_ h1).cons_inv
  have e3:=hL2.nil_inv
  subst e3
  have hargs:args.map ρ= #[va]:=Array.ext' (by simpa using e1)
  rw [hargs]
  obtain ⟨x,w',hr,ha'⟩:=e_clear (P:=P) (ty:=ty) (ts:=ts) hs ha (by rw [nth_eq] at hts;simpa using hts) h4
  exact ⟨x,w',by simp only [builtin,Sem.run_bind,hr,Result.andThen_ok];rfl,ha'⟩
 ·obtain ⟨vs,h1,h2⟩:=oR_ok h
  obtain ⟨a,c,rfl,h3⟩:=two_ h2
  obtain ⟨t,hts,h4⟩:=oR_ok h3
  obtain ⟨va,r1,e1,ha,hL2⟩:=(args_ h1).cons_inv
  obtain ⟨vb,r2,e2,hb,hL3⟩:=hL2.cons_inv
  have e3:=hL3.nil_inv
  subst e3 e2
  have hargs:args.map ρ= #[va,vb]:=Array.ext' (by simpa using e1)
  rw [hargs]
  obtain ⟨x,w',hr,ha'⟩:=e_del (P:=P) (ty:=ty) (ts:=ts) hs ha hb (by rw [nth_eq] at hts;simpa using hts) h4
  exact ⟨x,w',by simp only [builtin,Sem.run_bind,hr,Result.andThen_ok];rfl,ha'⟩
 ·obtain ⟨vs,h1,h2⟩:=oR_ok h
  obtain ⟨a,c,rfl,h3⟩:=two_ h2
  obtain ⟨t,u,hts,h4⟩:=two_ h3
  obtain ⟨va,r1,e1,ha,hL2⟩:=(args_ h1).cons_inv
  obtain ⟨vb,r2,e2,hb,hL3⟩:=hL2.cons_inv
  have e3:=hL3.nil_inv
  subst e3 e2
  have hargs:args.map ρ= #[va,vb]:=Array.ext' (by simpa using e1)
  have hts':ts= #[t,u]:=Array.ext' (by simpa using hts)
  rw [hargs,hts']
  obtain ⟨x,w',hr,ha'⟩:=e_str (P:=P) (ty:=ty) (it:=u) hs ha hb h4
  exact ⟨x,w',by simp only [builtin,Sem.run_bind,hr,Result.andThen_ok];rfl,ha'⟩
 ·cases h
end
end Go.Proofs.YtmgcnoigihdhpaaGreatDoor.Ci

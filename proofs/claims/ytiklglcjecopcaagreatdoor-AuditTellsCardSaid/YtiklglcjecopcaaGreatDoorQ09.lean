/-
  Evaluation of Go code on plain data: each operation does in the model what the evaluation says. Over any program.
  Evaluation of Go code on plain data: operations on aggregates and memory. Over any program.
  Evaluation of Go code on plain data: loads and stores. Over any program.
-/
import Derived.Test.YtiklglcjecopcaaGreatDoorEvE
import Derived.Deep.MidRow
import Derived.Deep.Slices
namespace Go.Proofs.YtiklglcjecopcaaGreatDoor
open Go.RowKit
def SizeIs (P:Program) (t n:Nat):Prop:=(P.info? t).map (·.size)=some n
def KOk (P:Program):TK→TypeDesc→Prop
 | .int k,d=> d= .int k
 | .bool,d=> d= .bool
 | .str,d=> d= .string
 | .slice e sz,d=> d= .slice e∧SizeIs P e sz
 | .array n e sz,d=> d= .array n e∧SizeIs P e sz
 | .struct fs,d=> ∃fields,d= .struct fields∧fields.toList.map (fun f=> (f.offset,f.type))=fs.map (fun x=> (x.1,x.2.1))∧∀x∈fs,SizeIs P x.2.1 x.2.2
 | .map kt et,d=> d= .map kt et
 | .ptr,d=> ∃e,d= .pointer e
 | .other,_=> True
 | .none_,_=> True
structure EqS (P:Program) (t:Nat) (ek:List CK):Prop where
 eq:∀(w:World) (xs ys:Array Value) (cs ds:List AV) (b:Bool) (x y:Operand) (κ:Cx),RelL κ cs xs.toList→RelL κ ds ys.toList→eqCells ek cs ds=some b→
  (eqGuard .eql t x y (.agg xs) (.agg ys)).run P w= .ok () w∧(eqGuard .neq t x y (.agg xs) (.agg ys)).run P w= .ok () w∧(Op.equal t (.agg xs) (.agg ys)).run P w= .ok b w
 key:ek.all isI64=true→∀(w:World) (e:Bool) (xs:Array Value),xs.toList.length=ek.length→xs.toList.all i64V=true→(Instr.checkKey e 10000 t (.agg xs)).run P w= .ok () w
structure TOk1 (P:Program) (t:Nat) (ti:TI):Prop where
 info:∃i,P.info? t=some i∧i.size=ti.size∧i.bytes=ti.bytes∧i.zero=some ti.zero
 und:∃d,P.underlying t=some d∧d.isRow=ti.agg∧KOk P ti.k d
 zok:okConst ti.zero=true
 zsz:ti.zero.cells.size=ti.size
 eq:ti.eqs=true→EqS P t ti.ek
def TOk (P:Program) (T:Nat→TI):Prop:=∀t,(T t).known=true→TOk1 P t (T t)
theorem TOk.of {P:Program} {T:Nat→TI} (h:TOk P T) {t:Nat} {k:TK} (hk:(T t).k=k) (hn:k≠ .none_):TOk1 P t (T t):=h t (by
 unfold TI.known
 rw [hk]
 cases k <;> first | rfl | exact absurd rfl hn)
theorem TOk.kok {P:Program} {T:Nat→TI} (h:TOk P T) {t:Nat} {k:TK} (hk:(T t).k=k) (hn:k≠ .none_):∃d,P.underlying t=some d∧KOk P k d:=by
 obtain ⟨d,h1,_,h2⟩:=(h.of hk hn).und
 rw [hk] at h2
 exact ⟨d,h1,h2⟩
section
variable {P : Program} {o : Oper} {a : Act} {w w' : World} {K : Act → World → Prop} {Q : Exit → Act → World → Prop}
theorem wp_val {x:Value} (h:(execOp a.eval o).run P w= .ok (.value x) w') (hk:K (a.put o.dst x) w'):o.wp P a w K Q:=by
 unfold Oper.wp
 rw [h]
 exact hk
theorem wp_skp (h:(execOp a.eval o).run P w= .ok .skip w') (hk:K (a.put o.dst undef) w'):o.wp P a w K Q:=by
 unfold Oper.wp
 rw [h]
 exact hk
theorem run_load_one {t:TypeId} {d:TypeDesc} (hu:P.underlying t=some d) (hd:d.isRow=false) {b q:Nat} {v:Value} (hc:w.cell? ⟨b,q,none⟩=some v):
  (Instr.loadAt t (.pointer (some ⟨b,q,none⟩))).run P w= .ok v w:=by
 have hagg:(isAgg t).run P w= .ok false w:=by
  unfold isAgg
  rw [Sem.run_bind,run_underlying hu w]
  cases d <;> simp_all
 simp [Instr.loadAt,Instr.sureAddr,loadVar,hagg,hc]
theorem run_part {t:TypeId} {d:TypeDesc} (hu:P.underlying t=some d) {n:Nat} (hn:SizeIs P t n) (cs:Array Value) (off:Nat):
  (part t cs off).run P w=if d.isRow then .ok (.agg (cs.extract off (off + n))) w else (match cs[off]? with | some v=> .ok v w | none=> .halt (.stuck "part: no such cell") w):=by
 have hagg:(isAgg t).run P w= .ok d.isRow w:=by
  unfold isAgg
  rw [Sem.run_bind,run_underlying hu w]
  cases d <;> simp_all
 unfold SizeIs at hn
 cases hq:P.info? t with
 | none=> simp [hq] at hn
 | some i=>
  have hs:i.size=n:=by simpa [hq] using hn
  cases hr:d.isRow
  ·simp [part,hagg,hr]
   cases cs[off]? <;> simp [stuck]
  ·simp [part,hagg,hr,sizeOf,typeInfo,hq,hs]
end
theorem const1_rel (κ:Cx) (x:Value) (h:x.oneCell'=true):Rel κ (const1 x) x:=by
 unfold const1
 split
 ·exact .nl none
 ·exact .kb _
 ·exact .d (.v _ h)
theorem ofConst_rel (κ:Cx) (x:Value) (h:okConst x=true):Rel κ (ofConst x) x:=by
 have hk:=const1_rel κ x
 cases x with
 | agg cs=>
  simp only [okConst] at h
  refine .agg (by simp) fun j c v hc hv=> ?_
  rw [List.getElem?_map] at hc
  have hv':cs.toList[j]? =some v:=by simpa using hv
  rw [hv'] at hc
  injection hc with hc
  subst hc
  exact const1_rel κ v (List.all_eq_true.1 h v (List.mem_of_getElem? hv'))
 | tuple=> cases h
 | _=> exact hk h
theorem raw_rel {κ:Cx} {env:Nat→Option AV} {a:Act} (h:EnvOk κ env a.tmps) {x:Operand} {c:AV} (hx:rawOf env x=some c):Rel κ c (a.eval x):=by
 cases x with
 | tmp t=>
  obtain ⟨y,hy,hr⟩:=h t c hx
  have:a.eval (.tmp t)=y:=by
   show a.tmps.getD t undef=y
   rw [Array.getD_eq_getD_getElem?,hy]
   rfl
  rw [this]
  exact hr
 | const y=>
  simp only [rawOf] at hx
  cases hk:okConst y
  ·simp [hk] at hx
  ·simp [hk] at hx
   subst hx
   exact ofConst_rel κ y hk
 | func f=>
  simp only [rawOf] at hx
  injection hx with hx
  subst hx
  exact .fn rfl fun j c v hc=> by simp at hc
 | global g=> simp [rawOf] at hx
theorem ev_rel {κ:Cx} {env:Nat→Option AV} {a:Act} (h:EnvOk κ env a.tmps) {x:Operand} {c:AV} (hx:rhoOf env x=some c):Rel κ c (a.eval x):=by
 unfold rhoOf at hx
 cases hq:rawOf env x with
 | none=> rw [hq] at hx;cases hx
 | some q=>
  rw [hq] at hx
  injection hx with hx
  subst hx
  exact (raw_rel h hq).unk
def After (w0:Start) (A:Nat→Prop) (κ:Cx) (o:Oper) (v:AV) (m':Mem) (a a':Act) (w':World):Prop:=∃κ',κ'.w=w'∧Sim w0 A m' κ'∧κ.Le κ'∧∃x,a'=a.put o.dst x∧Rel κ' v x
section
variable {P : Program} {T : Nat → TI} {F : FuncId → List AV → AV → Prop} {w0 : Start} {A : Nat → Prop} {o : Oper} {a : Act} {κ : Cx} {m m' : Mem} {v : AV} {Q : Exit → Act → World → Prop}
theorem After.pure_ (hs:Sim w0 A m κ) {x:Value} (hx:Rel κ v x):After w0 A κ o v m a (a.put o.dst x) κ.w:=⟨κ,rfl,hs,.refl κ,x,rfl,hx⟩
theorem ldA_runs (hT:TOk P T) {t b q:Nat} {cs:List AV} {vs:List Value} (hr:RelL κ cs vs) (hw:κ.w.rangeAt b q vs) (h:(ldA (T t) cs).Runs F m v m'):
  ∃x,(Instr.loadAt t (.pointer (some ⟨b,q,none⟩))).run P κ.w= .ok x κ.w∧Rel κ v x∧m'=m:=by
 unfold ldA at h
 cases hk:(T t).known
 ·simp only [hk,Bool.not_false,cond_true] at h
  cases h
 ·simp only [hk,Bool.not_true,cond_false] at h
  have ht:=hT t hk
  obtain ⟨i,hi,hsz,_,_⟩:=ht.info
  obtain ⟨d,hu,hd,_⟩:=ht.und
  cases hg:(T t).agg
  ·simp only [hg,cond_false] at h
   cases cs with
   | nil=> cases h
   | cons c cs=>
    cases h with
    | ret=>
     obtain ⟨x,vs',rfl,hx,_⟩:=hr.cons_inv
     exact ⟨x,run_load_one hu (by rw [hd,hg]) (hw 0 x rfl),hx,rfl⟩
  ·simp only [hg,cond_true] at h
   cases hl:Nat.ble (T t).size cs.length
   ·simp only [hl,cond_false] at h
    cases h
   ·simp only [hl,cond_true] at h
    cases h with
    | ret=>
     have hl':(T t).size≤cs.length:=Nat.le_of_ble_eq_true hl
     refine ⟨.agg (vs.take (T t).size).toArray,run_loadAt_mid _ b q t _ d (fun j u hu'=> hw j u ?_) hu (by rw [hd,hg]) (by simp [hi,hsz,hr.1];omega),.agg_mk (hr.take _),rfl⟩
     rw [List.getElem?_take] at hu'
     split at hu'
     ·exact hu'
     ·cases hu'
theorem ldA_part (hT:TOk P T) {t off:Nat} {cs:List AV} {vs:Array Value} (hr:RelL κ cs vs.toList) (h:(ldA (T t) (cs.drop off)).Runs F m v m'):
  ∃x,(part t vs off).run P κ.w= .ok x κ.w∧Rel κ v x∧m'=m:=by
 unfold ldA at h
 cases hk:(T t).known
 ·simp only [hk,Bool.not_false,cond_true] at h
  cases h
 ·simp only [hk,Bool.not_true,cond_false] at h
  have ht:=hT t hk
  obtain ⟨i,hi,hsz,_,_⟩:=ht.info
  obtain ⟨d,hu,hd,_⟩:=ht.und
  have hrun:=run_part (P:=P) (w:=κ.w) hu (n:=(T t).size) (by simp [SizeIs,hi,hsz]) vs off
  rw [hd] at hrun
  cases hg:(T t).agg
  ·simp only [hg,cond_false] at h
   rw [hg] at hrun
   have hr':=hr.drop off
   generalize hcs:cs.drop off=cs' at h hr'
   cases cs' with
   | nil=> cases h
   | cons c cs'=>
    cases h with
    | ret=>
     obtain ⟨x,vs',hvs,hx,_⟩:=hr'.cons_inv
     have:vs[off]? =some x:=by
      have:=congrArg (·[0]?) hvs
      simpa using this
     rw [this] at hrun
     exact ⟨x,hrun,hx,rfl⟩
  ·simp only [hg,cond_true] at h
   cases hl:Nat.ble (T t).size (cs.drop off).length
   ·simp only [hl,cond_false] at h
    cases h
   ·simp only [hl,cond_true] at h
    cases h with
    | ret=>
     rw [hg] at hrun
     refine ⟨_,hrun,?_,rfl⟩
     have:=Rel.agg_mk ((hr.drop off).take (T t).size)
     have e:(vs.extract off (off + (T t).size))=((vs.toList.drop off).take (T t).size).toArray:=by
      apply Array.ext'
      simp [Array.toList_extract]
     rw [e]
     exact this
theorem relL_of_data {cs:List D} {vs:List Value} (hl:vs.length=cs.length) (h:∀(j:Nat) (x:D) (u:Value),cs[j]? =some x→vs[j]? =some u→RelD κ.S κ.w x u):RelL κ (cs.map dv) vs:=
 ⟨by simp [hl],fun j c u hc hu=> by
  rw [List.getElem?_map] at hc
  cases hx:cs[j]? with
  | none=> simp [hx] at hc
  | some x=>
   simp [hx] at hc
   subst hc
   exact .ofD (h j x u hx hu)⟩
theorem ldD_eq (t:TI) (cs:List D):ldD t cs=ldA t (cs.map dv):=by
 unfold ldD ldA
 cases t.known
 ·rfl
 ·simp only [Bool.not_true,cond_false]
  cases t.agg
  ·simp only [cond_false]
   cases cs <;> rfl
  ·simp [List.map_take]
variable {env : Nat → Option AV}
theorem sim_move (hs:Sim w0 A m κ) (he:EnvOk κ env a.tmps) {s sz:Nat} {x:Operand} (hrun:(execOp a.eval o).run P κ.w= .ok (.value (a.eval x)) κ.w) (h:(mvF s sz (rawOf env x)).Runs F m v m'):
  o.wp P a κ.w (fun a' w'=> After w0 A κ o v m' a a' w') Q:=by
 refine wp_val hrun ?_
 cases hx:rawOf env x with
 | none=> rw [hx] at h;cases h
 | some c=>
  have hr:=raw_rel he hx
  rw [hx] at h
  by_cases hc:c= .nl
  ·subst hc
   cases h with
   | new h=>
    cases h with
    | ret=>
     generalize a.eval x=y at hr
     cases hr with
     | nl A'=>
      obtain ⟨hs1,hle⟩:=hs.add (BelowD.refl _ _) s (.rows sz [] false) ⟨none,0,0,0⟩ (fun b hb=> by cases hb) rfl (fun _=> ⟨rfl,fun e he=> by simp at he,Or.inl ⟨rfl,rfl⟩⟩)
      refine ⟨κ.put s ⟨none,0,0,0⟩ κ.w,rfl,hs1,hle,_,rfl,?_⟩
      rw [←hs.gn]
      exact .row0 A' (by rw [Cx.put_gn];exact Nat.le_refl _) (by rw [Cx.put_new]) (by rw [Cx.put_new])
  ·have e:mvF s sz (some c)= .ret c:=by cases c <;> first | rfl | exact absurd rfl hc
   rw [e] at h
   cases h with
   | ret=> exact After.pure_ hs hr
theorem retO_runs {x:Option AV} (h:(retO x).Runs F m v m'):x=some v∧m'=m:=by
 cases x with
 | none=> cases h
 | some c=> cases h with | ret=> exact ⟨rfl,rfl⟩
theorem Rel.val {κ:Cx} {x u:Value} (h:Rel κ (.d (.v x)) u):u=x:=by
 cases h with
 | d h=> cases h with | v=> rfl
theorem pickF_inv {c x y:Option AV} (h:(pickF c x y).Runs F m v m'):∃t,(c=some (.d (.v (.bool t)))∨c=some (.kb t))∧(bif t then retO x else retO y).Runs F m v m':=by
 unfold pickF at h
 split at h
 ·exact ⟨true,Or.inr rfl,h⟩
 ·exact ⟨false,Or.inr rfl,h⟩
 ·cases h with
  | br h=> exact ⟨_,Or.inl rfl,h⟩
 ·cases h
theorem Rel.boolv {κ:Cx} {c:Option AV} {t:Bool} {u:Value} {d:AV} (hd:c=some d) (hc:c=some (.d (.v (.bool t)))∨c=some (.kb t)) (h:Rel κ d u):u= .bool t:=by
 subst hd
 rcases hc with hc | hc
 ·injection hc with hc;subst hc;exact h.val
 ·injection hc with hc;subst hc;cases h with | kb=> rfl
theorem sim_pick (hs:Sim w0 A m κ) (he:EnvOk κ env a.tmps) {c x y:Operand} (ho:o.op= .pick c x y) (h:(pickF (rawOf env c) (rawOf env x) (rawOf env y)).Runs F m v m'):
  o.wp P a κ.w (fun a' w'=> After w0 A κ o v m' a a' w') Q:=by
 obtain ⟨t,hc,h⟩:=pickF_inv h
 obtain ⟨d,hd⟩:∃d,rawOf env c=some d:=by rcases hc with hc | hc <;> exact ⟨_,hc⟩
 have hb:=Rel.boolv hd hc (raw_rel he hd)
 have hrun:(execOp a.eval o).run P κ.w= .ok (.value (if t then a.eval x else a.eval y)) κ.w:=by
  unfold execOp
  rw [ho]
  simp [hb,asBool]
 refine wp_val hrun ?_
 cases t
 ·obtain ⟨h1,rfl⟩:=retO_runs h
  exact After.pure_ hs (raw_rel he h1)
 ·obtain ⟨h1,rfl⟩:=retO_runs h
  exact After.pure_ hs (raw_rel he h1)
theorem run_newVar (t:TypeId) (x:Value) (w:World):(newVar t x).run P w= .ok ⟨w.heap.size,0,none⟩ (w.alloc (.cells x.cells t)):=by
 rfl
theorem boxF_runs (hs:Sim w0 A m κ) {ti:TI} {s t:Nat} {c:AV} {x:Value} (hx:Rel κ c x) (h:(boxF ti s c).Runs F m v m'):
  After w0 A κ o v m' a (a.put o.dst (.pointer (some ⟨κ.w.heap.size,0,none⟩))) (κ.w.alloc (.cells x.cells t)):=by
 unfold boxF at h
 cases h1:(cellsOf c).all isOne
 ·rw [h1] at h;cases h
 ·rw [h1] at h
  obtain ⟨hr,hone⟩:=hx.cells h1
  obtain ⟨m1,κ1,cs1,g1,g2,g3,g4,g5⟩:=settle_runs s ti.cz (cellsOf c) 0 _ m κ x.cells.toList v m' hs hr h
  cases g5 with
  | new g5=>
   cases g5 with
   | ret=>
    have hz:κ1.w.heap.size=κ.w.heap.size:=by rw [g3]
    obtain ⟨hs1,hle⟩:=g1.add (belowD_alloc κ1.w (.cells x.cells t)) s (.box cs1) ⟨some κ1.w.heap.size,0,0,0⟩ (fun b hb=> by injection hb with hb;subst hb;exact g1.fresh (Nat.le_refl _) (by simp)) rfl
     (fun hle=> ⟨κ1.w.heap.size,t,x.cells,rfl,heap_alloc_new _ _,by simpa using g4.1,fun j c u hc hu=> ⟨(g4.2 j c u hc (by simpa using hu)).mono hle,hone u (by rw [Array.mem_toList_iff];exact Array.mem_of_getElem? hu)⟩⟩)
    refine ⟨_,by show κ1.w.alloc _=_;rw [g3],hs1,g2.trans hle,_,rfl,?_⟩
    rw [←g1.gn,←hz]
    exact .lp (by rw [Cx.put_gn];exact Nat.le_refl _) (by rw [Cx.put_new])
theorem sim_alloc (hT:TOk P T) (hs:Sim w0 A m κ) {e s:Nat} (ho:o.op= .alloc e) (h:(allocF (T e) s).Runs F m v m'):o.wp P a κ.w (fun a' w'=> After w0 A κ o v m' a a' w') Q:=by
 unfold allocF at h
 cases hk:(T e).known
 ·rw [hk] at h;cases h
 ·rw [hk] at h
  have ht:=hT e hk
  obtain ⟨i,hi,_,_,hz⟩:=ht.info
  have hrun:(execOp a.eval o).run P κ.w= .ok (.value (.pointer (some ⟨κ.w.heap.size,0,none⟩))) (κ.w.alloc (.cells (T e).zero.cells e)):=by
   unfold execOp
   rw [ho]
   simp [Instr.alloc,zeroValue,typeInfo,hi,hz,run_newVar]
  exact wp_val hrun (boxF_runs hs (ofConst_rel κ _ ht.zok).unk h)
theorem sim_box (hs:Sim w0 A m κ) (he:EnvOk κ env a.tmps) {ti:TI} {e s:Nat} {x:Operand} (ho:o.op= .box e x) (h:(boxO ti s (rhoOf env x)).Runs F m v m'):o.wp P a κ.w (fun a' w'=> After w0 A κ o v m' a a' w') Q:=by
 cases hx:rhoOf env x with
 | none=> rw [hx] at h;cases h
 | some c=>
  rw [hx] at h
  have hrun:(execOp a.eval o).run P κ.w= .ok (.value (.pointer (some ⟨κ.w.heap.size,0,none⟩))) (κ.w.alloc (.cells (a.eval x).cells e)):=by
   unfold execOp
   rw [ho]
   simp [Instr.box,run_newVar]
  exact wp_val hrun (boxF_runs hs (ev_rel he hx) h)
end
end Go.Proofs.YtiklglcjecopcaaGreatDoor
namespace Go.Proofs.YtiklglcjecopcaaGreatDoor
open Go.RowKit
theorem over_nil {α:Type} (cs:List α) (o:Nat):over cs o []=cs:=by simp [over]
theorem over_get {α:Type} (cs:List α) (o:Nat) (vs:List α) (h:o + vs.length≤cs.length) (i:Nat):(over cs o vs)[i]? =if i < o then cs[i]? else if i < o + vs.length then vs[i - o]? else cs[i]? :=by
 unfold over
 rw [List.getElem?_append,List.getElem?_append]
 simp only [List.length_append,List.length_take]
 have e:min o cs.length=o:=by omega
 rw [e]
 by_cases h1:i < o
 ·rw [if_pos (by omega),if_pos h1,if_pos h1,List.getElem?_take_of_lt h1]
 ·by_cases h2:i < o + vs.length
  ·rw [if_pos h2,if_neg h1,if_neg h1,if_pos h2]
  ·rw [if_neg h2,if_neg h1,if_neg h2,List.getElem?_drop]
   congr 1
   omega
theorem over_cons {α:Type} (cs:List α) (o:Nat) (v:α) (vs:List α) (h:o + (vs.length + 1)≤cs.length):over (cs.set o v) (o + 1) vs=over cs o (v::vs):=by
 apply List.ext_getElem?
 intro i
 rw [over_get _ _ _ (by simp;omega),over_get _ _ _ (by simpa using h),List.getElem?_set,List.length_cons]
 by_cases h1:i < o
 ·rw [if_pos (by omega),if_pos h1,if_neg (by omega)]
 ·by_cases h2:i=o
  ·subst h2
   rw [if_pos (by omega),if_pos rfl,if_pos (by omega),if_neg (by omega),if_pos (by omega)]
   simp
  ·rw [if_neg (by omega),if_neg h1]
   by_cases h3:i < o + 1 + vs.length
   ·rw [if_pos h3,if_pos (by omega)]
    obtain ⟨k,hk⟩:∃k,i - o=k + 1:=⟨i - o - 1,by omega⟩
    rw [hk,List.getElem?_cons_succ]
    congr 1
    omega
   ·rw [if_neg h3,if_neg (by omega),if_neg (by omega)]
theorem over_length {α:Type} (cs:List α) (o:Nat) (vs:List α) (h:o + vs.length≤cs.length):(over cs o vs).length=cs.length:=by
 unfold over
 simp
 omega
theorem fold_over (off:Nat):∀(vs:List Value) (k:Nat) (cells:Array Value),off + k + vs.length≤cells.size→
  ((vs.zipIdx k).foldl (fun cs (p:Value×Nat)=> cs.setIfInBounds (off + p.2) p.1) cells).toList=over cells.toList (off + k) vs
 | [],k,cells,_=> by simp [over_nil]
 | v::vs,k,cells,h=> by
  rw [List.zipIdx_cons,List.foldl_cons,fold_over off vs (k + 1) _ (by simp at h ⊢;omega),Array.toList_setIfInBounds]
  rw [←Nat.add_assoc]
  exact over_cons _ _ _ _ (by simp at h ⊢;omega)
theorem fill_step (place:Nat→Option (Nat×Nat)) (cells:Array Value) (i:Nat) (x:Value) (r:List (Nat×Value)) {off n:Nat} (hp:place i=some (off,n)) (hn:x.cells.size=n) (hl:off + n≤cells.size):
  Instr.fill place cells ((i,x)::r)=Instr.fill place (over cells.toList off x.cells.toList).toArray r:=by
 rw [Instr.fill,hp]
 have h1:(decide (x.cells.size≠n) || decide (off + x.cells.size > cells.size))=false:=by simp [hn];omega
 simp only [h1,Bool.false_eq_true,if_false]
 congr 1
 apply Array.ext'
 have:=fold_over off x.cells.toList 0 cells (by simp [hn];omega)
 simp only [Nat.add_zero] at this
 rw [List.toList_toArray,←this,←Array.foldl_toList]
 simp
section
variable {P : Program} {T : Nat → TI} {F : FuncId → List AV → AV → Prop} {w0 : Start} {A : Nat → Prop} {o : Oper} {a : Act} {κ : Cx} {m m' : Mem} {v : AV} {Q : Exit → Act → World → Prop} {env : Nat → Option AV}
theorem fillA_sim (he:EnvOk κ env a.tmps) (place:Nat→Option (Nat×Nat)):∀(parts:List (Nat×Operand)) (cs:List AV) (vs:Array Value) (r:List AV),RelL κ cs vs.toList→
  fillA place cs (parts.map fun p=> (p.1,rhoOf env p.2))=some r→∃us,Instr.fill place vs (parts.map fun p=> (p.1,a.eval p.2))=some us∧RelL κ r us.toList
 | [],cs,vs,r,hr,h=> by
  simp only [List.map_nil,fillA] at h
  injection h with h
  subst h
  exact ⟨vs,rfl,hr⟩
 | (i,x)::parts,cs,vs,r,hr,h=> by
  simp only [List.map_cons] at h ⊢
  cases hx:rhoOf env x with
  | none=> rw [hx] at h;simp [fillA] at h
  | some c=>
   rw [hx] at h
   simp only [fillA] at h
   split at h
   ·rename_i off n hp
    cases hb:(Nat.beq (cellsOf c).length n && Nat.ble (off + n) cs.length && (cellsOf c).all isOne)
    ·rw [hb] at h;cases h
    ·rw [hb] at h
     simp only [Bool.and_eq_true] at hb
     obtain ⟨⟨h1,h2⟩,h3⟩:=hb
     have h1:=Nat.eq_of_beq_eq_true h1
     have h2:=Nat.le_of_ble_eq_true h2
     obtain ⟨hc,_⟩:=(ev_rel he hx).cells h3
     have hl:=hc.1
     have hl2:=hr.1
     rw [fill_step place vs i (a.eval x) _ hp (by rw [←h1];simpa using hl) (by rw [←hl2] at h2;simpa using h2)]
     rw [overF_eq _ _ _ (by omega)] at h
     exact fillA_sim he place parts _ _ r (by simpa using hr.over hc off) h
   ·cases h
theorem sim_build (hT:TOk P T) (hs:Sim w0 A m κ) (he:EnvOk κ env a.tmps) {t:Nat} {parts:Array (Nat×Operand)} (ho:o.op= .build t parts) (h:(buildF (T t) (parts.toList.map fun p=> (p.1,rhoOf env p.2))).Runs F m v m'):
  o.wp P a κ.w (fun a' w'=> After w0 A κ o v m' a a' w') Q:=by
 unfold buildF at h
 have hzr:∀(ht:TOk1 P t (T t)),(T t).agg=true→RelL κ (cellsOf (unk (ofConst (T t).zero))) (T t).zero.cells.toList:=by
  intro ht _
  have hr:=(ofConst_rel κ _ ht.zok).unk
  have hone:(cellsOf (unk (ofConst (T t).zero))).all isOne=true:=by
   have hzk:=ht.zok
   have one:∀x:Value,isOne (unk1 (const1 x))=true:=by
    intro x
    simp only [const1]
    split <;> rfl
   cases hz:(T t).zero with
   | agg cs=>
    simp only [ofConst,unk,cellsOf,List.map_map,List.all_map]
    rw [List.all_eq_true]
    intro x hx
    exact one x
   | tuple=> rw [hz] at hzk;cases hzk
   | slice b n c=>
    simp only [ofConst,const1]
    split <;> simp [cellsOf,isOne,unk,unk1]
   | _=> rfl
  exact (hr.cells hone).1
 have fin:∀(cells:Array Value) (r:List AV),P.built t (parts.map fun p=> (p.1,a.eval p.2)).toList=some cells→RelL κ r cells.toList→v= .agg r→m'=m→o.wp P a κ.w (fun a' w'=> After w0 A κ o v m' a a' w') Q:=by
  intro cells r hb hr e1 e2
  subst e1 e2
  have hrun:(execOp a.eval o).run P κ.w= .ok (.value (.agg cells)) κ.w:=by
   unfold execOp
   rw [ho]
   simp only [Sem.run_bind,run_build κ.w t _ cells hb,Result.andThen_ok]
   rfl
  refine wp_val hrun (After.pure_ hs ?_)
  have:=Rel.agg_mk hr
  simpa using this
 have eparts:(parts.map fun p=> (p.1,a.eval p.2)).toList=parts.toList.map fun p=> (p.1,a.eval p.2):=by simp
 split at h
 ·rename_i fs hk
  have ht:=hT.of hk (by simp)
  obtain ⟨i,hi,hsz,_,hz⟩:=ht.info
  obtain ⟨d,hu,hd,hko⟩:=ht.und
  rw [hk] at hko
  obtain ⟨fields,rfl,hf,hfs⟩:=hko
  cases hfill:fillA (fun i=> (fs[i]?).map fun f=> (f.1,f.2.2)) (cellsOf (unk (ofConst (T t).zero))) (parts.toList.map fun p=> (p.1,rhoOf env p.2)) with
  | none=> rw [hfill] at h;cases h
  | some r=>
   rw [hfill] at h
   cases h with
   | ret=>
    obtain ⟨us,hus,hr⟩:=fillA_sim he _ parts.toList _ (T t).zero.cells r (hzr ht (by rw [←hd])) hfill
    refine fin us r ?_ hr rfl rfl
    have hp:∀(fl:List Field) (gs:List (Nat×Nat×Nat)),fl.map (fun f=> (f.offset,f.type))=gs.map (fun x=> (x.1,x.2.1))→(∀x∈gs,SizeIs P x.2.1 x.2.2)→
      fl.mapM (fun f=> (P.info? f.type).map fun i=> (f.offset,i.size))=some (gs.map fun x=> (x.1,x.2.2)):=by
     intro fl
     induction fl with
     | nil=>
      intro gs hg _
      cases gs with
      | nil=> rfl
      | cons=> simp at hg
     | cons f fl ih=>
      intro gs hg hsz
      cases gs with
      | nil=> simp at hg
      | cons g gs=>
       simp only [List.map_cons,List.cons.injEq,Prod.mk.injEq] at hg
       obtain ⟨⟨q1,q2⟩,q3⟩:=hg
       have hs:=hsz g (by simp)
       unfold SizeIs at hs
       cases hq:P.info? g.2.1 with
       | none=> simp [hq] at hs
       | some i=>
        have hs':i.size=g.2.2:=by simpa [hq] using hs
        rw [List.mapM_cons,ih gs q3 (fun x hx=> hsz x (by simp [hx])),q2,hq]
        simp [q1,hs']
    unfold Program.built
    rw [hi,hu]
    simp only [hz,hp fields.toList fs hf hfs]
    rw [eparts,←hus]
    congr 1
    funext x
    simp
 ·rename_i n e z hk
  have ht:=hT.of hk (by simp)
  obtain ⟨i,hi,hsz,_,hz⟩:=ht.info
  obtain ⟨d,hu,hd,hko⟩:=ht.und
  rw [hk] at hko
  obtain ⟨rfl,hes⟩:=hko
  cases hfill:fillA (fun i=> some (i * z,z)) (cellsOf (unk (ofConst (T t).zero))) (parts.toList.map fun p=> (p.1,rhoOf env p.2)) with
  | none=> rw [hfill] at h;cases h
  | some r=>
   rw [hfill] at h
   cases h with
   | ret=>
    obtain ⟨us,hus,hr⟩:=fillA_sim he _ parts.toList _ (T t).zero.cells r (hzr ht (by rw [←hd])) hfill
    refine fin us r ?_ hr rfl rfl
    unfold SizeIs at hes
    cases hq:P.info? e with
    | none=> simp [hq] at hes
    | some ie=>
     have hs':ie.size=z:=by simpa [hq] using hes
     unfold Program.built
     rw [hi,hu]
     simp only [hz,hq,hs']
     rw [eparts]
     exact hus
 ·cases h
end
end Go.Proofs.YtiklglcjecopcaaGreatDoor
namespace Go.Proofs.YtiklglcjecopcaaGreatDoor
open Go.RowKit
theorem range_block {w:World} {b:Nat} {vs:Array Value} {t:TypeId} {fr:Nat×Nat} (h:w.heap[b]? =some (.cells vs t fr)) (o:Nat):w.rangeAt b o (vs.toList.drop o):=fun j v hv=> by
 rw [cell_of_row w b (o + j) vs t fr h]
 rw [List.getElem?_drop] at hv
 simpa using hv
theorem run_store_row {P:Program} {w:World} {g q t:Nat} {cur:Array Value} {tt:TypeId} {x:Value} (hg:w.heap[g]? =some (.cells cur tt (0,0))) (hl:q + x.cells.size≤cur.size) (h1:∀u∈x.cells.toList,u.oneCell'=true) (hz:SizeIs P t x.cells.size):
  (Instr.storeAt t (.pointer (some ⟨g,q,none⟩)) x).run P w= .ok () (w.setRow g (over cur.toList q x.cells.toList).toArray):=by
 unfold SizeIs at hz
 cases hq:P.info? t with
 | none=> simp [hq] at hz
 | some i=>
  have hs:x.cells.size=i.size:=by simp [hq] at hz;omega
  have hst:=run_storeCells_at P g q tt x.cells.toList 0 cur w hg (by simpa using hl) h1
  simp only [Nat.add_zero] at hst
  simp [Instr.storeAt,Instr.sureAddr,storeVar,sizeOf,typeInfo,hq,hs,hst,over]
theorem setRow_size (w:World) (g:Nat) (cs:Array Value):(w.setRow g cs).heap.size=w.heap.size:=by simp [World.setRow]
section
variable {P : Program} {T : Nat → TI} {F : FuncId → List AV → AV → Prop} {w0 : Start} {A : Nat → Prop} {o : Oper} {a : Act} {κ : Cx} {m m' : Mem} {v : AV} {Q : Exit → Act → World → Prop} {env : Nat → Option AV}
theorem loadF_inv {t:TI} {x:Option AV} (h:(loadF t x).Runs F m v m'):(∃cs,x=some (.fp cs)∧(ldD t cs).Runs F m v m')∨(∃s g o cs,x=some (.lp s g o)∧m.at_ s g=some (.box cs)∧(ldA t (cs.drop o)).Runs F m v m')∨
  ∃s g i o sz es ro c,x=some (.rp s g i o)∧m.at_ s g=some (.rows sz es ro)∧es[i]? =some c∧(ldD t (c.drop o)).Runs F m v m':=by
 unfold loadF at h
 split at h
 ·exact Or.inl ⟨_,rfl,h⟩
 ·cases h with
  | rdb hi h=> exact Or.inr (Or.inl ⟨_,_,_,_,rfl,hi,h⟩)
 ·cases h with
  | rdr hi h=>
   cases h with
   | elem hc h=> exact Or.inr (Or.inr ⟨_,_,_,_,_,_,_,_,rfl,hi,hc,h⟩)
 ·cases h
theorem sim_load (hT:TOk P T) (hs:Sim w0 A m κ) (he:EnvOk κ env a.tmps) {t:Nat} {x:Operand} (ho:o.op= .load t x) (h:(loadF (T t) (rhoOf env x)).Runs F m v m'):
  o.wp P a κ.w (fun a' w'=> After w0 A κ o v m' a a' w') Q:=by
 have fin:∀(b q:Nat) (cs:List AV) (vs:List Value),a.eval x= .pointer (some ⟨b,q,none⟩)→RelL κ cs vs→κ.w.rangeAt b q vs→(ldA (T t) cs).Runs F m v m'→o.wp P a κ.w (fun a' w'=> After w0 A κ o v m' a a' w') Q:=by
  intro b q cs vs hx hr hw h
  obtain ⟨y,hrun,hy,rfl⟩:=ldA_runs hT hr hw h
  have:(execOp a.eval o).run P κ.w= .ok (.value y) κ.w:=by
   unfold execOp
   rw [ho]
   simp only [hx,Sem.run_bind,hrun,Result.andThen_ok]
   rfl
  exact wp_val this (After.pure_ hs hy)
 rcases loadF_inv h with ⟨cs,hx,h⟩ | ⟨s,g,q,cs,hx,hi,h⟩ | ⟨s,g,i,q,sz,es,ro,c,hx,hi,hc,h⟩
 ·have hr:=ev_rel he hx
  generalize hy:a.eval x=y at hr
  cases hr with
  | fp vs hb hcell hrel=>
   rw [ldD_eq] at h
   refine fin _ _ _ ((List.range cs.length).map vs) hy (relL_of_data (by simp) fun j y u hj hu=> ?_) (fun j u hu=> ?_) h
   ·have hlt:j < cs.length:=(List.getElem?_eq_some_iff.1 hj).1
    simp [hlt] at hu
    subst hu
    exact hrel j y hj
   ·have hlt:j < cs.length:=by
     have:=(List.getElem?_eq_some_iff.1 hu).1
     simpa using this
    simp [hlt] at hu
    subst hu
    exact hcell j hlt
 ·have hr:=ev_rel he hx
  generalize hy:a.eval x=y at hr
  cases hr with
  | lp hg hb=>
   obtain ⟨b',tt,vs,hb',hh,hl,hrel⟩:=hs.ok s g _ hi
   rw [hb] at hb'
   injection hb' with hb'
   subst hb'
   have hL:RelL κ cs vs.toList:=⟨by simpa using hl,fun j c u hc hu=> (hrel j c u hc (by simpa using hu)).1⟩
   exact fin _ _ _ (vs.toList.drop q) hy (hL.drop q) (range_block hh q) h
 ·have hr:=ev_rel he hx
  generalize hy:a.eval x=y at hr
  cases hr with
  | rp hg hb=>
   obtain ⟨hlen,hall,h3⟩:=hs.ok s g _ hi
   rcases h3 with ⟨h4,_⟩ | ⟨b',tt,cur,hb',hz,hh,hl,hm,hcs,hra⟩
   ·rw [h4] at hb;cases hb
   ·rw [hb] at hb'
    injection hb' with hb'
    subst hb'
    rw [ldD_eq] at h
    have hcl:c.length=sz:=hall c (List.mem_of_getElem? hc)
    have hi':i < es.length:=(List.getElem?_eq_some_iff.1 hc).1
    have hfit:i * sz + sz≤cur.size:=by
     rw [hcs]
     have:(i + 1) * sz≤(κ.φ s g).cap * sz:=Nat.mul_le_mul_right _ (by omega)
     rw [Nat.add_mul] at this
     omega
    refine fin _ _ _ ((cur.toList.drop (i * sz + q)).take (c.length - q)) hy (relL_of_data ?_ fun j y u hj hu=> ?_) (fun j u hu=> ?_) h
    ·simp
     omega
    ·rw [List.getElem?_take] at hu
     split at hu
     ·rw [List.getElem?_drop] at hj hu
      obtain ⟨u',hu',hd⟩:=hra i (q + j) c y hc hj
      have:cur.toList[i * sz + q + j]? =some u':=by rw [Nat.add_assoc];simpa using hu'
      rw [this] at hu
      injection hu with hu
      subst hu
      exact hd
     ·cases hu
    ·rw [List.getElem?_take] at hu
     split at hu
     ·rw [hz]
      exact range_block hh (i * sz + q) j u hu
     ·cases hu
theorem storeF_inv {t:TI} {x y:Option AV} (h:(storeF t x y).Runs F m v m'):t.known=true∧∃c,y=some c∧(cellsOf c).all isOne=true∧(cellsOf c).length=t.size∧
  ((∃s g o,x=some (.lp s g o)∧(settle (s + 1048576 * (o + 1)) t.cz 0 (cellsOf c) fun vs=> .rdb s g fun cs=> bif Nat.ble (o + vs.length) cs.length then .wr s g (.box (over cs o vs)) (.ret (.tup [])) else .fail).Runs F m v m')∨
   ∃s g i o,x=some (.rp s g i o)∧(dataList (cellsOf c) fun vs=> .rww s g fun sz es=> .elem es i fun c=> bif Nat.ble (o + vs.length) sz then .wr s g (.rows sz (es.set i (over c o vs)) false) (.ret (.tup [])) else .fail).Runs F m v m'):=by
 unfold storeF at h
 split at h
 ·rename_i s g q c
  cases hb:(t.known && (cellsOf c).all isOne && Nat.beq (cellsOf c).length t.size)
  ·rw [hb] at h;cases h
  ·rw [hb] at h
   simp only [Bool.and_eq_true] at hb
   exact ⟨hb.1.1,c,rfl,hb.1.2,Nat.eq_of_beq_eq_true hb.2,Or.inl ⟨s,g,q,rfl,h⟩⟩
 ·rename_i s g i q c
  cases hb:(t.known && (cellsOf c).all isOne && Nat.beq (cellsOf c).length t.size)
  ·rw [hb] at h;cases h
  ·rw [hb] at h
   simp only [Bool.and_eq_true] at hb
   exact ⟨hb.1.1,c,rfl,hb.1.2,Nat.eq_of_beq_eq_true hb.2,Or.inr ⟨s,g,i,q,rfl,h⟩⟩
 ·cases h
theorem sim_store (hT:TOk P T) (hs:Sim w0 A m κ) (he:EnvOk κ env a.tmps) {t:Nat} {x y:Operand} (ho:o.op= .store t x y) (h:(storeF (T t) (rhoOf env x) (rhoOf env y)).Runs F m v m'):
  o.wp P a κ.w (fun a' w'=> After w0 A κ o v m' a a' w') Q:=by
 obtain ⟨hk,c,hy,hone,hlen,h⟩:=storeF_inv h
 have ht:=hT t hk
 obtain ⟨it,hit,hsz,_,_⟩:=ht.info
 obtain ⟨hcs,h1⟩:=(ev_rel he hy).cells hone
 have hz:SizeIs P t (a.eval y).cells.size:=by
  have:=hcs.1
  simp only [Array.length_toList] at this
  simp [SizeIs,hit,hsz,this,hlen]
 have fin:∀(g q:Nat) (cur:Array Value) (tt:TypeId),a.eval x= .pointer (some ⟨g,q,none⟩)→κ.w.heap[g]? =some (.cells cur tt (0,0))→q + (a.eval y).cells.size≤cur.size→
   After w0 A κ o v m' a (a.put o.dst undef) (κ.w.setRow g (over cur.toList q (a.eval y).cells.toList).toArray)→o.wp P a κ.w (fun a' w'=> After w0 A κ o v m' a a' w') Q:=by
  intro g q cur tt hx hg hl hk
  have:(execOp a.eval o).run P κ.w= .ok .skip (κ.w.setRow g (over cur.toList q (a.eval y).cells.toList).toArray):=by
   unfold execOp
   rw [ho]
   simp only [hx,Sem.run_bind,run_store_row hg hl h1 hz,Result.andThen_ok]
   rfl
  exact wp_skp this hk
 have hundef:∀κ':Cx,Rel κ' (.tup []) undef:=fun κ'=> .tup rfl fun j c v hc=> by simp at hc
 rcases h with ⟨s,g,q,hx,h⟩ | ⟨s,g,i,q,hx,h⟩
 ·have hr:=ev_rel he hx
  generalize hyx:a.eval x=yx at hr
  cases hr with
  | lp hg hb=>
   obtain ⟨m1,κ1,cs1,g1,g2,g3,g4,g5⟩:=settle_runs _ _ (cellsOf c) 0 _ m κ _ v m' hs hcs h
   cases g5 with
   | rdb hi g5=>
    rename_i cs
    dsimp only at g5
    cases hble:Nat.ble (q + cs1.length) cs.length
    ·rw [hble] at g5;cases g5
    ·rw [hble] at g5
     have hble:=Nat.le_of_ble_eq_true hble
     cases g5 with
     | wr g5=>
      cases g5 with
      | ret=>
       obtain ⟨b',tt,vs,hb',hh,hl,hrel⟩:=g1.ok s g _ hi
       rw [g2.φ s g hg,hb] at hb'
       injection hb' with hb'
       subst hb'
       have hvs:vs.size=cs.length:=hl
       have hc1:(a.eval y).cells.size=cs1.length:=by simpa using g4.1
       rw [g3] at hh
       refine fin _ _ vs tt hyx hh (by omega) ?_
       have hL:RelL κ1 cs vs.toList:=⟨by simpa using hl,fun j c u hc hu=> (hrel j c u hc (by simpa using hu)).1⟩
       have:=g1.set (i':= .box (over cs q cs1)) (w':=κ.w.setRow _ (over vs.toList q (a.eval y).cells.toList).toArray) hi rfl rfl (by rw [g3];exact Nat.le_refl _) (by rw [g3];rfl) (by rw [g3];rfl) (by rw [g3];rfl) (by rw [g3];exact setRow_size _ _ _)
        (fun k hk=> by
         rw [g3,setRow_other]
         rintro rfl
         rw [g2.φ s g hg] at hk
         exact hk hb)
        (fun hle=> ⟨_,tt,_,by rw [g2.φ s g hg];exact hb,setRow_heap _ _ vs _ tt _ hh,by
          rw [List.size_toArray,over_length _ _ _ (by simp;omega),over_length _ _ _ (by omega)]
          simpa using hl,
         fun j c' u hc' hu=> by
          have hov:=(hL.over g4 q)
          refine ⟨(hov.2 j c' u hc' (by simpa using hu)).mono hle,?_⟩
          have hu':(over vs.toList q (a.eval y).cells.toList)[j]? =some u:=by simpa using hu
          rw [over_get _ _ _ (by simp;omega)] at hu'
          have hold:∀(j:Nat) (u:Value),vs.toList[j]? =some u→u.oneCell'=true:=by
           intro j u hu
           have hj:j < cs.length:=by
            have:=(List.getElem?_eq_some_iff.1 hu).1
            simp at this
            omega
           exact (hrel j cs[j] u (List.getElem?_eq_getElem hj) (by simpa using hu)).2
          split at hu'
          ·exact hold j u hu'
          ·split at hu'
           ·exact h1 u (List.mem_of_getElem? hu')
           ·exact hold j u hu'⟩)
       exact ⟨_,rfl,this.1,g2.trans this.2,undef,rfl,hundef _⟩
 ·have hr:=ev_rel he hx
  generalize hyx:a.eval x=yx at hr
  cases hr with
  | rp hg hb=>
   obtain ⟨m1,κ1,ds,g1,g2,g3,g4,g5⟩:=dataList_runs (cellsOf c) _ m κ _ v m' hs hcs h
   cases g5 with
   | rww hi g5=>
    rename_i sz es
    cases g5 with
    | elem hc g5=>
     rename_i cc
     dsimp only at g5
     cases hble:Nat.ble (q + ds.length) sz
     ·rw [hble] at g5;cases g5
     ·rw [hble] at g5
      have hble:=Nat.le_of_ble_eq_true hble
      cases g5 with
      | wr g5=>
       cases g5 with
       | ret=>
        obtain ⟨hlen2,hall,h3⟩:=g1.ok s g _ hi
        rcases h3 with ⟨h4,_⟩ | ⟨b',tt,cur,hb',hzz,hh,hl,hm,hcsz,hra⟩
        ·rw [g2.φ s g hg,hb] at h4;cases h4
        ·rw [g2.φ s g hg,hb] at hb'
         injection hb' with hb'
         subst hb'
         rw [g2.φ s g hg] at hzz hl hm hcsz hlen2
         have hcl:cc.length=sz:=hall cc (List.mem_of_getElem? hc)
         have hi':i < es.length:=(List.getElem?_eq_some_iff.1 hc).1
         have hfit:i * sz + sz≤cur.size:=by
          rw [hcsz]
          have:(i + 1) * sz≤(κ.φ s g).cap * sz:=Nat.mul_le_mul_right _ (by omega)
          rw [Nat.add_mul] at this
          omega
         have hd1:(a.eval y).cells.size=ds.length:=by simpa using g4.1.symm
         rw [g3] at hh
         rw [hzz] at hyx
         refine fin _ _ cur tt hyx hh (by omega) ?_
         have:=g1.set (i':= .rows sz (es.set i (over cc q ds)) false) (w':=κ.w.setRow _ (over cur.toList (i * sz + q) (a.eval y).cells.toList).toArray) hi rfl rfl (by rw [g3];exact Nat.le_refl _) (by rw [g3];rfl) (by rw [g3];rfl) (by rw [g3];rfl) (by rw [g3];exact setRow_size _ _ _)
          (fun k hk=> by
           rw [g3,setRow_other]
           rintro rfl
           rw [g2.φ s g hg] at hk
           exact hk hb)
          (fun hle=> ⟨by simp [hlen2,g2.φ s g hg],fun e he=> by
            rcases List.mem_or_eq_of_mem_set he with he | rfl
            ·exact hall e he
            ·rw [over_length _ _ _ (by omega)];exact hcl,
           Or.inr ⟨_,tt,_,by rw [g2.φ s g hg];exact hb,by rw [g2.φ s g hg];exact hzz,setRow_heap _ _ cur _ tt _ hh,by rw [g2.φ s g hg];exact hl,by rw [g2.φ s g hg];exact hm,
            by rw [List.size_toArray,over_length _ _ _ (by simp;omega),g2.φ s g hg];simpa using hcsz,
            fun i' j' e xx he' hx'=> by
             have hov:∀k,((over cur.toList (i * sz + q) (a.eval y).cells.toList).toArray)[k]? =if k < i * sz + q then cur[k]? else if k < i * sz + q + ds.length then (a.eval y).cells.toList[k - (i * sz + q)]? else cur[k]? :=by
              intro k
              have:=over_get cur.toList (i * sz + q) (a.eval y).cells.toList (by simp;omega) k
              simpa [hd1] using this
             rw [List.getElem?_set] at he'
             have hj':j' < sz:=by
              have hje:j' < e.length:=(List.getElem?_eq_some_iff.1 hx').1
              split at he'
              ·injection he' with he'
               subst he'
               rw [over_length _ _ _ (by omega)] at hje
               omega
              ·rw [hall e (List.mem_of_getElem? he')] at hje
               exact hje
             split at he'
             ·rename_i hii
              subst hii
              ·injection he' with he'
               subst he'
               rw [over_get _ _ _ (by omega)] at hx'
               by_cases hq1:j' < q
               ·rw [if_pos hq1] at hx'
                obtain ⟨u,hu,hd⟩:=hra i j' cc xx hc hx'
                exact ⟨u,by rw [hov,if_pos (by omega)];exact hu,hle.relD hd⟩
               ·rw [if_neg hq1] at hx'
                by_cases hq2:j' < q + ds.length
                ·rw [if_pos hq2] at hx'
                 have hlt:j' - q < (a.eval y).cells.toList.length:=by simp;omega
                 exact ⟨_,by rw [hov,if_neg (by omega),if_pos (by omega),show i * sz + j' - (i * sz + q)=j' - q by omega];exact List.getElem?_eq_getElem hlt,hle.relD (g4.2 (j' - q) xx _ hx' (List.getElem?_eq_getElem hlt))⟩
                ·rw [if_neg hq2] at hx'
                 obtain ⟨u,hu,hd⟩:=hra i j' cc xx hc hx'
                 exact ⟨u,by rw [hov,if_neg (by omega),if_neg (by omega)];exact hu,hle.relD hd⟩
             ·rename_i hii
              obtain ⟨u,hu,hd⟩:=hra i' j' e xx he' hx'
              refine ⟨u,?_,hle.relD hd⟩
              rw [hov]
              rcases Nat.lt_or_ge i' i with hlt | hge
              ·have:(i' + 1) * sz≤i * sz:=Nat.mul_le_mul_right _ (by omega)
               rw [Nat.add_mul] at this
               rw [if_pos (by omega)]
               exact hu
              ·have:(i + 1) * sz≤i' * sz:=Nat.mul_le_mul_right _ (by omega)
               rw [Nat.add_mul] at this
               rw [if_neg (by omega),if_neg (by omega)]
               exact hu⟩⟩)
         exact ⟨_,rfl,this.1,g2.trans this.2,undef,rfl,hundef _⟩
end
end Go.Proofs.YtiklglcjecopcaaGreatDoor

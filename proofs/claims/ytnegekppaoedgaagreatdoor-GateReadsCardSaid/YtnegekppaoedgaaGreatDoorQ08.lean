/-
Running code on constants: built-in functions that change nothing; every operation that changes nothing. Over any program.
-/
import Derived.Test.YtnegekppaoedgaaGreatDoorQ07
import Derived.Maps.RangeRun
import Derived.Laws.MakeOwn
import Derived.Laws.CopyRow
import Derived.Laws.AppendOwn
import Derived.Laws.Append
import Derived.Lib.AppendStr
set_option linter.all false
namespace Go.Proofs.YtnegekppaoedgaaGreatDoor
namespace Ci
open Go.RowKit
variable [fE]
section
variable {P : Program} {σ : Nm} {E : Tr CV} {ρ : Operand → Value} {w : World}
theorem mJ {y:Value} (h:kT y=true):y= .slice none 0 0:=by
 unfold kT at h
 split at h
 ·rfl
 ·cases h
theorem q_len {w0:Base} {H:Tr aP} {nx:Nat} (hs:R w0 σ H nx w) {t ty:TypeId} {ts:Array TypeId} {args:Array Value} {c v:CV} {va:Value} (ht:ts[0]? =some t) (ha:args[0]? =some va) (hv:VR σ c va) (h:anx P H t c=some v):
  ∃u,(Builtin.len_ ts ty args).run P w= .ok u w∧VR σ v u:=by
 obtain ⟨d,hd,h⟩:=aj h
 have hu:P.underlying t=some d:=hd
 have ok:∀n:Nat,lenV n=some v→VR σ v (goInt n):=fun n h=> by
  injection h with h
  subst h
  exact .v _ rfl
 cases d with
 | string=>
  cases c with
  | t bs=>
   generalize va=vx at *
   cases hv with
   | t _ hb=>
    have hsz:(⟨(bs.map UInt8.ofNat).toArray⟩:ByteArray).size=bs.length:=by simp [ByteArray.size]
    refine ⟨goInt bs.length,?_,ok bs.length (by have h:lenV (len bs)=some v:=h;rw [len_eq] at h;exact h)⟩
    simp [Builtin.len_,ht,ha,run_underlying hu,oW,hsz]
  | u i=>
   obtain ⟨e,hi⟩:=hv.uv
   obtain ⟨j,h1,h2⟩:=aj (show ob (ae9 i) (fun j=> some (.u j))=some v from h)
   obtain ⟨hj,s,k1,k2⟩:=fE.l i j hi h1
   have h2:=Option.some.inj h2
   subst h2
   refine ⟨_,?_,.u j hj⟩
   rw [k2]
   simp [Builtin.len_,ht,ha,run_underlying hu,e,k1,goInt]
  | _=> cases h
 | slice e=>
  cases c with
  | s l o n k=>
   obtain ⟨lc,hc,A,cap,hA,_⟩:=hv.sv
   exact ⟨goInt n,by simp [Builtin.len_,ht,ha,run_underlying hu,hA],ok n h⟩
  | u i=>
   obtain ⟨e,hi⟩:=hv.uv
   obtain ⟨j,h1,h2⟩:=aj (show ob (afa i) (fun j=> some (.u j))=some v from h)
   obtain ⟨hj,a,n,c,k1,k2⟩:=fE.n i j hi h1
   have h2:=Option.some.inj h2
   subst h2
   refine ⟨_,?_,.u j hj⟩
   rw [k2]
   simp [Builtin.len_,ht,ha,run_underlying hu,e,k1,goInt]
  | v y=>
   obtain ⟨hn,h⟩:=aC (show fP (kT y) _=some v from h)
   have e1:=hv.val
   have e2:=mJ hn
   refine ⟨goInt 0,?_,ok 0 h⟩
   simp [Builtin.len_,ht,ha,run_underlying hu,e1,e2]
  | _=> cases h
 | map kt e=>
  obtain ⟨es,h1,h9⟩:=aj (show ob (mapOf H c) _=some v from h)
  rw [len_eq] at h9
  rcases DC hs hv h1 with ⟨e1,e2⟩ | ⟨l,lc,ents,_,clock,rfl,hc,hH,e1,k1,k2,_,k3,k4⟩
  ·subst e2
   refine ⟨goInt 0,?_,ok 0 h9⟩
   simp [Builtin.len_,ht,ha,run_underlying hu,e1]
  ·have hg:(getObj lc.blk).run P w= .ok (.map ents clock) w:=by
    simp [getObj,Sem.run,k1]
   refine ⟨goInt es.length,?_,ok _ h9⟩
   simp [Builtin.len_,ht,ha,run_underlying hu,e1,hg,k3]
 | array n e=>
  refine ⟨goInt n,?_,ok n h⟩
  simp [Builtin.len_,ht,ha,run_underlying hu]
 | _=> cases h
theorem anT {t ty:TypeId} {ts:Array TypeId} {args:Array Value} {c v:CV} {va:Value} (ht:ts[0]? =some t) (ha:args[0]? =some va) (hv:VR σ c va) (h:anz P t c=some v):∃u,(Builtin.cap_ ts ty args).run P w= .ok u w∧VR σ v u:=by
 obtain ⟨e,he,h⟩:=aj h
 have hu:=jA he
 have ok:∀n:Nat,lenV n=some v→VR σ v (goInt n):=fun n h=> by
  injection h with h
  subst h
  exact .v _ rfl
 cases c with
 | s l o n k=>
  obtain ⟨lc,hc,A,cap,hA,_,_,hk,_⟩:=hv.sv
  cases k with
  | op z=> cases h
  | kn k=>
   have:=hk k rfl
   subst this
   exact ⟨goInt cap,by simp [Builtin.cap_,ht,ha,run_underlying hu,hA],ok cap h⟩
 | v y=>
  obtain ⟨hn,h⟩:=aC (show fP (kT y) _=some v from h)
  have e1:=hv.val
  have e2:=mJ hn
  refine ⟨goInt 0,?_,ok 0 h⟩
  simp [Builtin.cap_,ht,ha,run_underlying hu,e1,e2]
 | _=> cases h
theorem toVL_rel:∀{cs:List CV} {vs us:List Value},fU σ cs vs→toVL cs=some us→vs=us
 | [],vs,us,h,hc=> by
  injection hc with hc
  subst hc
  exact h.bg
 | c::cs,vs,us,h,hc=> by
  obtain ⟨v,vs',rfl,h1,h2⟩:=h.cons_inv
  obtain ⟨u,e1,hc⟩:=aj (show ob (toV c) _=some us from hc)
  obtain ⟨us',e2,hc⟩:=aj hc
  injection hc with hc
  subst hc
  rw [toV_rel h1 e1,toVL_rel h2 e2]
theorem anU {w0:Base} {H:Tr aP} {nx:Nat} (hs:R w0 σ H nx w) {b:Builtin} {args:Array Operand} {ts:Array TypeId} {ty:TypeId} {cb:Array Bool} {v:CV} (hev:yg σ E ρ args) (h:aj6 P E H b args ts ty=some v):∃u,(builtin b ts ty cb (args.map ρ)).run P w= .ok (.value u) w∧VR σ v u:=by
 obtain ⟨vs,h1,h⟩:=aj h
 have hr:=tu (ρ:=ρ) args.toList (fun x hx=> hev x (by simpa using hx)) h1
 have hr:fU σ vs (args.map ρ).toList:=by simpa using hr
 have lift:∀{s:Sem Value},(∃u,s.run P w= .ok u w∧VR σ v u)→∃u,(do pure (.value (←s)):Sem Next).run P w= .ok (.value u) w∧VR σ v u:=by
  rintro s ⟨u,h1,h2⟩
  exact ⟨u,by simp [h1],h2⟩
 have one:∀{c:CV} {t:TypeId},nth vs 0=some c→nth ts.toList 0=some t→ts[0]? =some t∧∃va,(args.map ρ)[0]? =some va∧VR σ c va:=by
  intro c t hc ht
  rw [iE] at hc ht
  obtain ⟨va,h1,h2⟩:=hr.get hc
  exact ⟨by simpa using ht,va,by simpa using h1,h2⟩
 cases b with
 | len=>
  obtain ⟨c,h2,h⟩:=aj (show ob (nth vs 0) _=some v from h)
  obtain ⟨t,h3,h⟩:=aj h
  obtain ⟨ht,va,ha,hv⟩:=one h2 h3
  exact lift (q_len hs ht ha hv h)
 | cap=>
  obtain ⟨c,h2,h⟩:=aj (show ob (nth vs 0) _=some v from h)
  obtain ⟨t,h3,h⟩:=aj h
  obtain ⟨ht,va,ha,hv⟩:=one h2 h3
  exact lift (anT ht ha hv h)
 | min=>
  obtain ⟨us,h2,h⟩:=aj (show ob (toVL vs) _=some v from h)
  obtain ⟨r,h3,h⟩:=aj h
  have:=toVL_rel hr h2
  refine lift ⟨r,?_,lX σ h⟩
  have e:args.map ρ=us.toArray:=by rw [←this]
  rw [e]
  exact oZ _ h3 w
 | max=>
  obtain ⟨us,h2,h⟩:=aj (show ob (toVL vs) _=some v from h)
  obtain ⟨r,h3,h⟩:=aj h
  have:=toVL_rel hr h2
  refine lift ⟨r,?_,lX σ h⟩
  have e:args.map ρ=us.toArray:=by rw [←this]
  rw [e]
  exact oZ _ h3 w
 | _=> cases h
theorem V4 {x:Nat}:∀{l:List Nat} {i:Nat},vg x l=some i→l[i]? =some x
 | [],_,h=> by cases h
 | y::l,i,h=> by
  have h:bG (Nat.beq x y) (some 0) (ob (vg x l) fun i=> some (Nat.succ i))=some i:=h
  cases hb:Nat.beq x y
  ·rw [hb] at h
   obtain ⟨j,h1,h2⟩:=aj (show (ob (vg x l) fun i=> some (Nat.succ i))=some i from h)
   injection h2 with h2
   subst h2
   rw [List.getElem?_cons_succ]
   exact V4 h1
  ·rw [hb] at h
   injection (show some 0=some i from h) with h
   subst h
   rw [ay hb]
   rfl
theorem P9 {x:Nat}:∀{l:List Nat},I7 l=some x→∃r,l=r ++ [x]
 | [],h=> by cases h
 | y::l,h=> by
  have h: @Option.rec Nat (fun _=> Option Nat) (some y) (fun z=> some z) (I7 l)=some x:=h
  cases hl:I7 l with
  | none=>
   rw [hl] at h
   injection (show some y=some x from h) with h
   subst h
   cases l with
   | nil=> exact ⟨[],rfl⟩
   | cons z l=>
    have hl: @Option.rec Nat (fun _=> Option Nat) (some z) (fun z=> some z) (I7 l)=none:=hl
    cases hq:I7 l with
    | none=> rw [hq] at hl;cases hl
    | some q=> rw [hq] at hl;cases hl
  | some z=>
   rw [hl] at h
   injection (show some z=some x from h) with h
   subst h
   obtain ⟨r,hr⟩:=P9 hl
   exact ⟨y::r,by rw [hr];rfl⟩
theorem KX {β:Type} {w0:Base} {H:Tr aP} {nx:Nat} (hs:R w0 σ H nx w) {c:CV} {v:Value} {f:Nat→Nat→Nat→List Nat→Nat→List (CV×CV)→List Nat→Nat→Option β} {r:β} (hv:VR σ c v) (h:afh H c f=some r):
  ∃l lc m d since seen last es bs ck ents,c= .p l 0∧σ l=some lc∧σ m=some d∧v= .pointer (some ⟨lc.blk,0,none⟩)∧H.get l=some (.it (some m) since seen last)∧lc.off=0∧w.heap[lc.blk]? =some (.mapIter (some d.blk) since seen.toArray last)∧H.get m=some (.mp es bs ck)∧
   w.heap[d.blk]? =some (.map ents ck)∧MapKept.Stamped ents ck∧ents.toList.map (·.born)=bs∧ents.size=es.length∧(∀(j:Nat) (p:CV×CV) (e:MapEntry),es[j]? =some p→ents[j]? =some e→VR σ p.1 e.key∧VR σ p.2 e.val)∧f l m since seen last es bs ck=some r:=by
 obtain ⟨l,o,rfl,h⟩:=rG h
 obtain ⟨ho,h⟩:=aC h
 have ho:=ay ho
 subst ho
 obtain ⟨b,h1,h⟩:=aj h
 cases b with
 | cl=> cases h
 | mp=> cases h
 | mu=> cases h
 | it m since seen last=>
  obtain ⟨m',h2,h⟩:=aj (show (ob m fun m=> ob (H.get m) fun b=> abz b (f l m since seen last))=some r from h)
  subst h2
  obtain ⟨b,h3,h⟩:=aj h
  cases b with
  | cl=> cases h
  | it=> cases h
  | mu=> cases h
  | mp es bs ck=>
   obtain ⟨lc,hl,rfl⟩:=hv.pv
   obtain ⟨d,k1,k2,k3⟩:=hs.blk l lc _ hl h1
   obtain ⟨ents,g1,g2,gb,g3,g4⟩:=hs.blk m' d _ k1 h3
   exact ⟨l,lc,m',d,since,seen,last,es,bs,ck,ents,rfl,hl,k1,by rw [k2],h1,k2,k3,h3,g1,g2,gb,g3,g4,h⟩
theorem afF {w0:Base} {H:Tr aP} {nx:Nat} (hs:R w0 σ H nx w) {x:Operand} {v:CV} (hev:yg σ E ρ #[x]) (h:abK E H x=some v):∃u,(Instr.entry (ρ x)).run P w= .ok u w∧VR σ v u:=by
 obtain ⟨c,h1,h⟩:=aj h
 obtain ⟨l,lc,m,d,since,seen,last,es,bs,ck,ents,rfl,hl,hm,hv,hH,hoff,hit,hM,hg,hst,hb,hsz,hrel,h⟩:=KX hs (hev x (by simp) _ h1) h
 obtain ⟨h2,h0⟩:=aC h
 clear h
 have h2:=ay h2
 subst h2
 obtain ⟨b,h3,h⟩:=aj h0
 obtain ⟨i,h4,h⟩:=aj h
 obtain ⟨p,h5,h⟩:=aj h
 injection h with h
 subst h
 obtain ⟨s0,rfl⟩:=P9 h3
 have h4:=V4 h4
 rw [iE] at h5
 rw [←hb,List.getElem?_map] at h4
 obtain ⟨e,h6,h7⟩:=Option.map_eq_some_iff.1 h4
 subst h7
 rw [Array.getElem?_toList] at h6
 have hit:w.heap[lc.blk]? =some (.mapIter (some d.blk) since (s0.toArray.push e.born) ck):=by
  rw [hit]
  simp
 obtain ⟨k1,k2⟩:=hrel i p e h5 h6
 refine ⟨_,?_,.mY (.cons k1 (.cons k2 (.nil σ)))⟩
 rw [hv]
 exact run_entry_at w lc.blk d.blk since s0.toArray ents ck e hit hg (by rw [←Array.mem_def];exact Array.mem_of_getElem? h6) hst.2.1
theorem ab7 {w0:Base} {H:Tr aP} {nx:Nat} (hs:R w0 σ H nx w) {o:Oper} {v:CV} (hev:yg σ E ρ o.op.operands) (h:exQ P E H o.type o.op=some v):∃u,(execOp ρ o).run P w= .ok (.value u) w∧VR σ v u:=by
 obtain ⟨dst,op,ty,pos,after,guard⟩:=o
 have lift:∀{s:Sem Value},(∃u,s.run P w= .ok u w∧VR σ v u)→∃u,(do pure (.value (←s)):Sem Next).run P w= .ok (.value u) w∧VR σ v u:=by
  rintro s ⟨u,h1,h2⟩
  exact ⟨u,by simp [h1],h2⟩
 cases op with
 | move x=> exact ⟨ρ x,rfl,hev x (by simp [Op.operands]) _ h⟩
 | assign x=> exact ⟨ρ x,rfl,hev x (by simp [Op.operands]) _ h⟩
 | pick c a b=> exact akm hev h
 | load t a=> exact lift (akn hs hev h)
 | fieldAddr t x i=> exact lift (afs hev h)
 | indexAddr t x i=> exact lift (aft hev h)
 | binOp op t x y yt=> exact lift (anR hev h)
 | nilCheck x=>
  obtain ⟨h1,h2⟩:=anS (σ:=σ) hev h
  refine ⟨ρ x,?_,h1⟩
  show (match ρ x with
  | .pointer none | .nilIface | .nilFunc=> runtimePanic .nilDeref
  | .func (.method name) first captured=>
   match (first[0]? :Option Value) with
   | some .nilIface=> runtimePanic .nilDeref
   | some (.iface t w)=> do
    if (←nilAhead ((←program).types.size + Made.depth) t w name) !=some false then
     unsupported (.noEntry "op/nilCheck.the method's receiver behind this interface value is a nil pointer, or cannot be seen to be none, and the arguments act or may panic (ledger 612)")
    pure (.value (.func (.method name) first captured))
   | _=> pure (.value (.func (.method name) first captured))
  | x=> pure (.value x):Sem Next).run P w=_
  rcases h2 with ⟨A,e⟩ | ⟨f,us,vs,e⟩ <;> rw [e] <;> rfl
 | extract x i=> exact lift (X9 hev h)
 | build t ps=> exact lift (afz (fun q hq=> hev q.2 (by
   simp only [Op.operands]
   simp
   exact ⟨q.1,hq⟩)) h)
 | field t x i=> exact lift (afA hev h)
 | index t x i=> exact lift (afB hev h)
 | slice t x lo hi mx=> exact lift (afD hev h)
 | unOp op t x=> exact lift (aqY hev h)
 | convert a b x=> exact lift (akp hev h)
 | makeFunc f fs cs=> exact ⟨_,rfl,akq hev h⟩
 | lookup t x i ok=> exact lift (aks hs hev h)
 | entry x=> exact lift (afF hs hev h)
 | call c=>
  obtain ⟨callee,args,ts⟩:=c
  cases callee with
  | builtin b=>
   have hev:yg σ E ρ args:=fun x hx=> hev x (by simp [Op.operands,Call.operands,hx])
   obtain ⟨u,h1,h2⟩:=anU (cb:=args.map fun | .const _=> true | _=> false) hs hev (show aj6 P E H b args ts ty=some v from h)
   exact ⟨u,h1,h2⟩
  | _=> cases h
 | _=> cases h
end
end Ci
namespace Ci
open Go.RowKit
variable [fE]
section
variable {P : Program} {σ : Nm} {E : Tr CV} {ρ : Operand → Value} {w : World}
theorem KY {cs:List CV} {vals:Array Value} (hr:fU σ cs vals.toList) (h1:∀c∈cs,iQ c=true) (T:TypeId) {k:Kd} (hk:afq T ⟨w.heap.size,0,vals.size⟩ cs.length k) {σ':Nm} (hs:Le σ σ'):fH σ' (w.alloc (.cells vals T)) ⟨w.heap.size,0,vals.size⟩ (.cl k cs):=by
 have hl:=hr.1
 refine ⟨vals,T,heap_alloc_new w _,by show cs.length≤vals.size;rw [←hl];simp,Nat.zero_add _,hk,fun j x hx=> ?_⟩
 obtain ⟨v,hv,hx2⟩:=hr.get hx
 exact ⟨v,by show vals[0 + j]? =some v;rw [Nat.zero_add];simpa using hv,hx2.mono hs,h1 x (List.mem_of_getElem? hx)⟩
theorem yT (z:List CV) (n:Nat):Aq z (n + 1)=z ++ Aq z n:=by
 show app z (Aq z n)=_
 rw [kU]
theorem xk (z:List CV):∀n,(Aq z n).length=n * z.length
 | 0=> by show ([]:List CV).length=_;simp
 | n + 1=> by rw [yT,List.length_append,xk z n,Nat.add_mul];omega
theorem Qa (z:List CV):∀(n j:Nat),j < n * z.length→(Aq z n)[j]? =z[j % z.length]?
 | 0,j,h=> by simp at h
 | n + 1,j,h=> by
  rw [yT]
  by_cases hj:j < z.length
  ·rw [List.getElem?_append_left hj,Nat.mod_eq_of_lt hj]
  ·rw [List.getElem?_append_right (by omega),Qa z n _ (by rw [Nat.add_mul] at h;omega)]
   congr 1
   rw [Nat.mod_eq_sub_mod (a:=j) (by omega)]
theorem tK {z:List CV} (h:∀c∈z,iQ c=true):∀n,∀c∈Aq z n,iQ c=true
 | 0,c,hc=> by cases hc
 | n + 1,c,hc=> by
  rw [yT] at hc
  rcases List.mem_append.1 hc with hc | hc
  ·exact h c hc
  ·exact tK h n c hc
theorem DF {z:List CV} {zs:Array Value} (h:fU σ z zs.toList) (n:Nat):fU σ (Aq z n) (madeCells zs (n * z.length)).toList:=by
 have hl:zs.size=z.length:=by have:=h.1;simpa using this
 refine ⟨by simp [size_madeCells,xk],fun j c v hc hv=> ?_⟩
 have hj:j < n * z.length:=by
  have:=(List.getElem?_eq_some_iff.1 hc).1
  rw [xk] at this
  exact this
 rw [Qa z n j hj] at hc
 have hv:(madeCells zs (n * z.length))[j]? =some v:=by simpa using hv
 simp only [madeCells,Array.getElem?_map] at hv
 rw [Array.getElem?_range] at hv
 rw [if_pos hj] at hv
 injection hv with hv
 have hm:j % z.length < z.length:=(List.getElem?_eq_some_iff.1 hc).1
 have hm':j % zs.size < zs.size:=by rw [hl];exact hm
 have hv:zs[j % zs.size]! =v:=hv
 rw [getElem!_pos zs _ hm'] at hv
 refine h.2 (j % z.length) c v hc ?_
 rw [←hv]
 simp only [hl,Array.getElem?_toList]
 rw [Array.getElem?_eq_getElem (by rw [hl];exact hm)]
def Makes (P:Program) (σ:Nm) (ρ:Operand→Value) (w:World) (o:Oper) (v:CV) (l:Nat) (b:aP):Prop:=∃(obj:Obj) (room:Nat) (x:Value),(execOp ρ o).run P w= .ok (.value x) (w.alloc obj)∧∀σ',Le σ σ'→σ' l=some ⟨w.heap.size,0,room⟩→fH σ' (w.alloc obj) ⟨w.heap.size,0,room⟩ b∧VR σ' v x
theorem ab8 {o:Oper} {l:Nat} {v:CV} {b:aP} (hev:yg σ E ρ o.op.operands) (h:exA P E o.op l=some (v,b)):Makes P σ ρ w o v l b:=by
 obtain ⟨dst,op,ty,pos,after,guard⟩:=o
 have box:∀{cs:List CV} {x:Value} {t:TypeId},fU σ cs x.cells.toList→(∀c∈cs,iQ c=true)→v= .p l 0→b= .cl (.whole t) cs→(execOp ρ ⟨dst,op,ty,pos,after,guard⟩).run P w= .ok (.value (.pointer (some ⟨w.heap.size,0,none⟩))) (w.alloc (.cells x.cells t))→Makes P σ ρ w ⟨dst,op,ty,pos,after,guard⟩ v l b:=by
  intro cs x t hr h1 hv hb hrun
  subst hv hb
  exact ⟨_,x.cells.size,_,hrun,fun σ' hs hl=> ⟨KY (k:= .whole t) hr h1 t ⟨rfl,rfl,by have:=hr.1;simpa using this⟩ hs,.p 0 hl⟩⟩
 cases op with
 | alloc t=>
  obtain ⟨cs,h1,h⟩:=aj (show ob (zK P t) _=some (v,b) from h)
  injection h with h
  injection h with h2 h3
  obtain ⟨zv,z1,z2,z3⟩:=mG h1 σ w
  refine box z2 z3 h2.symm h3.symm (t:=t) ?_
  show (do pure (.value (←Instr.alloc t true (.tuple #[]))):Sem Next).run P w=_
  simp only [Instr.alloc,Sem.run_bind,z1,Result.andThen_ok]
  rfl
 | box t x=>
  obtain ⟨c,h1,h⟩:=aj (show ob (ev E x) _=some (v,b) from h)
  obtain ⟨hn,h⟩:=aC h
  injection h with h
  injection h with h2 h3
  obtain ⟨k1,k2⟩:=(hev x (by simp [Op.operands]) c h1).cells hn
  exact box k1 k2 h2.symm h3.symm (t:=t) rfl
 | buildSlice t n ps=>
  obtain ⟨e,h1,h⟩:=aj (show ob (X7 P t) _=some (v,b) from h)
  obtain ⟨z,h2,h⟩:=aj h
  obtain ⟨z0,h3,h⟩:=aj h
  obtain ⟨vs,h4,h⟩:=aj h
  obtain ⟨h5,h⟩:=aC h
  obtain ⟨cs,h6,h⟩:=aj h
  injection h with h
  injection h with h7 h8
  subst h7 h8
  obtain ⟨k1,k2⟩:=and_true h5
  have k1:=ay k1
  have k2:=aN k2
  rw [len_eq] at k1
  obtain ⟨zv,z1,z2,z3⟩:=mG h3 σ w
  obtain ⟨p1,p2⟩:=P8 (ρ:=ρ) (σ:=σ) (fun q hq=> hev q.2 (by
   simp only [Op.operands]
   simp
   exact ⟨q.1,hq⟩)) h4
  have hr:=DF z2 n
  rw [k1] at hr
  obtain ⟨us,q1,q2,q3⟩:=tH vs _ (Aq z0 n) cs (madeCells zv.cells (n * z)) p1 p2 hr (tK z3 n) h6
  have hlen:us.size=cs.length:=by have:=q2.1;simpa using this
  refine ⟨.cells us e,us.size,.slice (some ⟨w.heap.size,0,none⟩) n n,?_,fun σ' hs hl=> ⟨KY (k:= .of e) q2 q3 e ⟨rfl,rfl⟩ hs,.sk 0 n n hl (Nat.le_refl _)⟩⟩
  have hk2:¬(n * z > 2 ^ 24):=by
   have:n * z≤16777216:=k2
   omega
  have q1:Instr.fill (fun i=> some (i * z,z)) (madeCells zv.cells (n * z)) (ps.map fun q=> (q.1,ρ q.2)).toList=some us:=q1
  show (do pure (.value (←Instr.buildSlice t n (ps.map fun q=> (q.1,ρ q.2)))):Sem Next).run P w=_
  by_cases h0:n * z=0
  ·have e1:(Array.range (n * z)).map (fun x=> (#[]:Array Value)[x % (#[]:Array Value).size]!)=madeCells zv.cells (n * z):=by
    rw [h0]
    simp [madeCells]
   simp only [Instr.buildSlice,Sem.run_bind,Sem.run_pure,run_underlying (jA h1),iO h2 w,Result.andThen_ok,if_neg hk2,if_pos h0,e1,q1]
   rfl
  ·have e1:(Array.range (n * z)).map (fun x=> zv.cells[x % zv.cells.size]!)=madeCells zv.cells (n * z):=rfl
   simp only [Instr.buildSlice,Sem.run_bind,Sem.run_pure,run_underlying (jA h1),iO h2 w,Result.andThen_ok,if_neg hk2,if_neg h0,z1,e1,q1]
   rfl
 | makeMap t r=>
  obtain ⟨hr,h⟩:=jK (show oC r _=some (v,b) from h)
  subst hr
  injection h with h
  injection h with h2 h3
  subst h2 h3
  exact ⟨.map #[] 0,0,.map (some w.heap.size),rfl,fun σ' hs hl=> ⟨⟨#[],heap_alloc_new w _,MapKept.stamped_empty 0,rfl,rfl,fun j p e hp=> by simp at hp⟩,.m hl⟩⟩
 | makeSlice t x y=>
  obtain ⟨e,h1,h⟩:=aj (show ob (X7 P t) _=some (v,b) from h)
  obtain ⟨u,h2,h⟩:=aj h
  obtain ⟨z,h3,h⟩:=aj h
  obtain ⟨z0,h4,h⟩:=aj h
  obtain ⟨cx,h5,h⟩:=aj h
  obtain ⟨cy,h6,h⟩:=aj h
  obtain ⟨kx,n,ex,ha⟩:=mX h
  obtain ⟨ky,c,ey,hb⟩:=mX ha
  obtain ⟨h7,hc⟩:=aC hb
  clear h ha hb
  subst ex
  subst ey
  injection hc with hc
  injection hc with h8 h9
  subst h8
  subst h9
  obtain ⟨k1,h7⟩:=and_true h7
  obtain ⟨k2,h7⟩:=and_true h7
  obtain ⟨k3,k4⟩:=and_true h7
  have k1:=ay k1
  have k2:=aN k2
  have k3:=aN k3
  have k4:=aN k4
  rw [len_eq] at k1
  obtain ⟨i,hi,h2⟩:=aj h2
  obtain ⟨hb,_⟩:=aC h2
  have hb:=aN hb
  obtain ⟨i',hi',h3⟩:=aj h3
  rw [hi] at hi'
  injection hi' with hi'
  subst hi'
  injection h3 with h3
  obtain ⟨i',hi',h4'⟩:=aj (show ob (P.info? e) _=some z0 from h4)
  rw [hi] at hi'
  injection hi' with hi'
  subst hi'
  obtain ⟨zv,hz,_⟩:=aj h4'
  obtain ⟨zv',z1,z2,z3⟩:=mG h4 σ w
  have hzz:zv'=zv:=by
   simp [zeroValue,typeInfo,hi,hz] at z1
   exact z1.symm
  subst hzz
  have hr:=DF z2 c
  rw [k1] at hr
  have hx:=(hev x (by simp [Op.operands]) _ h5).val
  have hy:=(hev y (by simp [Op.operands]) _ h6).val
  have hsz:(madeCells zv'.cells (c * z)).size=c * z:=size_madeCells _ _
  refine ⟨.cells (madeCells zv'.cells (c * z)) e,(madeCells zv'.cells (c * z)).size,.slice (some ⟨w.heap.size,0,none⟩) n c,?_,fun σ' hs hl=> ⟨KY (k:= .of e) hr (tK z3 c) e ⟨rfl,rfl⟩ hs,.sk 0 n c hl k2⟩⟩
  have hby:(i.bytes:Int) * (c:Int)≤281474976710656:=by
   have:i.bytes * c≤1000 * 1000000:=Nat.mul_le_mul hb k3
   have h2:((i.bytes * c:Nat):Int)≤((1000 * 1000000:Nat):Int):=Int.ofNat_le.2 this
   rw [Int.natCast_mul] at h2
   omega
  have:=run_makeSlice (P:=P) w t e i zv' (jA h1) hi hz kx ky (n:Int) (c:Int) (Int.natCast_nonneg n) (by omega) (by simp only [Int.toNat_natCast];rw [h3];exact k4) hby (by omega)
  show (do pure (.value (←Instr.makeSlice t (ρ x) (ρ y))):Sem Next).run P w=_
  rw [hx,hy,Sem.run_bind]
  have e1:(Value.int kx (Int.ofNat n))= .int kx (n:Int):=rfl
  have e2:(Value.int ky (Int.ofNat c))= .int ky (c:Int):=rfl
  rw [e1,e2,this]
  simp only [Int.toNat_natCast,h3]
  rfl
 | _=> cases h
end
end Ci
namespace Ci
open Go.RowKit
variable [fE]
theorem ab9 {a b:Value} (h:abA a b=true):a=b:=by
 unfold abA at h
 split at h
 ·rename_i k a k' b
  obtain ⟨h1,h2⟩:=and_true h
  rw [mZ h1]
  rw [rM] at h2
  rw [of_decide_eq_true h2]
 ·rw [eq_of_beq h]
 all_goals first | rfl | cases h
theorem Ya {a b:Cp} (h:abB a b=true):a=b:=by
 cases a <;> cases b <;> first | (rw [ay h];done) | (obtain ⟨h1,h2⟩:=and_true h;rw [ay h1,ay h2];done) | cases h
theorem Qb {a b:CV} (h:VL a b=true):a=b:=by
 unfold VL at h
 split at h
 ·rw [ab9 h]
 ·rw [ay h]
 ·rw [KR h]
 ·obtain ⟨h1,h2⟩:=and_true h
  rw [ay h1,ay h2]
 ·obtain ⟨h1,h2⟩:=and_true h
  obtain ⟨h2,h3⟩:=and_true h2
  obtain ⟨h3,h4⟩:=and_true h3
  rw [ay h1,ay h2,ay h3,Ya h4]
 ·rw [ay h]
 ·rw [ay h]
 ·cases h
theorem o7:∀{a b:List CV},Dk a b=true→a=b
 | [],[],_=> rfl
 | x::l,y::r,h=> by
  obtain ⟨h1,h2⟩:=and_true h
  rw [Qb h1,o7 h2]
 | [],_::_,h=> by cases h
 | _::_,[],h=> by cases h
theorem same_eq {a b:CV} (h:same a b=true):a=b:=by
 unfold same at h
 split at h
 ·rw [o7 h]
 ·rw [o7 h]
 ·exact Qb h
theorem Qc {σ:Nm} {a b:CV} {x y:Value} (ha:VR σ a x) (hb:VR σ b y) (h:I5 a b=true):x≠y:=by
 unfold I5 at h
 split at h
 ·rename_i k m k' n
  rw [ha.val,hb.val]
  intro e
  injection e with e1 e2
  subst e1 e2
  have:ieq m m=true:=by rw [rM];exact decide_eq_true rfl
  have hk:KC k k=true:=by cases k <;> rfl
  simp [this,hk] at h
 ·rename_i m n
  rw [ha.val,hb.val]
  intro e
  injection e with e1
  subst e1
  simp at h
 ·rename_i m n
  cases ha with
  | t _ hm=>
   cases hb with
   | t _ hn=>
    intro e
    injection e with e
    injection e with e
    have e:=congrArg Array.toList e
    have:=map_inj hm hn (by simpa using e)
    subst this
    simp [yS] at h
 ·cases h
theorem Qd {σ:Nm}:∀{a b:List CV} {x y:List Value},fU σ a x→fU σ b y→VN a b=true→x≠y
 | p::l,q::r,x,y,ha,hb,h=> by
  obtain ⟨v,vs,rfl,a1,a2⟩:=ha.cons_inv
  obtain ⟨u,us,rfl,b1,b2⟩:=hb.cons_inv
  have h:(I5 p q || VN l r)=true:=h
  intro e
  injection e with e1 e2
  cases hd:I5 p q
  ·rw [hd] at h
   exact Qd a2 b2 h e2
  ·exact Qc a1 b1 hd e1
 | [],[],_,_,_,_,h=> by cases h
 | [],_::_,_,_,_,_,h=> by cases h
 | _::_,[],_,_,_,_,h=> by cases h
theorem afG {σ:Nm} {a b:CV} {x y:Value} (ha:VR σ a x) (hb:VR σ b y) (h:dist a b=true):x≠y:=by
 unfold dist at h
 split at h
 ·obtain ⟨vs,rfl,a1,_⟩:=ha.Dw
  obtain ⟨us,rfl,b1,_⟩:=hb.Dw
  intro e
  injection e with e
  exact Qd a1 b1 h (by rw [e])
 ·exact Qc ha hb h
theorem Qe {α:Type} (x:α):∀(i:Nat) (l:List α),setAt x i l=l.set i x
 | 0,[]=> rfl
 | 0,_::_=> rfl
 | _ + 1,[]=> rfl
 | i + 1,y::l=> by
  show y::setAt x i l=_
  rw [Qe x i l]
  rfl
section
variable {P : Program} {σ : Nm} {E : Tr CV} {ρ : Operand → Value} {w : World} {w0 : Base} {H : Tr aP} {nx : Nat}
def After (w0:Base) (σ:Nm) (nx:Nat) (v:CV) (H':Tr aP) (nx':Nat) (x:Value) (w':World):Prop:=∃σ',Le σ σ'∧(∀l,l < nx→σ' l=σ l)∧R w0 σ' H' nx' w'∧nx≤nx'∧VR σ' v x
theorem After.same {v:CV} {H':Tr aP} {x:Value} {w':World} (h:R w0 σ H' nx w') (hv:VR σ v x):After w0 σ nx v H' nx x w':=⟨σ,.refl σ,fun _ _=> rfl,h,Nat.le_refl _,hv⟩
theorem oJ {g q t:Nat} {cur:Array Value} {tt:TypeId} {x:Value} (hg:w.heap[g]? =some (.cells cur tt (0,0))) (hl:q + x.cells.size≤cur.size) (h1:∀u∈x.cells.toList,u.oneCell'=true) (hz:(sizeOf t).run P w= .ok x.cells.size w):
  (Instr.storeAt t (.pointer (some ⟨g,q,none⟩)) x).run P w= .ok () (w.setRow g (over cur.toList q x.cells.toList).toArray):=by
 have hst:=run_storeCells_at P g q tt x.cells.toList 0 cur w hg (by simpa using hl) h1
 simp only [Nat.add_zero] at hst
 simp [Instr.storeAt,Instr.sureAddr,storeVar,hz,hst,over]
theorem setRow_size (w:World) (g:Nat) (cs:Array Value):(w.setRow g cs).heap.size=w.heap.size:=by simp [World.setRow]
theorem afH {σ:Nm} {w':World} {c:Loc} {k:Kd} {cs ns:List CV} {us:List Value} {vals:Array Value} {T:TypeId} {o:Nat} (h2:cs.length≤c.room) (h3:c.off + c.room=vals.size) (hk:afq T c cs.length k) (h4:∀(j:Nat) (x:CV),cs[j]? =some x→∃v,vals[c.off + j]? =some v∧VR σ x v∧iQ x=true)
  (hr:fU σ ns us) (h1:∀x∈ns,iQ x=true) (ho:o + ns.length≤cs.length) (hh:w'.heap[c.blk]? =some (.cells (over vals.toList (c.off + o) us).toArray T (0,0))):fH σ w' c (.cl k (over cs o ns)):=by
 have hl:=hr.1
 have hov:(c.off + o) + us.length≤vals.toList.length:=by rw [hl];simp;omega
 refine ⟨_,T,hh,by rw [dX _ _ _ ho];exact h2,by rw [List.size_toArray,dX _ _ _ hov];simpa using h3,by rw [dX _ _ _ ho];exact hk,fun j x hx=> ?_⟩
 rw [iV _ _ _ ho] at hx
 have hg:∀j,((over vals.toList (c.off + o) us).toArray)[c.off + j]? =if c.off + j < c.off + o then vals[c.off + j]? else if c.off + j < c.off + o + us.length then us[c.off + j - (c.off + o)]? else vals[c.off + j]? :=by
  intro j
  rw [List.getElem?_toArray,iV _ _ _ hov]
  simp
 rw [hg]
 by_cases a1:j < o
 ·rw [if_pos a1] at hx
  rw [if_pos (by omega)]
  exact h4 j x hx
 ·rw [if_neg a1] at hx
  rw [if_neg (by omega)]
  by_cases a2:j < o + ns.length
  ·rw [if_pos a2] at hx
   rw [if_pos (by omega)]
   obtain ⟨u,b1,b2⟩:=hr.get hx
   refine ⟨u,?_,b2,h1 x (List.mem_of_getElem? hx)⟩
   have:c.off + j - (c.off + o)=j - o:=by omega
   rw [this]
   exact b1
  ·rw [if_neg a2] at hx
   rw [if_neg (by omega)]
   exact h4 j x hx
theorem Qg {l:Nat} {k:Kd} {cs0:List CV} (h:H.get l=some (.cl k cs0)) (cs:List CV):I8 H l cs=H.put l (.cl k cs):=by
 unfold I8
 rw [h]
theorem KZ {l:Nat} {k:Kd} {cs0:List CV} (h:H.get l=some (.cl k cs0)):kOf H l=k:=by
 unfold kOf
 rw [h]
theorem xq (hs:R w0 σ H nx w) {l o:Nat} {c:Loc} {k:Kd} {cs ns:List CV} {us:List Value} {vals:Array Value} {T:TypeId} (hl:σ l=some c) (hH:H.get l=some (.cl k cs)) (hg:w.heap[c.blk]? =some (.cells vals T (0,0))) (hr:fU σ ns us) (h1:∀x∈ns,iQ x=true) (ho:o + ns.length≤cs.length):
  R w0 σ (I8 H l (wrt ns o cs)) nx (w.setRow c.blk (over vals.toList (c.off + o) us).toArray):=by
 obtain ⟨vals',T',g1,g2,g3,gk,g4⟩:=hs.blk l c _ hl hH
 rw [hg] at g1
 injection g1 with g1
 injection g1 with e1 e2
 subst e1 e2
 rw [KL _ _ _ ho,Qg hH]
 exact hs.upd hl hH rfl rfl rfl (setRow_size _ _ _) (fun k hk=> setRow_other _ _ _ _ hk) (afH g2 g3 gk g4 hr h1 ho (setRow_heap _ _ vals _ T _ hg))
theorem ji {l:Nat} {cs:List CV} (h:cellsOf H l=some cs):∃k,H.get l=some (.cl k cs):=by
 obtain ⟨b,h1,h2⟩:=aj h
 cases b with
 | mp es=> cases h2
 | it=> cases h2
 | mu=> cases h2
 | cl k xs=>
  injection h2 with h2
  subst h2
  exact ⟨k,h1⟩
theorem bU {v v':CV} {h h':Tr aP} {n n':Nat} (e:dG.ok v h n= .ok v' h' n'):v=v'∧h=h'∧n=n':=by
 injection e with e1 e2 e3
 exact ⟨e1,e2,e3⟩
theorem ig {b:Bool} {x:dG} {v:CV} {h':Tr aP} {n':Nat} (h:bG b x .no= .ok v h' n'):b=true∧x= .ok v h' n':=by
 cases b
 ·cases h
 ·exact ⟨rfl,h⟩
theorem afI (hs:R w0 σ H nx w) {t:TypeId} {a x:Operand} {v:CV} {H':Tr aP} {nx':Nat} (hev:yg σ E ρ #[a,x]) (h:abM P E H nx t a x= .ok v H' nx'):∃w',(Instr.storeAt t (ρ a) (ρ x)).run P w= .ok () w'∧After w0 σ nx v H' nx' undef w':=by
 obtain ⟨H1,h1,h2⟩:=fA h
 obtain ⟨rfl,rfl,rfl⟩:=bU h2
 obtain ⟨p,h3,h4⟩:=aj h1
 obtain ⟨l,o,rfl,h5⟩:=rG h4
 obtain ⟨y,h6,h7⟩:=aj h5
 obtain ⟨z,h8,h9⟩:=aj h7
 obtain ⟨cs,h10,h11⟩:=aj h9
 obtain ⟨h12,h13⟩:=aC h11
 injection h13 with h13
 obtain ⟨k1,k2⟩:=and_true h12
 obtain ⟨k2,k3⟩:=and_true k2
 have k2:=ay k2
 rw [len_eq] at k2 k3
 have k3:o + z≤cs.length:=aN k3
 obtain ⟨c,hc,ha⟩:=(hev a (by simp) _ h3).pv
 obtain ⟨r1,r2⟩:=(hev x (by simp) _ h6).cells k1
 obtain ⟨kd,hH⟩:=ji h10
 obtain ⟨vals,T,g1,g2,g3,_,g4⟩:=hs.blk l c _ hc hH
 have hsz:(ρ x).cells.size=z:=by have:=r1.1;simp at this;omega
 rw [ha]
 refine ⟨_,oJ g1 (by rw [hsz];omega) (r1.ones r2) (by rw [hsz];exact iO h8 w),?_⟩
 rw [←h13]
 exact .same (xq hs hc hH g1 r1 r2 (by rw [k2];omega)) (.unit σ)
theorem aip (hs:R w0 σ H nx w) {t:TypeId} {m k x:Operand} {v:CV} {H':Tr aP} {nx':Nat} (hev:yg σ E ρ #[m,k,x]) (h:akb P E H nx t m k x= .ok v H' nx'):∃w',(Instr.mapUpdate t (ρ m) (ρ k) (ρ x)).run P w= .ok () w'∧After w0 σ nx v H' nx' undef w':=by
 obtain ⟨H1,h1,h2⟩:=fA h
 obtain ⟨rfl,rfl,rfl⟩:=bU h2
 obtain ⟨kt,et,hu,h3⟩:=wV h1
 obtain ⟨p,h4,h5⟩:=aj h3
 obtain ⟨l,rfl,h6⟩:=wS h5
 obtain ⟨i,h7,h8⟩:=aj h6
 obtain ⟨y,h9,h10⟩:=aj h8
 obtain ⟨b0,h11,h12⟩:=aj h10
 rcases (show (∃es,b0= .mu es∧(ob (aff P kt) fun _=> isI i fun n=> fP (kD (hits n es)) (some (H.put l (.mu ((n,y)::es)))))=some H1)∨(∃es bs ck,b0= .mp es bs ck∧(ob (KF P kt i y es) fun es'=> some (H.put l (Tm es es' bs ck)))=some H1) from by
  cases b0 with
  | cl=> cases h12
  | it=> cases h12
  | mu es=> exact .inl ⟨es,rfl,h12⟩
  | mp es bs ck=> exact .inr ⟨es,bs,ck,rfl,h12⟩) with ⟨es,rfl,h12⟩ | ⟨es,bs,ck,rfl,h12⟩
 ·obtain ⟨q,a1,a2⟩:=aj h12
  obtain ⟨n,rfl,a3⟩:=xg a2
  obtain ⟨a4,a5⟩:=aC a3
  injection a5 with a5
  have hk:P.underlying kt=some (.int .i64):=by
   obtain ⟨d,k1,k2⟩:=aj a1
   cases d with
   | int k=>
    obtain ⟨k3,_⟩:=aC (show fP (KC k .i64) (some 0)=some q from k2)
    rw [←mZ k3]
    exact k1
   | _=> cases k2
  have hi:=hev k (by simp) _ h7
  have hx:=hev x (by simp) _ h9
  have hvi:=hi.val
  obtain ⟨lc,hl,hmv⟩:∃lc,σ l=some lc∧ρ m= .map (some lc.blk):=by
   have hm:=hev m (by simp) _ h4
   revert hm
   generalize ρ m=vm
   intro hm
   cases hm with
   | m hl=> exact ⟨_,hl,rfl⟩
  obtain ⟨ents,ck,g1,g2,g3,g4⟩:=hs.blk l lc _ hl h11
  have hck:(Instr.checkKey false 10000 kt (ρ k)).run P w= .ok () w:=MapKept.run_checkKey (w:=w) (k:=ρ k) hk (by rw [hvi];exact rfl) false 9999
  obtain ⟨_,hh⟩:=AU n es
  have hno:∀e∈ents.toList,e.key≠ .int .i64 n:=by
   intro e he hn
   obtain ⟨p,p1,p2,_⟩:=g3 e he
   rw [hn] at p2
   injection p2 with _ p2
   have:=(AU n es).1 p p1 p2.symm
   cases hq:hits n es with
   | nil=> rw [hq] at this;cases this
   | cons c r=> rw [hq] at a4;cases a4
  rcases rO n ents.toList 0 (fun e he=> let ⟨p,_,h,_⟩:=g3 e he;⟨p.1,h⟩) with ⟨f1,f2⟩ | ⟨j,vv,f1,e',he',f2,f3⟩
  ·have hfk:=MapKept.run_findKey (w:=w) hk f1
   rw [←hvi] at hfk
   have hset:=MapKept.heap_set (o':= .map (ents.push ⟨ρ k,ρ x,ck⟩) (ck + 1)) g1
   refine ⟨{w with heap:=w.heap.setIfInBounds lc.blk (.map (ents.push ⟨ρ k,ρ x,ck⟩) (ck + 1))},?_,?_⟩
   ·rw [hmv]
    simp [Instr.mapUpdate,run_underlying hu,MapKept.run_getObj_map g1,hck,hfk,MapKept.run_setObj_map _ g1,Result.andThen]
   ·rw [←a5]
    refine .same (hs.upd hl h11 rfl rfl rfl (by simp) hset.2 ⟨ents.push ⟨ρ k,ρ x,ck⟩,ck + 1,hset.1,MapKept.stamped_push g2 (by rw [hvi];exact hno),fun e he=> ?_,fun p hp=> ?_⟩) (.unit σ)
    ·rw [Array.toList_push] at he
     rcases List.mem_append.1 he with he | he
     ·obtain ⟨p,p1,p2⟩:=g3 e he
      exact ⟨p,List.mem_cons_of_mem _ p1,p2⟩
     ·rw [List.mem_singleton.1 he]
      exact ⟨(n,y),List.mem_cons_self ..,hvi,hx⟩
    ·rw [Array.toList_push]
     rcases List.mem_cons.1 hp with rfl | hp
     ·exact ⟨_,List.mem_append.2 (.inr (List.mem_singleton.2 rfl)),hvi⟩
     ·obtain ⟨e,e1,e2⟩:=g4 p hp
      exact ⟨e,List.mem_append.2 (.inl e1),e2⟩
  ·exact absurd f2 (hno e' he')
 obtain ⟨es',h13,La⟩:=aj h12
 injection La with La
 have hma:mapOf H (.m l)=some es:=by
  show ob (H.get l) _=_
  rw [h11]
 have hm:=hev m (by simp) _ h4
 have hk:=hev k (by simp) _ h7
 have hx:=hev x (by simp) _ h9
 rcases DC hs hm hma with ⟨e1,_⟩ | ⟨l',lc,ents,bs',clock,e1,hl,hH,hmv,hg,hst,hbo,hsz,hrel⟩
 ·exact absurd hm (by rw [e1];intro e;cases e)
 ·injection e1 with e1
  subst e1
  rw [h11] at hH
  injection hH with hH
  injection hH with _ eb1 eb2
  subst eb1 eb2
  have hH:=h11
  obtain ⟨r,h15,h16⟩:=aj h13
  obtain ⟨f1,r',f2,f3,f4⟩:=Dz (ents:=ents.toList) hk (by simpa using hsz) (fun j p e hp he=> (hrel j p e hp (by simpa using he)).1) h15 w
  have fin:∀(lN:Array MapEntry) (clock':Nat) (bs':List Nat),Tm es es' bs ck= .mp es' bs' clock'→lN.toList.map (·.born)=bs'→(Instr.mapUpdate t (.map (some lc.blk)) (ρ k) (ρ x)).run P w= .ok () {w with heap:=w.heap.setIfInBounds lc.blk (.map lN clock')}→MapKept.Stamped lN clock'→lN.size=es'.length→
    (∀(j:Nat) (p:CV×CV) (e:MapEntry),es'[j]? =some p→lN[j]? =some e→VR σ p.1 e.key∧VR σ p.2 e.val)→∃w',(Instr.mapUpdate t (ρ m) (ρ k) (ρ x)).run P w= .ok () w'∧After w0 σ nx (.bH []) H1 nx undef w':=by
   intro lN clock' bs' hpb aqZ hrun hst' hsz' anV
   rw [hmv,←La,hpb]
   have hset:=MapKept.heap_set (o':= .map lN clock') hg
   exact ⟨_,hrun,.same (hs.upd hl hH rfl rfl rfl (by simp) hset.2 ⟨lN,hset.1,hst',aqZ,hsz',anV⟩) (.unit σ)⟩
  cases r with
  | none=>
   obtain ⟨h17,h18⟩:=aC (show fP (AO i es) _=some es' from h16)
   injection h18 with h18
   rw [kU] at h18
   subst h18
   have hr':r'=none:=by
    cases r' with
    | none=> rfl
    | some q=> cases f3
   subst hr'
   have hne:∀e∈ents.toList,e.key≠ρ k:=by
    have hall:∀(l:List (CV×CV)),AO i l=true→∀p∈l,dist p.1 i=true:=by
     intro l
     induction l with
     | nil=> intro _ p hp;cases hp
     | cons q l ih=>
      intro hq p hp
      have hq:bG (dist q.1 i) (AO i l) false=true:=hq
      cases hd:dist q.1 i
      ·rw [hd] at hq;cases hq
      ·rw [hd] at hq
       rcases List.mem_cons.1 hp with rfl | hp
       ·exact hd
       ·exact ih hq p hp
    intro e he
    obtain ⟨j,hj,rfl⟩:=List.getElem_of_mem he
    have hj':j < es.length:=by rw [←hsz];simpa using hj
    exact afG (hrel j es[j] _ (List.getElem?_eq_getElem hj') (by simp at hj;simp [hj])).1 hk (hall es h17 _ (List.getElem_mem hj'))
   have hpb:Tm es (es ++ [(i,y)]) bs ck= .mp (es ++ [(i,y)]) (bs ++ [ck]) (ck + 1):=by
    unfold Tm
    rw [len_eq,len_eq,kU]
    have:Nat.beq (es ++ [(i,y)]).length es.length=false:=by
     cases hq:Nat.beq (es ++ [(i,y)]).length es.length
     ·rfl
     ·have:=ay hq
      simp at this
    rw [this]
   refine fin (ents.push ⟨ρ k,ρ x,ck⟩) (ck + 1) (bs ++ [ck]) hpb (by simp [hbo]) ?_ (MapKept.stamped_push hst hne) (by simp [hsz]) fun j p e hp he=> ?_
   ·simp [Instr.mapUpdate,run_underlying hu,MapKept.run_getObj_map hg,f1,f2,MapKept.run_setObj_map _ hg,Result.andThen]
   ·rw [List.getElem?_append] at hp
    rw [Array.getElem?_push] at he
    split at hp
    ·rename_i hlt
     rw [if_neg (by rw [hsz];omega)] at he
     exact hrel j p e hp he
    ·rename_i hge
     by_cases hj:j=es.length
     ·subst hj
      rw [if_pos hsz.symm] at he
      simp at hp he
      subst hp he
      exact ⟨hk,hx⟩
     ·rw [List.getElem?_eq_none (by simp;omega)] at hp
      cases hp
  | some q=>
   obtain ⟨old,h17,h18⟩:=aj (show ob (nth es q.1) _=some es' from h16)
   obtain ⟨a,h19,h20⟩:=aj h18
   obtain ⟨b,h21,h22⟩:=aj h20
   obtain ⟨h23,h24⟩:=aC h22
   obtain ⟨h25,h26⟩:=and_true h23
   injection h24 with h24
   rw [iE] at h17
   have hlt:q.1 < es.length:=(List.getElem?_eq_some_iff.1 h17).1
   have hlt':q.1 < ents.size:=by rw [hsz];exact hlt
   have hent:ents[q.1]? =some ents[q.1]:=Array.getElem?_eq_getElem hlt'
   obtain ⟨aq0,_⟩:=hrel q.1 old _ h17 hent
   have ea:=toV_rel aq0 h19
   have eb:=toV_rel hk h21
   have hkey:ents[q.1].key=ρ k:=by
    rw [same_eq h25,h21] at h19
    injection h19 with h19
    rw [ea,eb,h19]
   cases r' with
   | none=> cases f3
   | some q'=>
    obtain ⟨j,vv⟩:=q'
    have hj:j=q.1:=by simpa using f3
    subst hj
    have hset:setAt (i,y) q.1 es=es.set q.1 (i,y):=Qe _ _ _
    rw [hset] at h24
    subst h24
    have hpb:Tm es (es.set q.1 (i,y)) bs ck= .mp (es.set q.1 (i,y)) bs ck:=by
     unfold Tm
     rw [len_eq,len_eq,List.length_set]
     have:Nat.beq es.length es.length=true:=by simp
     rw [this]
    refine fin (ents.modify q.1 fun e=> {e with key:=ρ k,val:=ρ x}) ck bs hpb (by
     rw [←hbo,Array.toList_modify]
     apply List.ext_getElem?
     intro z
     rw [List.getElem?_map,List.getElem?_modify,List.getElem?_map]
     cases ents.toList[z]? with
     | none=> rfl
     | some ez=> by_cases hz:q.1=z <;> simp [hz]) ?_ (MapKept.stamped_modify hst q.1 _ (fun _ _=> rfl) fun e' _ he'=> by rw [hent] at he';injection he' with he';subst he';exact hkey.symm) (by simp [hsz]) fun j' p' e' hp he'=> ?_
    ·have anW:(Instr.keyThatStays ents[q.1].key (ρ k)).run P w= .ok (ρ k) w:=by
      rw [hkey]
      have:Instr.sameBits 10000 (ρ k) (ρ k)=true:=by
       rw [←ea,←eb,hkey] at h26
       exact h26
      simp [Instr.keyThatStays,this]
     simp [Instr.mapUpdate,run_underlying hu,MapKept.run_getObj_map hg,f1,f2,hent,anW,MapKept.run_setObj_map _ hg,Result.andThen]
    ·rw [Array.getElem?_modify] at he'
     by_cases hjj:q.1=j'
     ·subst hjj
      rw [if_pos rfl,hent] at he'
      rw [List.getElem?_set_self hlt] at hp
      simp at hp he'
      subst hp he'
      exact ⟨hk,hx⟩
     ·rw [if_neg hjj] at he'
      rw [List.getElem?_set_ne hjj] at hp
      exact hrel j' p' e' hp he'
theorem afJ (hs:R w0 σ H nx w) {z k:Nat} {b:CV} {vb:Value} {new:List CV} (hv:VR σ b vb) (h:abL H z b=some (k,new)):
  (k=0∧∃A c,vb= .slice A 0 c)∨(0 < k∧∃(g q c:Nat) (news:List Value),vb= .slice (some ⟨g,q,none⟩) k c∧fU σ new news∧(∀x∈new,iQ x=true)∧new.length=k * z∧∀(j:Nat) (u:Value),news[j]? =some u→w.cell? ((⟨g,q,none⟩:Addr).add j)=some u):=by
 unfold abL at h
 split at h
 ·rename_i y
  obtain ⟨h1,h2⟩:=aC h
  injection h2 with h2
  injection h2 with h3 h4
  left
  rw [hv.val,mJ h1]
  exact ⟨h3.symm,_,_,rfl⟩
 ·rename_i l o n c
  obtain ⟨lc,hl,A,cap,e1,e2,e3,_,_⟩:=hv.sv
  cases hn:Nat.beq n 0
  ·rw [hn] at h
   obtain ⟨cs,h1,h2⟩:=aj (show ob (ql H l o) _=some (k,new) from h)
   obtain ⟨h3,h4⟩:=aC h2
   injection h4 with h4
   injection h4 with h5 h6
   subst h5
   have hpos:0 < n:=Nat.pos_of_ne_zero fun e=> by rw [e] at hn;cases hn
   have h3:n * z≤len cs:=aN h3
   rw [len_eq] at h3
   rw [kF] at h6
   have h6:cs.take (n * z)=new:=h6
   subst h6
   obtain ⟨all,vals,T,vs,g1,g2,g3,g4,g5,g6,g7,g8⟩:=hs.cells hl h1
   rcases e3 with e3 | ⟨e3,_⟩
   ·subst e3
    refine Or.inr ⟨hpos,lc.blk,lc.off + o,cap,vs.take (n * z),e1,g6.take _,fun x hx=> g7 x (List.mem_of_mem_take hx),by simp;omega,fun j u hu=> ?_⟩
    rw [List.getElem?_take] at hu
    split at hu
    ·rw [add_eq,Nat.add_assoc]
     exact g8 j u hu
    ·cases hu
   ·omega
  ·rw [hn] at h
   injection (show some (0,[])=some (k,new) from h) with h
   injection h with h1 h2
   have hn:=ay hn
   subst hn
   exact Or.inl ⟨h1.symm,some A,cap,e1⟩
 ·cases h
theorem Lc {t e ty:TypeId} {it:TypeInfo} {z:Value} (w:World) (hu:P.underlying t=some (.slice e)) (hi:P.info? e=some it) (hz:it.zero=some z) {base:Option Addr} {n cap:Nat} {olds:List Value} (hlo:olds.length=n * it.size)
  (hbase:base=none→n=0∧cap=0) (holds:∀b,base=some b→∀(j:Nat) (u:Value),olds[j]? =some u→w.cell? (b.add j)=some u) {ad:Addr} {k c:Nat} {news:List Value} (hl:news.length=k * it.size)
  (hnews:∀(j:Nat) (u:Value),news[j]? =some u→w.cell? (ad.add j)=some u) (hg:cap < n + k) (hk:0 < k) (hby:(n + k) * it.bytes≤1000000000) (hn63:n + k≤9223372036854775807):
  (Builtin.append_ #[t,t] ty #[.slice base n cap,.slice (some ad) k c]).run P w=
   .ok (.slice (some ⟨w.heap.size,0,none⟩) (n + k) (grownCap w (n + k) cap e)) (w.drew.alloc (.cells (olds.toArray ++ news.toArray ++ Builtin.zeroCells z.cells (grownCap w (n + k) cap e - (n + k))) e)):=by
 cases base with
 | none=>
  obtain ⟨rfl,rfl⟩:=hbase rfl
  have ho:olds= []:=List.eq_nil_of_length_eq_zero (by simpa using hlo)
  subst ho
  have:=run_append_nil (P:=P) w t ty e it z hu hi hz ad k c news hl hnews hk (by omega) (by simp only [Nat.zero_add] at hby;omega)
  simpa using this
 | some b=> exact run_append_grow (P:=P) w t ty e it z hu hi hz b n cap olds hlo (holds b rfl) ad k c news hl hnews hg (by omega) (growslice_fits hg (by omega))
theorem Ld {t e ty:TypeId} {it:TypeInfo} (w:World) (hu:P.underlying t=some (.slice e)) (hi:P.info? e=some it) (base A':Option Addr) (n cap c:Nat) (h:n≤cap):
  (Builtin.append_ #[t,t] ty #[.slice base n cap,.slice A' 0 c]).run P w= .ok (.slice base n cap) w:=by
 cases A' <;> cases base <;> simp [Builtin.append_,run_underlying hu,sizeOf,typeInfo,hi,Builtin.lenOf,h,Builtin.firstCells,loadCells,loadCellsFrom,storeCells]
theorem Lh {t e ty tt:TypeId} {it:TypeInfo} (w:World) (hu:P.underlying t=some (.slice e)) (hi:P.info? e=some it) {g q n cap:Nat} {cur:Array Value} (hg:w.heap[g]? =some (.cells cur tt (0,0)))
  {ad:Addr} {k c:Nat} {news:List Value} (hl:news.length=k * it.size) (hnews:∀(j:Nat) (u:Value),news[j]? =some u→w.cell? (ad.add j)=some u) (h1:∀u∈news,u.oneCell'=true) (hroom:n + k≤cap) (hfit:q + n * it.size + news.length≤cur.size):
  (Builtin.append_ #[t,t] ty #[.slice (some ⟨g,q,none⟩) n cap,.slice (some ad) k c]).run P w= .ok (.slice (some ⟨g,q,none⟩) (n + k) cap) (w.setRow g (over cur.toList (q + n * it.size) news).toArray):=by
 have hf:=run_firstCells_some (P:=P) w it.size k ad k c news hl hnews
 have hst:=run_storeCells_at P g (q + n * it.size) tt news 0 cur w hg (by simpa using hfit) h1
 simp only [Nat.add_zero] at hst
 simp [Builtin.append_,run_underlying hu,sizeOf,typeInfo,hi,Builtin.lenOf,hroom,hf,Addr.add_lit,hst,over]
theorem R.none (hs:R w0 σ H nx w):σ nx=none:=by
 cases h:σ nx with
 | none=> rfl
 | some c=> exact absurd (hs.fresh nx c h) (Nat.lt_irrefl _)
theorem V5 (hs:R w0 σ H nx w) {H1:Tr aP} (hH:∀j,H1.get j=H.get j∨H1.get j=none) {ocs ncs:List CV} {olds news:List Value} {e:TypeId} {kd:Kd} (hkd:kd= .any∨kd= .of e) {zv:Value} {z n gc:Nat} (ho:fU σ ocs olds) (ho1:∀x∈ocs,iQ x=true) (hn:fU σ ncs news) (hn1:∀x∈ncs,iQ x=true)
  (hz:zv.cells.size=z) (hl:ocs.length + ncs.length=n * z) (hge:n≤gc) (hgm:gc≤maxLen):
  After w0 σ nx (.s nx 0 n (.op z n)) (H1.put nx (.cl kd (ocs ++ ncs))) (nx + 1) (.slice (some ⟨w.heap.size,0,none⟩) n gc) (w.drew.alloc (.cells (olds.toArray ++ news.toArray ++ Builtin.zeroCells zv.cells (gc - n)) e)):=by
 generalize V6:olds.toArray ++ news.toArray ++ Builtin.zeroCells zv.cells (gc - n)=vals
 have hon:=ho.append hn
 have hsz:vals.size=gc * z:=by
  rw [←V6]
  simp only [Array.size_append,List.size_toArray,size_zeroCells,hz,ho.1,hn.1,hl,←Nat.add_mul]
  congr 1
  omega
 have hs1:=(hs.heap (Nat.le_refl nx) fun l c _=> hH l).drew
 have hno:=hs.none
 have hlen:(ocs ++ ncs).length=n * z:=by rw [List.length_append,hl]
 have hroom:n * z≤gc * z:=Nat.mul_le_mul_right _ hge
 have hr:=hs1.new (H':=H1.put nx (.cl kd (ocs ++ ncs))) (nx':=nx + 1) (l:=nx) (room:=vals.size) (b:= .cl kd (ocs ++ ncs)) hno (Nat.lt_succ_self _) (Nat.le_succ _) (dR _ _ _) (fun j hj=> dK _ _ hj) (.cells vals e)
  ⟨vals,e,heap_alloc_new w.drew _,by rw [hlen,hsz];exact hroom,Nat.zero_add _,(by rcases hkd with h | h <;> rw [h] <;> first | exact trivial | exact ⟨rfl,rfl⟩),fun j x hx=> by
   obtain ⟨u,h1,h2⟩:=hon.get hx
   refine ⟨u,?_,h2.mono (jg _ hno),?_⟩
   ·rw [Nat.zero_add,←V6,←Array.getElem?_toList]
    simp only [Array.toList_append]
    rw [List.getElem?_append_left (by
     have:=(List.getElem?_eq_some_iff.1 h1).1
     simpa using this)]
    exact h1
   ·rcases List.mem_append.1 (List.mem_of_getElem? hx) with h | h
    ·exact ho1 x h
    ·exact hn1 x h⟩
 refine ⟨_,jg _ hno,fun l hl=> lu σ _ (Nat.ne_of_lt hl),hr,Nat.le_succ _,?_⟩
 exact .so 0 n z n gc (jS _ _ _) hge hge (by rw [Nat.zero_add];show gc * z≤vals.size;rw [hsz];exact Nat.le_refl _) hgm
def V7 (P:Program) (σ:Nm) (w:World) (t u ty e:TypeId) (it:TypeInfo) (zv:Value) (k:Nat) (new:List CV) (vb:Value):Prop:=
 (k=0∧∀base n cap,n≤cap→(Builtin.append_ #[t,u] ty #[.slice base n cap,vb]).run P w= .ok (.slice base n cap) w)∨
 (0 < k∧∃news:List Value,fU σ new news∧(∀x∈new,iQ x=true)∧new.length=k * it.size∧
  (∀(base:Option Addr) (n cap:Nat) (olds:List Value),olds.length=n * it.size→(base=none→n=0∧cap=0)→(∀b,base=some b→∀(j:Nat) (u:Value),olds[j]? =some u→w.cell? (b.add j)=some u)→cap < n + k→(n + k) * it.bytes≤1000000000→n + k≤9223372036854775807→
   (Builtin.append_ #[t,u] ty #[.slice base n cap,vb]).run P w= .ok (.slice (some ⟨w.heap.size,0,none⟩) (n + k) (grownCap w (n + k) cap e)) (w.drew.alloc (.cells (olds.toArray ++ news.toArray ++ Builtin.zeroCells zv.cells (grownCap w (n + k) cap e - (n + k))) e)))∧
  ∀(g q n cap:Nat) (cur:Array Value) (tt:TypeId),w.heap[g]? =some (.cells cur tt (0,0))→n + k≤cap→q + n * it.size + news.length≤cur.size→
   (Builtin.append_ #[t,u] ty #[.slice (some ⟨g,q,none⟩) n cap,vb]).run P w= .ok (.slice (some ⟨g,q,none⟩) (n + k) cap) (w.setRow g (over cur.toList (q + n * it.size) news).toArray))
theorem Yb (hs:R w0 σ H nx w) {t ty e:TypeId} {it:TypeInfo} {zv:Value} {z k:Nat} (hu:P.underlying t=some (.slice e)) (hi:P.info? e=some it) (hzz:it.zero=some zv) (hsz:it.size=z) {b:CV} {vb:Value} {new:List CV} (hv:VR σ b vb) (h:abL H z b=some (k,new)):V7 P σ w t t ty e it zv k new vb:=by
 subst hsz
 rcases afJ hs hv h with ⟨rfl,A,c,rfl⟩ | ⟨hk,g,q,c,news,rfl,hr,h1,hl,hcell⟩
 ·exact Or.inl ⟨rfl,fun base n cap hle=> Ld w hu hi base A n cap c hle⟩
 ·have hnl:news.length=k * it.size:=by rw [hr.1,hl]
  exact Or.inr ⟨hk,news,hr,h1,hl,fun base n cap olds ho hbase hold hcap hby h63=> Lc (ty:=ty) w hu hi hzz ho hbase hold hnl hcell hcap hk hby h63,fun g' q' n cap cur tt hg hroom hfit=> Lh (ty:=ty) w hu hi hg hnl hcell (hr.ones h1) hroom hfit⟩
theorem V8 (σ:Nm):∀{bs:List Nat},(∀b∈bs,b < 256)→fU σ (byC bs) (bs.map fun b=> Value.int .u8 (UInt8.ofNat b).toNat)∧(∀x∈byC bs,iQ x=true)∧(byC bs).length=bs.length
 | [],_=> ⟨.nil σ,fun x hx=> (by cases hx),rfl⟩
 | b::bs,h=> by
  obtain ⟨h1,h2,h3⟩:=V8 σ (bs:=bs) fun x hx=> h x (by simp [hx])
  have hb:(UInt8.ofNat b).toNat=b:=by
   have:=h b (by simp)
   simp
   omega
  refine ⟨.cons ?_ h1,fun x hx=> ?_,by show (byC bs).length + 1=_;rw [h3];rfl⟩
  ·show VR σ (.v (.int .u8 (Int.ofNat b))) (.int .u8 ((UInt8.ofNat b).toNat:Int))
   rw [hb]
   exact .v _ rfl
  ·rcases List.mem_cons.1 hx with rfl | hx
   ·rfl
   ·exact h2 x hx
theorem afK {t u ty e:TypeId} {it:TypeInfo} {zv:Value} {z k:Nat} (hu:P.underlying t=some (.slice e)) (hstr:P.underlying u=some .string) (hi:P.info? e=some it) (hzz:it.zero=some zv) (hsz:it.size=z) {b:CV} {vb:Value} {new:List CV} (hv:VR σ b vb) (h:akc b z=some (k,new)):V7 P σ w t u ty e it zv k new vb:=by
 subst hsz
 unfold akc at h
 split at h
 ·rename_i bs
  obtain ⟨h1,h2⟩:=aC h
  injection h2 with h2
  injection h2 with h3 h4
  have h1:=ay h1
  rw [len_eq] at h3
  subst h3 h4
  cases hv with
  | t _ hb=>
   generalize hS:(⟨(bs.map UInt8.ofNat).toArray⟩:ByteArray)=S
   have hvs:oW bs= .string S:=by rw [←hS];rfl
   have hss:S.size=bs.length:=by rw [←hS];simp [ByteArray.size]
   have hcs:Lib.strCells S=bs.map fun b=> Value.int .u8 (UInt8.ofNat b).toNat:=by
    rw [←hS]
    simp [Lib.strCells]
   obtain ⟨r1,r2,r3⟩:=V8 σ hb
   rw [←hcs] at r1
   rw [hvs]
   have hf:=Lib.run_firstCells_string (P:=P) w 1 S
   have hlen:(Lib.strCells S).length=bs.length:=by rw [Lib.strCells_length,hss]
   by_cases h0:bs.length=0
   ·refine Or.inl ⟨h0,fun base n cap hle=> ?_⟩
    have e0:Lib.strCells S= []:=List.eq_nil_of_length_eq_zero (by omega)
    rw [e0] at hf
    rw [hss,h0] at hf
    cases base <;> simp [Builtin.append_,run_underlying hu,run_underlying hstr,sizeOf,typeInfo,hi,h1,Builtin.lenOf,hss,h0,hle,hf,storeCells]
   ·refine Or.inr ⟨Nat.pos_of_ne_zero h0,Lib.strCells S,r1,r2,by rw [r3,h1,Nat.mul_one],fun base n cap olds ho hbase hold hcap hby h63=> ?_,fun g q n cap cur tt hg hroom hfit=> ?_⟩
    ·cases base with
     | none=>
      obtain ⟨rfl,rfl⟩:=hbase rfl
      have ho:olds= []:=List.eq_nil_of_length_eq_zero (by simpa using ho)
      subst ho
      have:=run_append_nil_string (P:=P) w t u ty e it zv hu hstr hi hzz S (by omega) (by omega) (by rw [hss];simp only [Nat.zero_add] at hby;omega)
      rw [hss] at this
      have e3:(Lib.strCells S).toArray=S.data.map fun b=> Value.int .u8 b.toNat:=by
       apply Array.ext'
       simp [Lib.strCells]
      simp only [Nat.zero_add]
      rw [this,e3]
      simp
     | some b=>
      have:=Lib.run_append_grow_string (P:=P) w t u ty e it zv hu hstr hi hzz b n cap olds ho (fun j v hj=> hold b rfl j v hj) S (by rw [hss];exact hcap) (by rw [hss];omega) (by rw [hss];exact growslice_fits hcap (by omega))
      rw [hss] at this
      exact this
    ·have hst:=run_storeCells_at P g (q + n) tt (Lib.strCells S) 0 cur w hg (by rw [h1,Nat.mul_one] at hfit;simpa using hfit) (Lib.strCells_oneCell S)
     simp only [Nat.add_zero] at hst
     rw [hss] at hf
     rw [h1,Nat.mul_one]
     simp [Builtin.append_,run_underlying hu,run_underlying hstr,sizeOf,typeInfo,hi,h1,Builtin.lenOf,hss,hroom,hf,Addr.add_lit,hst,over]
 ·cases h
theorem afL (hs:R w0 σ H nx w) {t u ty e:TypeId} {it:TypeInfo} {zv:Value} {z k:Nat} (hsz:it.size=z) (hzs:zv.cells.size=z) (hby:it.bytes≤1000)
  {a:CV} {va vb:Value} {new:List CV} (ha:VR σ a va) (hb:V7 P σ w t u ty e it zv k new vb)
  {v:CV} {H':Tr aP} {nx':Nat} (h:aj9 e H nx z a k new= .ok v H' nx'):∃x w',(Builtin.append_ #[t,u] ty #[va,vb]).run P w= .ok x w'∧After w0 σ nx v H' nx' x w':=by
 subst hsz
 have hmul:∀m,m≤1000000→m * it.bytes≤1000000000:=fun m hm=> Nat.le_trans (Nat.mul_le_mul hm hby) (by decide)
 have hgrow:∀(m:Nat) (cap:Nat),m≤1000000→m≤grownCap w m cap e∧grownCap w m cap e≤maxLen:=fun m cap hm=> ⟨grownCap_ge _ _ _ _,grownCap_le_maxLen _ _ _ _ (by simp only [maxLen];omega)⟩
 unfold aj9 at h
 split at h
 ·rename_i y
  obtain ⟨hn,h2⟩:=ig h
  have hva:va= .slice none 0 0:=by rw [ha.val,mJ hn]
  rcases hb with ⟨rfl,hnone⟩ | ⟨hk,news,hr,h1,hl,hg,_⟩
  ·obtain ⟨rfl,rfl,rfl⟩:=bU (show dG.ok (.v y) H nx= .ok v H' nx' from h2)
   exact ⟨_,w,by rw [hva];exact hnone none 0 0 (Nat.le_refl _),.same hs (by rw [←hva];exact ha)⟩
  ·have hk0:Nat.beq k 0=false:=by
    cases k with
    | zero=> omega
    | succ k=> rfl
   rw [hk0] at h2
   obtain ⟨h3,h4⟩:=ig (show bG (Nat.ble k 1000000) (qm (.of e) H nx k it.size new) .no= .ok v H' nx' from h2)
   have h3:=aN h3
   obtain ⟨rfl,rfl,rfl⟩:=bU h4
   have hrun:=hg none 0 0 [] (by simp) (fun _=> ⟨rfl,rfl⟩) (fun b hb=> by cases hb) (by omega) (hmul _ (by omega)) (by omega)
   rw [hva]
   refine ⟨_,_,hrun,?_⟩
   obtain ⟨b1,b2⟩:=hgrow (0 + k) 0 (by omega)
   have:=V5 hs (H1:=H) (fun j=> Or.inl rfl) (ocs:= []) (ncs:=new) (olds:= []) (news:=news) (e:=e) (kd:= .of e) (Or.inr rfl) (zv:=zv) (z:=it.size) (n:=0 + k) (gc:=grownCap w (0 + k) 0 e) (.nil σ) (fun x hx=> by cases hx) hr h1 hzs (by simp [hl]) b1 b2
   simpa using this
 ·rename_i l o n c
  obtain ⟨lc,hl0,A,cap,e1,e2,e3,e4,e5⟩:=ha.sv
  subst e1
  rcases hb with ⟨rfl,hnone⟩ | ⟨hk,news,hr,h1,hl,hg,hrm⟩
  ·obtain ⟨rfl,rfl,rfl⟩:=bU (show dG.ok (.s l o n c) H nx= .ok v H' nx' from h)
   exact ⟨_,w,hnone (some A) n cap e2,.same hs ha⟩
  ·have hk0:Nat.beq k 0=false:=by
    cases k with
    | zero=> omega
    | succ k=> rfl
   rw [hk0] at h
   obtain ⟨h3,h4⟩:=ig (show bG (Nat.ble (Nat.add n k) 1000000) (oR (cellsOf H l) fun cs=> anF e H nx it.size l o n k c new cs) .no= .ok v H' nx' from h)
   have h3:n + k≤1000000:=aN h3
   obtain ⟨cs,h5,h6⟩:=fA h4
   obtain ⟨kd,hH⟩:=ji h5
   obtain ⟨vals,T,g1,g2,g3,gk,g4⟩:=hs.blk l lc _ hl0 hH
   have hcl:∀j,w.cell? ⟨lc.blk,j,none⟩=vals[j]? :=fun j=> cell_of_row _ _ _ vals T (0,0) g1
   have hnl:news.length=k * it.size:=by rw [hr.1,hl]
   have olds:o + n * it.size≤cs.length→∃us:List Value,fU σ ((cs.drop o).take (n * it.size)) us∧(∀x∈(cs.drop o).take (n * it.size),iQ x=true)∧us.length=n * it.size∧∀b,some A=some b→∀(j:Nat) (u:Value),us[j]? =some u→w.cell? (b.add j)=some u:=by
    intro hle
    have hsz:lc.off + (o + n * it.size)≤vals.size:=by omega
    refine ⟨(vals.toList.drop (lc.off + o)).take (n * it.size),⟨by simp;omega,fun j x u hx hu=> ?_⟩,fun x hx=> ?_,by simp;omega,fun b hb j u hu=> ?_⟩
    ·rw [List.getElem?_take] at hx hu
     split at hx
     ·rename_i hj
      rw [if_pos hj,List.getElem?_drop] at hu
      rw [List.getElem?_drop] at hx
      obtain ⟨u',a1,a2,_⟩:=g4 _ x hx
      have:vals.toList[lc.off + o + j]? =some u':=by rw [Array.getElem?_toList,Nat.add_assoc];exact a1
      rw [this] at hu
      injection hu with hu
      rw [←hu]
      exact a2
     ·cases hx
    ·obtain ⟨j,hj⟩:=List.mem_iff_getElem?.1 (List.mem_of_mem_drop (List.mem_of_mem_take hx))
     obtain ⟨_,_,_,a3⟩:=g4 _ x hj
     exact a3
    ·injection hb with hb
     subst hb
     rw [List.getElem?_take] at hu
     split at hu
     ·rename_i hj
      rw [List.getElem?_drop,Array.getElem?_toList] at hu
      rcases e3 with e3 | ⟨e3,_⟩
      ·subst e3
       rw [add_eq,hcl]
       exact hu
      ·subst e3
       omega
     ·cases hu
   have grow:∀(kd:Kd) (H1:Tr aP),(kd= .any∨kd= .of e)→(∀j,H1.get j=H.get j∨H1.get j=none)→cap < n + k→o + n * it.size≤cs.length→qm kd H1 nx (Nat.add n k) it.size (app (takeN (Nat.mul n it.size) (oz o cs)) new)= .ok v H' nx'→
     ∃x w',(Builtin.append_ #[t,u] ty #[.slice (some A) n cap,vb]).run P w= .ok x w'∧After w0 σ nx v H' nx' x w':=by
    intro kd H1 hkd hH1 hcap hle h7
    obtain ⟨us,u1,u2,u3,u4⟩:=olds hle
    rw [kF,lM,kU] at h7
    obtain ⟨rfl,rfl,rfl⟩:=bU h7
    have hrun:=hg (some A) n cap us u3 (fun h=> by cases h) u4 hcap (hmul _ h3) (by omega)
    obtain ⟨b1,b2⟩:=hgrow (n + k) cap h3
    exact ⟨_,_,hrun,V5 hs hH1 hkd u1 u2 hr h1 hzs (by show ((cs.drop o).take (n * it.size)).length + new.length=(n + k) * it.size;rw [←u1.1,u3,hl,←Nat.add_mul]) b1 b2⟩
   cases c with
   | kn c=>
    have hcap:cap=c:=e4 c rfl
    subst hcap
    have h7:bG (Nat.ble (Nat.add n k) cap) (bG (Nat.ble (Nat.add o (Nat.mul (Nat.add n k) it.size)) (len cs)) (I9 H nx it.size l o n (.kn cap) cs new k) .no) (bG (Nat.ble (Nat.add o (Nat.mul n it.size)) (len cs)) (qm (.of e) H nx (Nat.add n k) it.size (app (takeN (Nat.mul n it.size) (oz o cs)) new)) .no)= .ok v H' nx':=h6
    cases hroom:Nat.ble (Nat.add n k) cap
    ·rw [hroom] at h7
     obtain ⟨h8,h9⟩:=ig (show bG (Nat.ble (Nat.add o (Nat.mul n it.size)) (len cs)) (qm (.of e) H nx (Nat.add n k) it.size (app (takeN (Nat.mul n it.size) (oz o cs)) new)) .no= .ok v H' nx' from h7)
     have h8:o + n * it.size≤len cs:=aN h8
     rw [len_eq] at h8
     have hlt:cap < n + k:=by
      rcases Nat.lt_or_ge cap (n + k) with h | h
      ·exact h
      ·have:=Nat.ble_eq_true_of_le h
       rw [show Nat.ble (n + k) cap=Nat.ble (Nat.add n k) cap from rfl,hroom] at this
       cases this
     exact grow (.of e) H (Or.inr rfl) (fun j=> Or.inl rfl) hlt h8 h9
    ·rw [hroom] at h7
     obtain ⟨h8,h9⟩:=ig (show bG (Nat.ble (Nat.add o (Nat.mul (Nat.add n k) it.size)) (len cs)) (I9 H nx it.size l o n (.kn cap) cs new k) .no= .ok v H' nx' from h7)
     have h8:o + (n + k) * it.size≤len cs:=aN h8
     rw [len_eq,Nat.add_mul] at h8
     have hroom:n + k≤cap:=aN hroom
     obtain ⟨rfl,rfl,rfl⟩:=bU h9
     rcases e3 with e3 | ⟨_,e3⟩
     ·subst e3
      have hrun:=hrm lc.blk (lc.off + o) n cap vals T g1 hroom (by rw [hnl];omega)
      refine ⟨_,_,hrun,?_⟩
      have:=xq hs (o:=o + n * it.size) hl0 hH g1 hr h1 (by rw [hl];omega)
      rw [←Nat.add_assoc] at this
      exact .same this (.sk o (n + k) cap hl0 hroom)
     ·omega
   | op z' q=>
    have h7:bG (Nat.beq it.size z') (bG (Nat.ble (Nat.add n k) q) (bG (Nat.ble (Nat.add o (Nat.mul (Nat.add n k) it.size)) (len cs)) (I9 H nx it.size l o n (.op z' q) cs new k) .no) (bG (Nat.ble (Nat.add o (Nat.mul n it.size)) (len cs)) (qm (kdE e o (kOf H l)) (H.del l) nx (Nat.add n k) it.size (app (takeN (Nat.mul n it.size) (oz o cs)) new)) .no)) .no= .ok v H' nx':=h6
    obtain ⟨h8,h9⟩:=ig h7
    have h8:=ay h8
    subst h8
    obtain ⟨anX,hcm,hqc⟩:=e5 _ _ rfl
    cases hin:Nat.ble (Nat.add n k) q
    case true=>
     rw [hin] at h9
     have hin:n + k≤q:=aN hin
     obtain ⟨h8,h9⟩:=ig (show bG (Nat.ble (Nat.add o (Nat.mul (Nat.add n k) it.size)) (len cs)) (I9 H nx it.size l o n (.op it.size q) cs new k) .no= .ok v H' nx' from h9)
     have h8:o + (n + k) * it.size≤len cs:=aN h8
     rw [len_eq,Nat.add_mul] at h8
     have hroom:n + k≤cap:=by omega
     obtain ⟨rfl,rfl,rfl⟩:=bU h9
     rcases e3 with e3 | ⟨_,e3⟩
     ·subst e3
      have hrun:=hrm lc.blk (lc.off + o) n cap vals T g1 hroom (by rw [hnl];omega)
      refine ⟨_,_,hrun,?_⟩
      have:=xq hs (o:=o + n * it.size) hl0 hH g1 hr h1 (by rw [hl];omega)
      rw [←Nat.add_assoc] at this
      exact .same this (.so o (n + k) it.size q cap hl0 hroom hqc (anX.elim id fun h=> by omega) hcm)
     ·omega
    case false=>
    rw [hin] at h9
    obtain ⟨h10,h11⟩:=ig (show bG (Nat.ble (Nat.add o (Nat.mul n it.size)) (len cs)) (qm (kdE e o (kOf H l)) (H.del l) nx (Nat.add n k) it.size (app (takeN (Nat.mul n it.size) (oz o cs)) new)) .no= .ok v H' nx' from h9)
    have h10:o + n * it.size≤len cs:=aN h10
    rw [len_eq] at h10
    rw [KZ hH] at h11
    have hkd:kdE e o kd= .any∨(kdE e o kd= .of e∧T=e∧lc.off=0∧o=0):=by
     have hb:∀t,(Nat.beq t e && Nat.beq o 0)=true→t=e∧o=0:=fun t h=> ⟨ay (and_true h).1,ay (and_true h).2⟩
     cases kd with
     | any=> exact Or.inl rfl
     | of t'=>
      show (bif Nat.beq t' e && Nat.beq o 0 then Kd.of e else .any)= .any∨_
      cases hq:(Nat.beq t' e && Nat.beq o 0)
      ·exact Or.inl rfl
      ·obtain ⟨q1,q2⟩:=hb t' hq
       obtain ⟨q3,q4⟩:=gk
       refine Or.inr ⟨?_,by rw [q3,q1],q4,q2⟩
       show (bif Nat.beq t' e && Nat.beq o 0 then Kd.of e else .any)= .of e
       rw [hq]
       rfl
     | whole t'=>
      show (bif Nat.beq t' e && Nat.beq o 0 then Kd.of e else .any)= .any∨_
      cases hq:(Nat.beq t' e && Nat.beq o 0)
      ·exact Or.inl rfl
      ·obtain ⟨q1,q2⟩:=hb t' hq
       obtain ⟨q3,q4,_⟩:=gk
       refine Or.inr ⟨?_,by rw [q3,q1],q4,q2⟩
       show (bif Nat.beq t' e && Nat.beq o 0 then Kd.of e else .any)= .of e
       rw [hq]
       rfl
    have hdel:∀j,(H.del l).get j=H.get j∨(H.del l).get j=none:=fun j=> by
     rw [AP]
     by_cases hj:j=l
     ·rw [if_pos hj];exact Or.inr rfl
     ·rw [if_neg hj];exact Or.inl rfl
    by_cases hroom:n + k≤cap
    ·rcases e3 with e3 | ⟨_,e3⟩
     ·subst e3
      obtain ⟨us,u1,u2,u3,u4⟩:=olds h10
      rw [kF,lM,kU] at h11
      obtain ⟨rfl,rfl,rfl⟩:=bU h11
      have hcz:o + cap * it.size≤lc.room:=by
       rcases anX with h | h
       ·exact h
       ·omega
      have hmm:(n + k) * it.size≤cap * it.size:=Nat.mul_le_mul_right _ hroom
      rw [Nat.add_mul] at hmm
      have hfit:lc.off + o + n * it.size + news.length≤vals.size:=by rw [hnl];omega
      have hrun:=hrm lc.blk (lc.off + o) n cap vals T g1 hroom hfit
      refine ⟨_,_,hrun,?_⟩
      have hs1:=hs.heap (H':=H.del l) (Nat.le_refl nx) fun j c _=> hdel j
      have hno:=hs.none
      have hon:=u1.append hr
      have hlen:((cs.drop o).take (n * it.size) ++ new).length=n * it.size + k * it.size:=by rw [List.length_append,←u1.1,u3,hl]
      have hnm:=hs1.name (w':=w.setRow lc.blk (over vals.toList (lc.off + o + n * it.size) news).toArray) (H':=(H.del l).put nx (.cl (kdE e o kd) ((cs.drop o).take (n * it.size) ++ new))) (nx':=nx + 1) (l:=nx) (c:=⟨lc.blk,lc.off + o,lc.room - o⟩) (b:= .cl (kdE e o kd) ((cs.drop o).take (n * it.size) ++ new))
       hno (Nat.lt_succ_self _) (Nat.le_succ _) (dR _ _ _) (fun j hj=> dK _ _ hj) rfl rfl rfl (by rw [setRow_size];exact Nat.le_refl _) (by rw [setRow_size];exact hs.lo l lc hl0) (fun j _ hj=> setRow_other _ _ _ _ hj)
       (fun l' c' b' hl' hb' he=> by
        rw [AP] at hb'
        by_cases hj:l'=l
        ·rw [if_pos hj] at hb';cases hb'
        ·rw [if_neg hj] at hb'
         exact hj (hs.sep l' l c' lc b' _ hl' hl0 hb' hH he))
       ⟨_,T,setRow_heap _ _ vals _ T _ g1,by rw [hlen];show _≤lc.room - o;omega,by
        rw [List.size_toArray,dX _ _ _ (by simpa using hfit)]
        simp
        omega,by
        rcases hkd with hkd | ⟨hkd,q1,q2,q3⟩
        ·rw [hkd];trivial
        ·rw [hkd];exact ⟨q1,by show lc.off + o=0;omega⟩,fun j x hx=> by
        have hle:=jg (σ:=σ) (l:=nx) ⟨lc.blk,lc.off + o,lc.room - o⟩ hno
        obtain ⟨u,a1,a2⟩:=hon.get hx
        refine ⟨u,?_,a2.mono hle,?_⟩
        ·show ((over vals.toList (lc.off + o + n * it.size) news).toArray)[lc.off + o + j]? =some u
         rw [List.getElem?_toArray,iV _ _ _ (by simpa using hfit)]
         rw [List.getElem?_append] at a1
         split at a1
         ·rename_i hj
          rw [u3] at hj
          rw [if_pos (by omega)]
          have:=u4 _ rfl j u a1
          rw [add_eq,hcl] at this
          simpa using this
         ·rename_i hj
          rw [u3] at hj a1
          have hj2:j - n * it.size < news.length:=(List.getElem?_eq_some_iff.1 a1).1
          rw [if_neg (by omega),if_pos (by omega)]
          have:lc.off + o + j - (lc.off + o + n * it.size)=j - n * it.size:=by omega
          rw [this]
          exact a1
        ·rcases List.mem_append.1 (List.mem_of_getElem? hx) with h | h
         ·exact u2 x h
         ·exact h1 x h⟩
      refine ⟨_,jg _ hno,fun j hj=> lu σ _ (Nat.ne_of_lt hj),hnm,Nat.le_succ _,?_⟩
      have:=VR.so (σ:=um σ nx ⟨lc.blk,lc.off + o,lc.room - o⟩) (l:=nx) (c:=⟨lc.blk,lc.off + o,lc.room - o⟩) 0 (n + k) it.size (n + k) cap (jS _ _ _) hroom hroom (by rw [Nat.zero_add];show _≤lc.room - o;omega) (by
       exact hcm)
      exact this
     ·omega
    ·exact grow _ (H.del l) (hkd.imp id fun h=> h.1) hdel (by omega) h10 h11
 ·cases h
theorem Qh (hs:R w0 σ H nx w) {t u ty e:TypeId} {a:CV} {va vb:Value} (ha:VR σ a va) {src:Nat→Option (Nat×List CV)}
  (hsrc:∀(it:TypeInfo) (zv:Value) (z k:Nat) (new:List CV),P.info? e=some it→it.zero=some zv→it.size=z→src z=some (k,new)→V7 P σ w t u ty e it zv k new vb) {v:CV} {H':Tr aP} {nx':Nat} (h:VP P H nx e a src= .ok v H' nx'):∃x w',(Builtin.append_ #[t,u] ty #[va,vb]).run P w= .ok x w'∧After w0 σ nx v H' nx' x w':=by
 obtain ⟨_,h7,h8⟩:=fA h
 obtain ⟨z,h9,h10⟩:=fA h8
 obtain ⟨z0,h11,h12⟩:=fA h10
 obtain ⟨h13,La⟩:=ig h12
 obtain ⟨q,h15,h16⟩:=fA La
 obtain ⟨it,hi,hb7⟩:=aj h7
 obtain ⟨hby,_⟩:=aC hb7
 have hby:=aN hby
 obtain ⟨it',hi',h9'⟩:=aj h9
 rw [hi] at hi'
 injection hi' with hi'
 subst hi'
 injection h9' with hz
 obtain ⟨zv',z1,z2,z3⟩:=mG h11 σ w
 obtain ⟨it',hi',aq2⟩:=aj (show ob (P.info? e) _=some z0 from h11)
 rw [hi] at hi'
 injection hi' with hi'
 subst hi'
 obtain ⟨zv,hzv,_⟩:=aj aq2
 have hzz:zv'=zv:=by
  simp [zeroValue,typeInfo,hi,hzv] at z1
  exact z1.symm
 subst hzz
 have h13:=ay h13
 rw [len_eq] at h13
 have hzs:zv'.cells.size=z:=by have:=z2.1;simp at this;omega
 exact afL (ty:=ty) hs hz hzs hby ha (hsrc _ _ _ _ _ hi hzv hz (show src z=some (q.1,q.2) from h15)) h16
theorem afM (hs:R w0 σ H nx w) {t u ty:TypeId} {a b:CV} {va vb:Value} (ha:VR σ a va) (hb:VR σ b vb) {v:CV} {H':Tr aP} {nx':Nat} (h:anI P H nx t u a b= .ok v H' nx'):∃x w',(Builtin.append_ #[t,u] ty #[va,vb]).run P w= .ok x w'∧After w0 σ nx v H' nx' x w':=by
 obtain ⟨e,h5,h6⟩:=fA h
 have hu:=jA h5
 cases hq:Nat.beq t u
 ·rw [hq] at h6
  obtain ⟨n,h7,h8⟩:=fA (show oR (isStr P u) _= .ok v H' nx' from h6)
  exact Qh hs ha (fun it zv z k new hi hzv hz hsrc=> afK hu (vw h7) hi hzv hz hb hsrc) h8
 ·rw [hq] at h6
  have hq:=ay hq
  subst hq
  exact Qh hs ha (fun it zv z k new hi hzv hz hsrc=> Yb hs hu hi hzv hz hb hsrc) (show VP P H nx e a (fun z=> abL H z b)= .ok v H' nx' from h6)
end
end Ci
end Go.Proofs.YtnegekppaoedgaaGreatDoor

/-
Running code on constants: calls, one operation, regions in the order of their text. Over any program.
-/
import Derived.Test.YtmgcnoigihdhpaaGreatDoorQ04
import Derived.Tactics
import Derived.Deep.LoopGhost
import Derived.Orders
namespace Go.Proofs.YtmgcnoigihdhpaaGreatDoor.Ci
open Go.RowKit
def CallOk (P:Program) (G:Base→Prop) (C:Callee):Prop:=∀(f:FuncId) (args:List CV) (H:Tr Blk) (nx:Nat) (v:CV) (H':Tr Blk) (nx':Nat),C f args H nx= .ok v H' nx'→∀(w0:Base) (σ:Nm) (w:World) (vals:Array Value),G w0→R w0 σ H nx w→VRL σ args vals.toList→
 (callFunc f vals).run P w= .ok (.enter f vals) w∧Calls P f vals w fun e w'=> ∃x,e= .returned x∧After w0 σ nx v H' nx' x w'
theorem CallOk.none {P:Program} {G:Base→Prop}:CallOk P G fun _ _ _ _=> .no:=fun f args H nx v H' nx' h=> by cases h
structure Ok (w0:Base) (nt:Nat) (st:CSt) (σ:Nm) (a:Act) (w:World):Prop where
 r:R w0 σ st.h st.nx w
 env:EnvOk σ st.env a.tmps
 size:a.tmps.size=nt
 defers:a.defers= []
theorem Ok.evs {w0:Base} {w:World} {nt:Nat} {st:CSt} {σ:Nm} {a:Act} (h:Ok w0 nt st σ a w) (xs:Array Operand):Evs σ st.env a.eval xs:=fun _x _ _c hc=> ev_rel (fun t _ c hc=> h.env t c hc) hc
theorem envOk_put {σ:Nm} {E:Tr CV} {a:Act} (h:EnvOk σ E a.tmps) {d:Option Tmp} (hd:∀t,d=some t→t < a.tmps.size) {v:CV} {x:Value} (hv:VR σ v x):EnvOk σ (putE E d v) (a.put d x).tmps:=by
 cases d with
 | none=> exact h
 | some d=>
  intro t c hc
  have hc:(E.put d v).get t=some c:=hc
  rw [get_put] at hc
  show ∃v,(a.tmps.setIfInBounds d x)[t]? =some v∧_
  by_cases ht:t=d
  ·subst ht
   rw [if_pos rfl] at hc
   injection hc with hc
   subst hc
   exact ⟨x,by simp [hd t rfl],hv⟩
  ·rw [if_neg ht] at hc
   obtain ⟨y,h1,h2⟩:=h t c hc
   exact ⟨y,by rw [Array.getElem?_setIfInBounds_ne (Ne.symm ht)];exact h1,h2⟩
theorem put_size (a:Act) (d:Option Tmp) (x:Value):(a.put d x).tmps.size=a.tmps.size:=by cases d <;> simp [Act.put]
theorem put_defers (a:Act) (d:Option Tmp) (x:Value):(a.put d x).defers=a.defers:=by cases d <;> rfl
theorem Ok.put {w0:Base} {w w':World} {nt:Nat} {st:CSt} {σ σ':Nm} {a:Act} (h:Ok w0 nt st σ a w) {d:Option Tmp} (hd:∀t,d=some t→t < nt) (hle:Le σ σ') {v:CV} {x:Value} (hv:VR σ' v x) {H:Tr Blk} {nx:Nat} (hr:R w0 σ' H nx w'):Ok w0 nt ⟨putE st.env d v,H,nx⟩ σ' (a.put d x) w':=
 ⟨hr,envOk_put (h.env.mono hle) (fun t ht=> by rw [h.size];exact hd t ht) hv,by rw [put_size];exact h.size,by rw [put_defers];exact h.defers⟩
def Next1 (w0:Base) (nt:Nat) (σ:Nm) (l nx:Nat) (k:Nat) (st':CSt) (K:Act→World→Prop):Prop:=∀(σ':Nm) (a':Act) (w':World),Le σ σ'→(∀j,j < nx→(k=1→j≠l)→σ' j=σ j)→nx≤st'.nx→Ok w0 nt st' σ' a' w'→K a' w'
section
variable {P : Program} {G : Base → Prop} {C : Callee} {w0 : Base} {w : World} {nt : Nat} {st st' : CSt} {σ : Nm} {a : Act} {o : Oper} {Q : Exit → Act → World → Prop} {K : Act → World → Prop}
theorem doE_some {d:Option Tmp} {r:Res} (h:doE st d r=some st'):∃v H nx,r= .ok v H nx∧st'=⟨putE st.env d v,H,nx⟩:=by
 cases r with
 | no=> cases h
 | ok v H nx=>
  injection h with h
  exact ⟨v,H,nx,rfl,h.symm⟩
theorem exE_wp (hC:CallOk P G C) (hG:G w0) (hr:R w0 σ st.h st.nx w) (hev:Evs σ st.env a.eval o.op.operands) {v:CV} {H':Tr Blk} {nx':Nat} (h:exE P C st.env st.h st.nx o.op= .ok v H' nx')
  (hK:∀x w',After w0 σ st.nx v H' nx' x w'→K (a.put o.dst x) w'):o.wp P a w K Q:=by
 obtain ⟨dst,op,ty,pos,after,guard⟩:=o
 have skp:∀{s:Sem Unit},(∃w',s.run P w= .ok () w'∧After w0 σ st.nx v H' nx' undef w')→execOp a.eval ⟨dst,op,ty,pos,after,guard⟩=(do s;pure .skip)→Oper.wp P ⟨dst,op,ty,pos,after,guard⟩ a w K Q:=by
  rintro s ⟨w',h1,h2⟩ he
  refine wp_skp (w':=w') ?_ (hK _ _ h2)
  rw [he]
  simp only [Sem.run_bind,h1,Result.andThen_ok]
  rfl
 cases op with
 | store t x y=> exact skp (e_store hr hev h) rfl
 | mapUpdate t m k x=> exact skp (e_put hr hev h) rfl
 | insert t m k x=> exact skp (e_put hr hev h) rfl
 | range t x=>
  obtain ⟨y,w',h1,h2⟩:=e_range hr hev h
  exact wp_val (x:=y) (w':=w') (by show (do pure (.value (←Instr.range t (a.eval x))):Sem Next).run P w=_;simp only [Sem.run_bind,h1,Result.andThen_ok];rfl) (hK _ _ h2)
 | next x s=>
  obtain ⟨y,w',h1,h2⟩:=e_next (P:=P) (ty:=ty) hr hev h
  exact wp_val (x:=y) (w':=w') (by show (do pure (.value (←Instr.next (a.eval x) s ty)):Sem Next).run P w=_;simp only [Sem.run_bind,h1,Result.andThen_ok];rfl) (hK _ _ h2)
 | call c=>
  obtain ⟨callee,args,ts⟩:=c
  cases callee with
  | builtin b=>
   obtain ⟨x,w',h1,h2⟩:=e_bui (ty:=ty) (cb:=args.map fun | .const _=> true | _=> false) hr (fun x hx=> hev x (by simp [Op.operands,Call.operands,hx])) (show eBui P st.env st.h st.nx b args ts= .ok v H' nx' from h)
   refine wp_val (x:=x) (w':=w') ?_ (hK _ _ h2)
   show (do invoke (←resolve a.eval ⟨.builtin b,args,ts⟩ ty).target _:Sem Next).run P w=_
   exact h1
  | value f=>
   obtain ⟨g,h1,h2⟩:=oR_ok (show oR (ev st.env f) _= .ok v H' nx' from h)
   obtain ⟨xs,h3,h4⟩:=oR_ok h2
   have hf:=hev f (by simp [Op.operands,Call.operands]) _ h1
   have hxs:=evL_rel (σ:=σ) (ρ:=a.eval) args.toList (fun x hx=> hev x (by
    have:x∈args:=by simpa using hx
    simp [Op.operands,Call.operands,this])) h3
   unfold eCallV at h4
   split at h4
   ·rename_i fid fs cs
    obtain ⟨us,vs,e1,e2,e3⟩:=hf.fnL
    rw [app_eq,app_eq] at h4
    have hl:VRL σ (fs ++ (xs ++ cs)) (us ++ args.map a.eval ++ vs).toList:=by
     have:=e2.append (hxs.append e3)
     simpa using this
    obtain ⟨k1,k2⟩:=hC _ _ _ _ _ _ _ h4 w0 σ w _ hG hr hl
    have hrun:(execOp a.eval ⟨dst,.call ⟨.value f,args,ts⟩,ty,pos,after,guard⟩).run P w= .ok (.enter fid (us ++ args.map a.eval ++ vs)) w:=by
     show (do let d←Deferred.ofValue (a.eval f) (args.map a.eval);invoke d.target d.args:Sem Next).run P w=_
     rw [e1]
     show (callFunc fid (us ++ args.map a.eval ++ vs)).run P w=_
     exact k1
    unfold Oper.wp
    rw [hrun]
    show Calls P _ _ w _
    refine Calls.mono k2 ?_
    rintro e w' ⟨x,rfl,h6⟩
    exact hK _ _ h6
   ·cases h4
  | invoke r m=> cases h
 | _=> cases h
theorem ex1_wp (hC:CallOk P G C) (hG:G w0) (hok:Ok w0 nt st σ a w) (hd:∀t,o.dst=some t→t < nt) {l:Nat} (hl:cls o.op=1→σ l=none∧l < st.nx) (h:ex1 P C o l st=some st') (hK:Next1 w0 nt σ l st.nx (cls o.op) st' K):o.wp P a w K Q:=by
 unfold ex1 at h
 generalize hc:cls o.op=k at *
 match k,h,hl with
 | 0,h,_=>
  obtain ⟨v,h1,h2⟩:=ob_some (show doQ st o.dst (exQ P st.env st.h o.type o.op)=some st' from h)
  injection h2 with h2
  obtain ⟨u,h3,h4⟩:=exQ_ok (ρ:=a.eval) hok.r (hok.evs _) h1
  refine wp_val h3 (hK σ _ w (.refl σ) (fun _ _ _=> rfl) ?_ ?_)
  ·rw [←h2];exact Nat.le_refl _
  ·rw [←h2];exact hok.put hd (.refl σ) h4 hok.r
 | 1,h,hl=>
  obtain ⟨q,h1,h20⟩:=ob_some (show doA st o.dst l (exA P st.env o.op l)=some st' from h)
  obtain ⟨_,h2⟩:=noneO_some h20
  injection h2 with h2
  obtain ⟨hn,hlt⟩:=hl rfl
  obtain ⟨v,b⟩:=q
  obtain ⟨obj,room,x,h3,h4⟩:=exA_ok (σ:=σ) (ρ:=a.eval) (w:=w) (hok.evs _) h1
  obtain ⟨h5,h6⟩:=h4 (setN σ l ⟨w.heap.size,0,room⟩) (setN_le _ hn) (setN_self _ _ _)
  have hr:=hok.r.new (H':=st.h.put l b) (nx':=st.nx) (room:=room) hn hlt (Nat.le_refl _) (get_put_self _ _ _) (fun j hj=> get_put_ne _ _ hj) obj h5
  refine wp_val h3 (hK (setN σ l ⟨w.heap.size,0,room⟩) (a.put o.dst x) (w.alloc obj) (setN_le _ hn) (fun j _ hj=> setN_ne σ _ (hj rfl)) ?_ ?_)
  ·rw [←h2];exact Nat.le_refl _
  ·rw [←h2];exact hok.put hd (setN_le _ hn) h6 hr
 | k + 2,h,_=>
  obtain ⟨v,H,nx,h1,h2⟩:=doE_some (show doE st o.dst (exE P C st.env st.h st.nx o.op)=some st' from h)
  refine exE_wp hC hG hok.r (hok.evs _) h1 fun x w' hA=> ?_
  obtain ⟨σ',s1,s2,s3,s4,s5⟩:=hA
  refine hK σ' _ w' s1 (fun j hj _=> s2 j hj) ?_ ?_
  ·rw [h2];exact s4
  ·rw [h2];exact hok.put hd s1 s5 s3
def asB:Value→Option Bool
 | .bool c=> some c
 | _=> none
theorem wantV_ok {v:CV} {x:Value} {w b:Bool} (hv:VR σ v x) (h:wantV w v=some b):b=(asB x==some w):=by
 unfold wantV at h
 split at h
 ·rename_i y
  rw [hv.val]
  split at h
  ·injection h with h
   subst h
   rename_i c
   cases c <;> cases w <;> rfl
  ·cases h
 ·obtain ⟨vs,rfl,_⟩:=hv.tupL
  injection h with h
  subst h
  rfl
 ·cases h
theorem want_ok {ops:Array Oper} {E:Tr CV} (hE:∀t∈o.looksAt ops,∀c,E.get t=some c→∃v,a.tmps[t]? =some v∧VR σ c v) {b:Bool} (h:want ops.toList E o.guard=some b):Region.wanted o (yielded ops a.tmps)=b:=by
 unfold Region.wanted
 cases hg:o.guard with
 | none=>
  rw [hg] at h
  injection h
 | some g=>
  rw [hg] at h
  obtain ⟨j,wv⟩:=g
  obtain ⟨o',h1,h2⟩:=ob_some (show ob (nth ops.toList j) _=some b from h)
  obtain ⟨t,h3,h4⟩:=ob_some h2
  obtain ⟨v,h5,h6⟩:=ob_some h4
  rw [nth_eq,Array.getElem?_toList] at h1
  obtain ⟨x,h7,h8⟩:=hE t (by
   unfold Oper.looksAt
   rw [hg]
   simp [h1,h3]) v h5
  rw [wantV_ok h8 h6]
  show (yielded ops a.tmps j==some wv)=_
  have:yielded ops a.tmps j=asB x:=by
   unfold yielded
   rw [h1]
   simp only [Option.bind_some,h3,h7]
   cases x <;> rfl
  rw [this]
theorem ex1g_wp (hC:CallOk P G C) (hG:G w0) {ops:Array Oper} (hok:Ok w0 nt st σ a w) (hd:∀t,o.dst=some t→t < nt) {l:Nat} (hl:cls o.op=1→σ l=none∧l < st.nx) (h:ex1g P C ops.toList o l st=some st') (hK:Next1 w0 nt σ l st.nx (cls o.op) st' K):
  if Region.wanted o (yielded ops a.tmps) then o.wp P a w K Q else K (a.put o.dst undef) w:=by
 obtain ⟨b,h1,h2⟩:=ob_some h
 rw [want_ok (fun t _=> hok.env t) h1]
 cases b
 ·injection (show some (⟨putE st.env o.dst (.tup []),st.h,st.nx⟩:CSt)=some st' from h2) with h2
  rw [if_neg (by simp)]
  refine hK σ _ w (.refl σ) (fun _ _ _=> rfl) ?_ ?_
  ·rw [←h2];exact Nat.le_refl _
  ·rw [←h2];exact hok.put hd (.refl σ) (.unit σ) hok.r
 ·rw [if_pos rfl]
  exact ex1_wp hC hG hok hd hl h2 hK
def Goes (w0:Base) (nt:Nat) (σ:Nm) (nx:Nat) (st':CSt) (a':Act) (w':World):Prop:=∃σ',Le σ σ'∧(∀j,j < nx→σ' j=σ j)∧nx≤st'.nx∧Ok w0 nt st' σ' a' w'
theorem Goes.trans {nx:Nat} {σ':Nm} {w':World} {a':Act} (h1:Le σ σ') (h2:∀j,j < nx→σ' j=σ j) {nx':Nat} (h3:nx≤nx') (h:Goes w0 nt σ' nx' st' a' w'):Goes w0 nt σ nx st' a' w':=by
 obtain ⟨τ,k1,k2,k3,k4⟩:=h
 exact ⟨τ,h1.trans k1,fun j hj=> by rw [k2 j (Nat.lt_of_lt_of_le hj h3),h2 j hj],Nat.le_trans h3 k3,k4⟩
theorem Goes.self (h:Ok w0 nt st σ a w):Goes w0 nt σ st.nx st a w:=⟨σ,.refl σ,fun _ _=> rfl,Nat.le_refl _,h⟩
theorem beq1 {n:Nat} (h:Nat.beq n 1=false):n≠1:=by
 intro e
 rw [e] at h
 cases h
theorem exS_wp (hC:CallOk P G C) (hG:G w0) {ops:Array Oper} (hok:Ok w0 nt st σ a w) (hd:∀t,o.dst=some t→t < nt) (h:exS P C ops.toList o st=some st') (hK:∀a' w',Goes w0 nt σ st.nx st' a' w'→K a' w'):
  if Region.wanted o (yielded ops a.tmps) then o.wp P a w K Q else K (a.put o.dst undef) w:=by
 unfold exS at h
 cases hb:Nat.beq (cls o.op) 1
 ·rw [hb] at h
  exact ex1g_wp hC hG hok hd (fun e=> absurd e (beq1 hb)) (show ex1g P C ops.toList o 0 st=some st' from h) fun σ' a' w' k1 k2 k3 k4=> hK a' w' ⟨σ',k1,fun j hj=> k2 j hj fun e=> absurd e (beq1 hb),k3,k4⟩
 ·rw [hb] at h
  have hok':Ok w0 nt ⟨st.env,st.h,Nat.succ st.nx⟩ σ a w:=⟨hok.r.heap (Nat.le_succ _) fun l c _=> Or.inl rfl,hok.env,hok.size,hok.defers⟩
  exact ex1g_wp hC hG hok' hd (fun _=> ⟨hok.r.none,Nat.lt_succ_self _⟩) (show ex1g P C ops.toList o st.nx ⟨st.env,st.h,Nat.succ st.nx⟩=some st' from h) fun σ' a' w' k1 k2 k3 k4=> hK a' w' ⟨σ',k1,fun j hj=> k2 j (Nat.lt_succ_of_lt hj) fun _=> Nat.ne_of_lt hj,Nat.le_trans (Nat.le_succ _) k3,k4⟩
theorem runS_wp (hC:CallOk P G C) (hG:G w0) {ops:Array Oper}:∀(l:List Oper) {st st':CSt} {σ:Nm} {a:Act} {w:World},Ok w0 nt st σ a w→(∀o∈l,∀t,o.dst=some t→t < nt)→runS P C ops.toList l st=some st'→(∀a' w',Goes w0 nt σ st.nx st' a' w'→Q .normal a' w')→wpList P ops Q l a w
 | [],st,st',σ,a,w,hok,_,h,hQ=> by
  injection (show some st=some st' from h) with h
  subst h
  exact hQ a w (.self hok)
 | o::l,st,st',σ,a,w,hok,hd,h,hQ=> by
  obtain ⟨st1,h1,h2⟩:=ob_some (show ob (exS P C ops.toList o st) (runS P C ops.toList l)=some st' from h)
  refine wpList_step fun K hK=> exS_wp hC hG hok (hd o (by simp)) h1 fun a' w' hg=> hK a' w' ?_
  obtain ⟨σ',k1,k2,k3,k4⟩:=hg
  exact runS_wp hC hG l k4 (fun o ho=> hd o (by simp [ho])) h2 fun a'' w'' h3=> hQ a'' w'' (h3.trans k1 k2 k3)
end
end Go.Proofs.YtmgcnoigihdhpaaGreatDoor.Ci
namespace Go.Proofs.YtmgcnoigihdhpaaGreatDoor.Ci
open Go.RowKit
theorem bitB_eq (m i:Nat):bitB m i=m.testBit i:=by
 rw [Nat.testBit_eq_decide_div_mod_eq]
 show Nat.beq ((m >>> i) % 2) 1=_
 rw [Nat.shiftRight_eq_div_pow]
 cases h:Nat.beq (m / 2 ^ i % 2) 1
 ·symm
  apply decide_eq_false
  intro e
  rw [e] at h
  cases h
 ·exact (decide_eq_true (beq_eq' h)).symm
theorem inB_bit {a b:Nat} (h:inB a b=true) {i:Nat} (hi:a.testBit i=true):b.testBit i=true:=by
 have h:a &&& b=a:=beq_eq' h
 rw [←h,Nat.testBit_and,Bool.and_eq_true] at hi
 exact hi.2
theorem or_bit (a b i:Nat):(Nat.lor a b).testBit i=(a.testBit i || b.testBit i):=Nat.testBit_or a b i
theorem pow_bit (j i:Nat):(Nat.pow 2 j).testBit i=decide (j=i):=Nat.testBit_two_pow
theorem lor_pow {a i j:Nat}:(Nat.lor a (Nat.pow 2 i)).testBit j=true↔a.testBit j=true∨j=i:=by
 rw [or_bit,pow_bit,Bool.or_eq_true,decide_eq_true_iff]
 constructor
 ·rintro (h | h)
  ·exact Or.inl h
  ·exact Or.inr h.symm
 ·rintro (h | h)
  ·exact Or.inl h
  ·exact Or.inr h.symm
theorem zero_bit (i:Nat):(0:Nat).testBit i=false:=Nat.zero_testBit i
theorem all_bit {n i:Nat}:(Nat.pred (Nat.pow 2 n)).testBit i=decide (i < n):=Nat.testBit_two_pow_sub_one n i
def Bef (l:List Oper) (b:Tr Nat):Prop:=∀i,∀j,(orO (b.get i)).testBit j=true→∃o,l[i]? =some o∧∃e∈o.after,Region.binds .any e=true∧(j=e.on∨(orO (b.get e.on)).testBit j=true)
theorem befE_bit {acc:Tr Nat}:∀(l:List Edge) {j:Nat},(befE acc l).testBit j=true→∃e∈l,Region.binds .any e=true∧(j=e.on∨(orO (acc.get e.on)).testBit j=true)
 | [],j,h=> by
  have h:(0:Nat).testBit j=true:=h
  rw [zero_bit] at h
  cases h
 | e::l,j,h=> by
  have h:(ifB (Region.binds .any e) (Nat.lor (Nat.lor (Nat.pow 2 e.on) (orO (acc.get e.on))) (befE acc l)) (befE acc l)).testBit j=true:=h
  have ih:(befE acc l).testBit j=true→∃e'∈e::l,Region.binds .any e'=true∧(j=e'.on∨(orO (acc.get e'.on)).testBit j=true):=fun h=> by
   obtain ⟨e',h1,h2⟩:=befE_bit l h
   exact ⟨e',List.mem_cons_of_mem _ h1,h2⟩
  cases hb:Region.binds .any e
  ·rw [hb] at h
   exact ih h
  ·rw [hb] at h
   have h:(Nat.lor (Nat.lor (Nat.pow 2 e.on) (orO (acc.get e.on))) (befE acc l)).testBit j=true:=h
   rw [or_bit,or_bit,pow_bit,Bool.or_eq_true,Bool.or_eq_true,decide_eq_true_iff] at h
   rcases h with (h | h) | h
   ·exact ⟨e,List.mem_cons_self ..,hb,Or.inl h.symm⟩
   ·exact ⟨e,List.mem_cons_self ..,hb,Or.inr h⟩
   ·exact ih h
theorem befT_old:∀(l:List Oper) (i:Nat) (t:Tr Nat) (k:Nat),k < i→(befT l i t).get k=t.get k
 | [],i,t,k,h=> rfl
 | o::l,i,t,k,h=> by
  show (befT l (i + 1) (t.put i (befE t o.after.toList))).get k=_
  rw [befT_old l (i + 1) _ k (Nat.lt_succ_of_lt h),get_put_ne _ _ (Nat.ne_of_lt h)]
theorem befT_get:∀(l:List Oper) (i:Nat) (t:Tr Nat),(∀k,i≤k→t.get k=none)→∀(p j:Nat),i≤p→(orO ((befT l i t).get p)).testBit j=true→
  ∃o,l[p - i]? =some o∧∃e∈o.after,Region.binds .any e=true∧(j=e.on∨(orO ((befT l i t).get e.on)).testBit j=true)
 | [],i,t,ht,p,j,hp,h=> by
  have h:(orO (t.get p)).testBit j=true:=h
  rw [ht p hp] at h
  have h:(0:Nat).testBit j=true:=h
  rw [zero_bit] at h
  cases h
 | o::l,i,t,ht,p,j,hp,h=> by
  have e0:befT (o::l) i t=befT l (i + 1) (t.put i (befE t o.after.toList)):=rfl
  by_cases hpi:p=i
  ·subst hpi
   rw [e0,befT_old l (p + 1) _ p (Nat.lt_succ_self _),get_put_self] at h
   obtain ⟨e,h1,h2,h3⟩:=befE_bit o.after.toList h
   refine ⟨o,by simp,e,by simpa using h1,h2,?_⟩
   rcases h3 with h3 | h3
   ·exact Or.inl h3
   ·right
    rw [e0]
    by_cases hlt:e.on < p
    ·rw [befT_old l (p + 1) _ e.on (Nat.lt_succ_of_lt hlt),get_put_ne _ _ (Nat.ne_of_lt hlt)]
     exact h3
    ·rw [ht e.on (Nat.le_of_not_lt hlt)] at h3
     have h3:(0:Nat).testBit j=true:=h3
     rw [zero_bit] at h3
     cases h3
  ·rw [e0] at h ⊢
   obtain ⟨o',h1,h2⟩:=befT_get l (i + 1) _ (fun k hk=> by rw [get_put_ne _ _ (by omega)];exact ht k (by omega)) p j (by omega) h
   refine ⟨o',?_,h2⟩
   have:p - i=(p - (i + 1)) + 1:=by omega
   rw [this,List.getElem?_cons_succ]
   exact h1
theorem bef_ok (l:List Oper):Bef l (befT l 0 .e):=fun i j h=> by
 obtain ⟨o,h1,h2⟩:=befT_get l 0 .e (fun k _=> rfl) i j (Nat.zero_le _) h
 exact ⟨o,by simpa using h1,h2⟩
theorem Bef.closed {l:List Oper} {b:Tr Nat} (h:Bef l b) {X:Nat→Prop} (hX:∀i,X i→∀j,(orO (b.get i)).testBit j=true→X j) {i:Nat} {o:Oper} (ho:l[i]? =some o) (hr:∀e∈o.after,Region.binds .any e=true→X e.on):∀j,(orO (b.get i)).testBit j=true→X j:=by
 intro j hj
 obtain ⟨o',h1,e,h2,h3,h4⟩:=h i j hj
 rw [ho] at h1
 injection h1 with h1
 subst h1
 rcases h4 with h4 | h4
 ·rw [h4];exact hr e h2 h3
 ·exact hX _ (hr e h2 h3) j h4
theorem dstT_ok:∀(l:List Oper) (i:Nat) (t F:Tr Nat),dstT l i t=some F→(∀d x,t.get d=some x→F.get d=some x)∧∀(k:Nat) (o:Oper) (d:Tmp),l[k]? =some o→o.dst=some d→F.get d=some (i + k)
 | [],i,t,F,h=> by
  injection (show some t=some F from h) with h
  subst h
  exact ⟨fun d x h=> h,fun k o d h=> by simp at h⟩
 | o::l,i,t,F,h=> by
  cases hd:o.dst with
  | none=>
   have h:dstT l (i + 1) t=some F:=by
    have:dstT (o::l) i t= @Option.rec Tmp (fun _=> Option (Tr Nat)) (dstT l (i + 1) t) (fun d=> noneO (t.get d) (dstT l (i + 1) (t.put d i))) o.dst:=rfl
    rw [this,hd] at h
    exact h
   obtain ⟨h1,h2⟩:=dstT_ok l (i + 1) t F h
   refine ⟨h1,fun k o' d hk hd'=> ?_⟩
   cases k with
   | zero=>
    simp at hk
    subst hk
    rw [hd] at hd'
    cases hd'
   | succ k=>
    rw [h2 k o' d (by simpa using hk) hd']
    congr 1
    omega
  | some d=>
   have h:noneO (t.get d) (dstT l (i + 1) (t.put d i))=some F:=by
    have:dstT (o::l) i t= @Option.rec Tmp (fun _=> Option (Tr Nat)) (dstT l (i + 1) t) (fun d=> noneO (t.get d) (dstT l (i + 1) (t.put d i))) o.dst:=rfl
    rw [this,hd] at h
    exact h
   obtain ⟨h0,h⟩:=noneO_some h
   obtain ⟨h1,h2⟩:=dstT_ok l (i + 1) _ F h
   refine ⟨fun d' x hx=> h1 d' x ?_,fun k o' d' hk hd'=> ?_⟩
   ·by_cases he:d'=d
    ·subst he
     rw [h0] at hx
     cases hx
    ·rw [get_put_ne _ _ he]
     exact hx
   ·cases k with
    | zero=>
     simp at hk
     subst hk
     rw [hd] at hd'
     injection hd' with hd'
     subst hd'
     exact h1 _ _ (get_put_self _ _ _)
    | succ k=>
     rw [h2 k o' d' (by simpa using hk) hd']
     congr 1
     omega
theorem tmpsOk_ok {D b:Tr Nat} {i:Nat} {late:Bool}:∀{l:List Tmp},tmpsOk D b i late l=true→∀t∈l,∀j,D.get t=some j→(orO (b.get i)).testBit j=true∨(late=true∧(orO (b.get j)).testBit i=true)
 | [],_,t,ht,_,_=> by cases ht
 | t::l,h,t',ht,j,hj=> by
  have h: @Option.rec Nat (fun _=> Bool) (tmpsOk D b i late l) (fun j=> ifB (Bool.or (bitB (orO (b.get i)) j) (Bool.and late (bitB (orO (b.get j)) i))) (tmpsOk D b i late l) false) (D.get t)=true:=h
  rcases List.mem_cons.1 ht with rfl | ht
  ·rw [hj] at h
   cases hb:Bool.or (bitB (orO (b.get i)) j) (Bool.and late (bitB (orO (b.get j)) i))
   ·have h:ifB (Bool.or (bitB (orO (b.get i)) j) (Bool.and late (bitB (orO (b.get j)) i))) (tmpsOk D b i late l) false=true:=h
    rw [hb] at h
    cases h
   ·have hb:(bitB (orO (b.get i)) j || (late && bitB (orO (b.get j)) i))=true:=hb
    rw [Bool.or_eq_true,Bool.and_eq_true,bitB_eq,bitB_eq] at hb
    exact hb
  ·have h2:tmpsOk D b i late l=true:=by
    cases hd:D.get t with
    | none=> rw [hd] at h;exact h
    | some j'=>
     rw [hd] at h
     have h:ifB (Bool.or (bitB (orO (b.get i)) j') (Bool.and late (bitB (orO (b.get j')) i))) (tmpsOk D b i late l) false=true:=h
     cases hb:Bool.or (bitB (orO (b.get i)) j') (Bool.and late (bitB (orO (b.get j')) i))
     ·rw [hb] at h;cases h
     ·rw [hb] at h;exact h
   exact tmpsOk_ok h2 t' ht j hj
theorem lateB_ok {o:Oper} (h:lateB o=true):¬(cls o.op=1∨rdsB o.op=true)∨cls o.op=2:=by
 have h:(Nat.beq (cls o.op) 2 || (Nat.beq (cls o.op) 0 && !(rdsB o.op)))=true:=h
 rw [Bool.or_eq_true,Bool.and_eq_true] at h
 rcases h with h | ⟨h1,h2⟩
 ·exact Or.inr (beq_eq' h)
 ·left
  have h1:=beq_eq' h1
  rintro (h | h)
  ·omega
  ·rw [h] at h2
   cases h2
theorem readsOk_ok {ops:Array Oper} {D b:Tr Nat}:∀(l:List Oper) (i:Nat),readsOk ops D b l i=true→∀(k:Nat) (o:Oper),l[k]? =some o→tmpsOk D b (i + k) (lateB o) (o.looksAt ops)=true
 | [],i,h,k,o,hk=> by simp at hk
 | o::l,i,h,k,o',hk=> by
  have h:ifB (tmpsOk D b i (lateB o) (o.looksAt ops)) (readsOk ops D b l (Nat.succ i)) false=true:=h
  cases hb:tmpsOk D b i (lateB o) (o.looksAt ops)
  ·rw [hb] at h;cases h
  ·rw [hb] at h
   cases k with
   | zero=>
    simp at hk
    subst hk
    exact hb
   | succ k=>
    have:=readsOk_ok l (i + 1) h k o' (by simpa using hk)
    rw [show i + (k + 1)=i + 1 + k by omega]
    exact this
theorem backE_ok {i:Nat}:∀(l:List Edge),backE i l=true→∀e∈l,Region.binds .any e=true→e.on < i
 | [],_,e,he,_=> by cases he
 | e::l,h,e',he,hb=> by
  have h:ifB (Region.binds .any e) (ifB (Nat.ble (Nat.succ e.on) i) (backE i l) false) (backE i l)=true:=h
  rcases List.mem_cons.1 he with rfl | he
  ·rw [hb] at h
   have h:ifB (Nat.ble (Nat.succ e'.on) i) (backE i l) false=true:=h
   cases hc:Nat.ble (Nat.succ e'.on) i
   ·rw [hc] at h;cases h
   ·exact ble_le hc
  ·refine backE_ok l ?_ e' he hb
   cases hc:Region.binds .any e
   ·rw [hc] at h;exact h
   ·rw [hc] at h
    have h:ifB (Nat.ble (Nat.succ e.on) i) (backE i l) false=true:=h
    cases hd:Nat.ble (Nat.succ e.on) i
    ·rw [hd] at h;cases h
    ·rw [hd] at h;exact h
theorem backOk_ok:∀(l:List Oper) (i:Nat),backOk l i=true→∀(k:Nat) (o:Oper),l[k]? =some o→∀e∈o.after,Region.binds .any e=true→e.on < i + k
 | [],i,h,k,o,hk=> by simp at hk
 | o::l,i,h,k,o',hk=> by
  have h:ifB (backE i o.after.toList) (backOk l (Nat.succ i)) false=true:=h
  cases hb:backE i o.after.toList
  ·rw [hb] at h;cases h
  ·rw [hb] at h
   cases k with
   | zero=>
    simp at hk
    subst hk
    exact fun e he=> backE_ok _ hb e (by simpa using he)
   | succ k=>
    have:=backOk_ok l (i + 1) h k o' (by simpa using hk)
    rw [show i + (k + 1)=i + 1 + k by omega]
    exact this
theorem laterOk_ok {b:Tr Nat} {e:Nat}:∀(l:List Oper) (i done:Nat),laterOk b e l i done=true→∀k,k < l.length→done.testBit (i + k)=true∨i + k=e∨(orO (b.get (i + k))).testBit e=true
 | [],i,done,h,k,hk=> by simp at hk
 | o::l,i,done,h,k,hk=> by
  have h:ifB (Bool.or (bitB done i) (Bool.or (Nat.beq i e) (bitB (orO (b.get i)) e))) (laterOk b e l (Nat.succ i) done) false=true:=h
  cases hb:Bool.or (bitB done i) (Bool.or (Nat.beq i e) (bitB (orO (b.get i)) e))
  ·rw [hb] at h;cases h
  ·rw [hb] at h
   cases k with
   | zero=>
    have hb:(bitB done i || (Nat.beq i e || bitB (orO (b.get i)) e))=true:=hb
    rw [Bool.or_eq_true,Bool.or_eq_true,bitB_eq,bitB_eq] at hb
    rcases hb with hb | hb | hb
    ·exact Or.inl hb
    ·exact Or.inr (Or.inl (beq_eq' hb))
    ·exact Or.inr (Or.inr hb)
   | succ k=>
    have:=laterOk_ok l (i + 1) done h k (by simpa using hk)
    rw [show i + (k + 1)=i + 1 + k by omega]
    exact this
theorem maskC_ok:∀{l:List Nat} {i:Nat},(maskC l).testBit i=true→i∈l
 | [],i,h=> by
  have h:(0:Nat).testBit i=true:=h
  rw [zero_bit] at h
  cases h
 | j::l,i,h=> by
  have h:(Nat.lor (Nat.pow 2 j) (maskC l)).testBit i=true:=h
  rw [or_bit,pow_bit,Bool.or_eq_true,decide_eq_true_iff] at h
  rcases h with h | h
  ·rw [h];exact List.mem_cons_self ..
  ·exact List.mem_cons_of_mem _ (maskC_ok h)
theorem againOk_ok {m:Nat}:∀(l:List Oper) (i done rs:Nat),againOk m l i done rs=true→∀(k:Nat) (o:Oper),l[k]? =some o→done.testBit (i + k)=true→cls o.op≠2→(cls o.op=1∨rdsB o.op=true)→m.testBit (i + k)=true∨rs.testBit (i + k)=true
 | [],i,done,rs,h,k,o,hk,_,_,_=> by simp at hk
 | o::l,i,done,rs,h,k,o',hk,h1,h2,h3=> by
  have h:ifB (Bool.and (bitB done i) (Bool.and (Bool.not (Nat.beq (cls o.op) 2)) (Bool.or (Nat.beq (cls o.op) 1) (rdsB o.op)))) (ifB (Bool.or (bitB m i) (bitB rs i)) (againOk m l (Nat.succ i) done rs) false) (againOk m l (Nat.succ i) done rs)=true:=h
  have rest:againOk m l (i + 1) done rs=true:=by
   cases hb:Bool.and (bitB done i) (Bool.and (Bool.not (Nat.beq (cls o.op) 2)) (Bool.or (Nat.beq (cls o.op) 1) (rdsB o.op)))
   ·rw [hb] at h;exact h
   ·rw [hb] at h
    have h:ifB (Bool.or (bitB m i) (bitB rs i)) (againOk m l (Nat.succ i) done rs) false=true:=h
    cases hc:Bool.or (bitB m i) (bitB rs i)
    ·rw [hc] at h;cases h
    ·rw [hc] at h;exact h
  cases k with
  | zero=>
   simp at hk
   subst hk
   have hb:Bool.and (bitB done i) (Bool.and (Bool.not (Nat.beq (cls o.op) 2)) (Bool.or (Nat.beq (cls o.op) 1) (rdsB o.op)))=true:=by
    have e1:bitB done i=true:=by rw [bitB_eq];exact h1
    have e2:Nat.beq (cls o.op) 2=false:=by
     cases hq:Nat.beq (cls o.op) 2
     ·rfl
     ·exact absurd (beq_eq' hq) h2
    have e3:Bool.or (Nat.beq (cls o.op) 1) (rdsB o.op)=true:=by
     rcases h3 with h3 | h3
     ·rw [h3];rfl
     ·rw [h3];exact Bool.or_true _
    rw [e1,e2,e3]
    rfl
   rw [hb] at h
   have h:ifB (Bool.or (bitB m i) (bitB rs i)) (againOk m l (Nat.succ i) done rs) false=true:=h
   cases hc:Bool.or (bitB m i) (bitB rs i)
   ·rw [hc] at h;cases h
   ·have hc:(bitB m i || bitB rs i)=true:=hc
    rw [Bool.or_eq_true,bitB_eq,bitB_eq] at hc
    exact hc
  | succ k=>
   rw [show i + (k + 1)=i + 1 + k by omega] at h1 ⊢
   exact againOk_ok l (i + 1) done rs rest k o' (by simpa using hk) h1 h2 h3
theorem qOk_ok {ops:List Oper} {b:Tr Nat} {i done:Nat} {k:Bool} (h:qOk ops b i done k=true):∃o,ops[i]? =some o∧(k=true↔cls o.op=2)∧done.testBit i=false∧∀j,(orO (b.get i)).testBit j=true→done.testBit j=true:=by
 have h: @Option.rec Oper (fun _=> Bool) false (fun o=> Bool.and (ifB (Nat.beq (cls o.op) 2) k (Bool.not k)) (Bool.and (Bool.not (bitB done i)) (inB (orO (b.get i)) done))) (nth ops i)=true:=h
 rw [nth_eq] at h
 cases ho:ops[i]? with
 | none=> rw [ho] at h;cases h
 | some o=>
  rw [ho] at h
  obtain ⟨h1,h2⟩:=and_true h
  obtain ⟨h2,h3⟩:=and_true h2
  refine ⟨o,rfl,?_,?_,fun j hj=> inB_bit h3 hj⟩
  ·cases hb:Nat.beq (cls o.op) 2
   ·rw [hb] at h1
    cases k
    ·exact ⟨fun h=> (by cases h),fun e=> by rw [e] at hb;cases hb⟩
    ·cases h1
   ·rw [hb] at h1
    have h1:k=true:=h1
    exact ⟨fun _=> beq_eq' hb,fun _=> h1⟩
  ·rw [bitB_eq] at h2
   cases hb:done.testBit i
   ·rfl
   ·rw [hb] at h2;cases h2
theorem clsB_le (b:Builtin):clsB b=0∨clsB b=2:=by cases b <;> first | exact Or.inl rfl | exact Or.inr rfl
theorem cls_cases (op:Op):cls op=0∨cls op=1∨cls op=2:=by
 cases op with
 | call c=>
  obtain ⟨callee,args,ts⟩:=c
  cases callee with
  | builtin b=>
   rcases clsB_le b with h | h
   ·exact Or.inl h
   ·exact Or.inr (Or.inr h)
  | _=> exact Or.inr (Or.inr rfl)
 | _=> first | exact Or.inl rfl | exact Or.inr (Or.inl rfl) | exact Or.inr (Or.inr rfl)
theorem exQ_mem {P:Program} {E:Tr CV} {h h':Tr Blk} {ty:TypeId} {op:Op} (hr:rdsB op=false):exQ P E h ty op=exQ P E h' ty op:=by
 cases op <;> first | rfl | cases hr
theorem kdSame_eq {a b:Kd} (h:kdSame a b=true):a=b:=by
 cases a <;> cases b <;> first | rfl | (rw [beq_eq' h];done) | cases h
theorem sameBlk_eq {a b:Blk} (h:sameBlk a b=true):a=b:=by
 unfold sameBlk at h
 split at h
 ·obtain ⟨h1,h2⟩:=and_true h
  rw [kdSame_eq h1,sameL_eq h2]
 ·rw [beq_eq' h]
 ·cases h
theorem want_congr {ops:Array Oper} {E E':Tr CV} {o:Oper} (h:∀t∈o.looksAt ops,E.get t=E'.get t):want ops.toList E o.guard=want ops.toList E' o.guard:=by
 cases hg:o.guard with
 | none=> rfl
 | some g=>
  show ob (nth ops.toList g.1) (fun o=> ob o.dst fun t=> ob (E.get t) (wantV g.2))=ob (nth ops.toList g.1) (fun o=> ob o.dst fun t=> ob (E'.get t) (wantV g.2))
  cases h1:nth ops.toList g.1 with
  | none=> rfl
  | some o'=>
   show ob o'.dst (fun t=> ob (E.get t) (wantV g.2))=ob o'.dst (fun t=> ob (E'.get t) (wantV g.2))
   cases h2:o'.dst with
   | none=> rfl
   | some t=>
    show ob (E.get t) (wantV g.2)=ob (E'.get t) (wantV g.2)
    rw [nth_eq,Array.getElem?_toList] at h1
    rw [h t (by
     unfold Oper.looksAt
     rw [hg]
     simp [h1,h2])]
structure Pl (ops:Array Oper) (b:Tr Nat) (nt:Nat):Prop where
 uniq:∀(i j:Nat) (o o':Oper) (d:Tmp),ops[i]? =some o→ops[j]? =some o'→o.dst=some d→o'.dst=some d→i=j
 reads:∀(i:Nat) (o:Oper),ops[i]? =some o→∀t∈o.looksAt ops,∀(j:Nat) (o':Oper),ops[j]? =some o'→o'.dst=some t→(orO (b.get i)).testBit j=true∨(lateB o=true∧(orO (b.get j)).testBit i=true)
 back:∀(i:Nat) (o:Oper),ops[i]? =some o→∀e∈o.after,Region.binds .any e=true→e.on < i
 bef:Bef ops.toList b
 dst:∀(i:Nat) (o:Oper),ops[i]? =some o→∀t,o.dst=some t→t < nt
def Early (ops:Array Oper) (b:Tr Nat) (i:Nat) (t:Tmp):Prop:=∀(j:Nat) (o':Oper),ops[j]? =some o'→o'.dst=some t→(orO (b.get i)).testBit j=true
def Late (ops:Array Oper) (b:Tr Nat) (i:Nat) (t:Tmp):Prop:=∀(j:Nat) (o':Oper),ops[j]? =some o'→o'.dst=some t→(orO (b.get j)).testBit i=true
theorem Pl.kind {ops:Array Oper} {b:Tr Nat} {nt:Nat} (hpl:Pl ops b nt) {i:Nat} {o:Oper} (hi:ops[i]? =some o) {t:Tmp} (ht:t∈o.looksAt ops):Early ops b i t∨(lateB o=true∧Late ops b i t):=by
 by_cases h:Early ops b i t
 ·exact Or.inl h
 ·right
  unfold Early at h
  have:∃(j:Nat) (o':Oper),ops[j]? =some o'∧o'.dst=some t∧¬(orO (b.get i)).testBit j=true:=by
   by_cases hq:∃(j:Nat) (o':Oper),ops[j]? =some o'∧o'.dst=some t∧¬(orO (b.get i)).testBit j=true
   ·exact hq
   ·exact absurd (fun j o' hj hd=> Classical.byContradiction fun hn=> hq ⟨j,o',hj,hd,hn⟩) h
  obtain ⟨j,o',hj,hd,hn⟩:=this
  rcases hpl.reads i o hi t ht j o' hj hd with e | ⟨e1,e2⟩
  ·exact absurd e hn
  ·refine ⟨e1,fun k o2 hk hd2=> ?_⟩
   rw [hpl.uniq k j o2 o' t hk hj hd2 hd]
   exact e2
def Src (ops:Array Oper) (b:Tr Nat) (E0:Tr CV) (st:CSt) (i:Nat) (o:Oper) (E:Tr CV) (t:Tmp):Prop:=(E.get t=st.env.get t∧Early ops b i t)∨(lateB o=true∧E.get t=E0.get t∧Late ops b i t)
def Pend (P:Program) (ops:Array Oper) (b:Tr Nat) (E0:Tr CV) (base:Nat) (st:CSt) (i:Nat) (o:Oper):Prop:=∃(E:Tr CV) (h:Tr Blk),(∀l c,h.get l=some c→st.h.get l=some c)∧(∀t∈o.looksAt ops,Src ops b E0 st i o E t)∧∃u,want ops.toList E o.guard=some u∧
 ((u=false∧∀d,o.dst=some d→st.env.get d=some (.tup []))∨
  (u=true∧((cls o.op=0∧∃v,exQ P E h o.type o.op=some v∧∀d,o.dst=some d→st.env.get d=some v)∨
   (cls o.op=1∧∃v blk,exA P E o.op (base + i)=some (v,blk)∧st.h.get (base + i)=some blk∧∀d,o.dst=some d→st.env.get d=some v))))
theorem Src.step {ops:Array Oper} {b:Tr Nat} {E0:Tr CV} {st st':CSt} {i:Nat} {o:Oper} {E:Tr CV} {t:Tmp} (h:Src ops b E0 st i o E t) (he:Early ops b i t→st'.env.get t=st.env.get t):Src ops b E0 st' i o E t:=by
 rcases h with ⟨h1,h2⟩ | h
 ·exact Or.inl ⟨by rw [he h2];exact h1,h2⟩
 ·exact Or.inr h
theorem Pend.step {P:Program} {ops:Array Oper} {b:Tr Nat} {E0:Tr CV} {base:Nat} {st st':CSt} {i:Nat} {o:Oper} (hp:Pend P ops b E0 base st i o) (hh:∀l c,st.h.get l=some c→st'.h.get l=some c) (he:∀t∈o.looksAt ops,Early ops b i t→st'.env.get t=st.env.get t) (hd:∀d,o.dst=some d→st'.env.get d=st.env.get d):Pend P ops b E0 base st' i o:=by
 obtain ⟨E,h,h1,h2,u,h3,h4⟩:=hp
 refine ⟨E,h,fun l c hc=> hh l c (h1 l c hc),fun t ht=> (h2 t ht).step (he t ht),u,h3,?_⟩
 rcases h4 with ⟨h5,h6⟩ | ⟨h5,h6⟩
 ·exact Or.inl ⟨h5,fun d hd'=> by rw [hd d hd'];exact h6 d hd'⟩
 ·refine Or.inr ⟨h5,?_⟩
  rcases h6 with ⟨h7,v,h8,h9⟩ | ⟨h7,v,blk,h8,h9,h10⟩
  ·exact Or.inl ⟨h7,v,h8,fun d hd'=> by rw [hd d hd'];exact h9 d hd'⟩
  ·exact Or.inr ⟨h7,v,blk,h8,hh _ _ h9,fun d hd'=> by rw [hd d hd'];exact h10 d hd'⟩
structure Inv (P:Program) (ops:Array Oper) (b:Tr Nat) (E0:Tr CV) (base:Nat) (w0:Base) (nt:Nat) (σ0:Nm) (st:CSt) (D X:Nat→Prop) (σ:Nm) (a:Act) (w:World):Prop where
 r:R w0 σ st.h st.nx w
 le:Le σ0 σ
 low:∀j,j < base→σ j=σ0 j
 room:base + ops.size≤st.nx
 size:a.tmps.size=nt
 defers:a.defers= []
 env:∀t c,st.env.get t=some c→(∀i o,ops[i]? =some o→o.dst=some t→X i)→∃v,a.tmps[t]? =some v∧VR σ c v
 env0:∀t c,E0.get t=some c→(∀i o,ops[i]? =some o→o.dst=some t→¬X i)→∃v,a.tmps[t]? =some v∧VR σ c v
 envD:∀t,(∀i o,ops[i]? =some o→o.dst=some t→¬D i)→st.env.get t=E0.get t
 sub:∀i,X i→D i
 eff:∀i o,ops[i]? =some o→D i→cls o.op=2→X i
 cD:∀i,D i→∀j,(orO (b.get i)).testBit j=true→D j
 cX:∀i,X i→∀j,(orO (b.get i)).testBit j=true→X j
 lab:∀i o,ops[i]? =some o→cls o.op=1→¬X i→σ (base + i)=none
 pend:∀i o,ops[i]? =some o→D i→¬X i→Pend P ops b E0 base st i o
section
variable {P : Program} {G : Base → Prop} {C : Callee} {ops : Array Oper} {b : Tr Nat} {E0 : Tr CV} {base nt : Nat} {w0 : Base} {w : World} {σ0 σ : Nm} {st st' : CSt} {D X : Nat → Prop} {a : Act} {o : Oper} {i : Nat} {Q : Exit → Act → World → Prop} {K : Act → World → Prop}
theorem putE_get {E:Tr CV} {d:Option Tmp} {v:CV} {t:Tmp} (h:d≠some t):(putE E d v).get t=E.get t:=by
 cases d with
 | none=> rfl
 | some d=> exact get_put_ne _ _ fun e=> h (by rw [e])
theorem putE_self {E:Tr CV} {d:Option Tmp} {v:CV} {t:Tmp} (h:d=some t):(putE E d v).get t=some v:=by
 subst h
 exact get_put_self _ _ _
theorem Pl.fresh (hpl:Pl ops b nt) {D:Nat→Prop} {i j:Nat} {o o':Oper} (hi:ops[i]? =some o) (hj:ops[j]? =some o') (hc:∀k,(orO (b.get j)).testBit k=true→D k) (hD:¬D i):(∀t∈o'.looksAt ops,Early ops b j t→o.dst≠some t)∧(i≠j→∀d,o'.dst=some d→o.dst≠some d):=
 ⟨fun _t _ he e=> hD (hc i (he i o hi e)),fun hne d hd e=> hne (hpl.uniq i j o o' d hi hj e hd)⟩
theorem Inv.plan (hpl:Pl ops b nt) (h:Inv P ops b E0 base w0 nt σ0 st D X σ a w) (hi:ops[i]? =some o) (hk:cls o.op≠2) (hD:¬D i) (hb:∀j,(orO (b.get i)).testBit j=true→D j) (hr:ex1g P C ops.toList o (base + i) st=some st'):
  Inv P ops b E0 base w0 nt σ0 st' (fun j=> D j∨j=i) X σ a w:=by
 have hX:¬X i:=fun e=> hD (h.sub i e)
 obtain ⟨u,h1,h2⟩:=ob_some hr
 have key:∃v,(∀t,st'.env.get t=(putE st.env o.dst v).get t)∧st'.nx=st.nx∧(∀l c,st.h.get l=some c→st'.h.get l=some c)∧(∀l,st'.h.get l=st.h.get l∨(l=base + i∧cls o.op=1))∧Pend P ops b E0 base st' i o:=by
  have hself:=hpl.fresh hi hi hb hD
  have src:∀(st2:CSt) (v:CV),st2.env=putE st.env o.dst v→∀t∈o.looksAt ops,Src ops b E0 st2 i o st.env t:=fun st2 v he t ht=> by
   rcases hpl.kind hi ht with e | ⟨e1,e2⟩
   ·refine Or.inl ⟨?_,e⟩
    rw [he]
    exact (putE_get (hself.1 t ht e)).symm
   ·exact Or.inr ⟨e1,h.envD t fun j o' hj hd e=> hD (h.cD j e i (e2 j o' hj hd)),e2⟩
  cases u
  ·injection (show some (⟨putE st.env o.dst (.tup []),st.h,st.nx⟩:CSt)=some st' from h2) with h2
   subst h2
   exact ⟨.tup [],fun t=> rfl,rfl,fun _ _ h=> h,fun _=> Or.inl rfl,st.env,st.h,fun _ _ h=> h,src _ _ rfl,false,h1,Or.inl ⟨rfl,fun d hd=> putE_self hd⟩⟩
  ·have h3:ex1 P C o (base + i) st=some st':=h2
   unfold ex1 at h3
   rcases cls_cases o.op with e | e | e
   ·rw [e] at h3
    obtain ⟨v,h4,h5⟩:=ob_some (show doQ st o.dst (exQ P st.env st.h o.type o.op)=some st' from h3)
    injection h5 with h5
    subst h5
    exact ⟨v,fun t=> rfl,rfl,fun _ _ h=> h,fun _=> Or.inl rfl,st.env,st.h,fun _ _ h=> h,src _ _ rfl,true,h1,Or.inr ⟨rfl,Or.inl ⟨e,v,h4,fun d hd=> putE_self hd⟩⟩⟩
   ·rw [e] at h3
    obtain ⟨q,h4,h5⟩:=ob_some (show doA st o.dst (base + i) (exA P st.env o.op (base + i))=some st' from h3)
    obtain ⟨h6,h7⟩:=noneO_some h5
    injection h7 with h7
    subst h7
    refine ⟨q.1,fun t=> rfl,rfl,fun l c hl=> ?_,fun l=> ?_,st.env,st.h,fun l c hl=> ?_,src _ _ rfl,true,h1,Or.inr ⟨rfl,Or.inr ⟨e,q.1,q.2,h4,get_put_self _ _ _,fun d hd=> putE_self hd⟩⟩⟩
    ·by_cases hl':l=base + i
     ·rw [hl',h6] at hl;cases hl
     ·show (st.h.put (base + i) q.2).get l=_
      rw [get_put_ne _ _ hl'];exact hl
    ·by_cases hl':l=base + i
     ·exact Or.inr ⟨hl',e⟩
     ·exact Or.inl (get_put_ne _ _ hl')
    ·by_cases hl':l=base + i
     ·rw [hl',h6] at hl;cases hl
     ·show (st.h.put (base + i) q.2).get l=_
      rw [get_put_ne _ _ hl'];exact hl
   ·exact absurd e hk
 obtain ⟨v,e1,e2,e3,e4,e5⟩:=key
 refine ⟨h.r.heap (by rw [e2];exact Nat.le_refl _) fun l c hl=> ?_,h.le,h.low,by rw [e2];exact h.room,h.size,h.defers,fun t c hc hw=> ?_,h.env0,fun t hw=> ?_,fun j hj=> Or.inl (h.sub j hj),fun j o' hj hd hc=> ?_,fun j hj k hk'=> ?_,h.cX,h.lab,fun j o' hj hd hx=> ?_⟩
 ·rcases e4 l with e | ⟨e,ec⟩
  ·exact Or.inl e
  ·rw [e,h.lab i o hi ec hX] at hl
   cases hl
 ·rw [e1] at hc
  by_cases ht:o.dst=some t
  ·exact absurd (hw i o hi ht) hX
  ·rw [putE_get ht] at hc
   exact h.env t c hc hw
 ·rw [e1,putE_get fun e=> hw i o hi e (Or.inr rfl)]
  exact h.envD t fun j o' hj hd e=> hw j o' hj hd (Or.inl e)
 ·rcases hd with hd | hd
  ·exact h.eff j o' hj hd hc
  ·subst hd
   rw [hi] at hj
   injection hj with hj
   subst hj
   exact absurd hc hk
 ·rcases hj with hj | hj
  ·exact Or.inl (h.cD j hj k hk')
  ·subst hj
   exact Or.inl (hb k hk')
 ·by_cases hji:j=i
  ·subst hji
   rw [hi] at hj
   injection hj with hj
   subst hj
   exact e5
  ·have hd:D j:=by
    rcases hd with hd | hd
    ·exact hd
    ·exact absurd hd hji
   obtain ⟨f1,f2⟩:=hpl.fresh hi hj (h.cD j hd) hD
   exact (h.pend j o' hj hd hx).step e3 (fun t ht he=> by rw [e1];exact putE_get (f1 t ht he)) fun d hd'=> by rw [e1];exact putE_get (f2 (fun e=> hji e.symm) d hd')
theorem Inv.come (hpl:Pl ops b nt) (h:Inv P ops b E0 base w0 nt σ0 st D X σ a w) (hi:ops[i]? =some o) (hD:D i) (hX:¬X i) (hb:∀j,(orO (b.get i)).testBit j=true→X j)
  (hK:∀σ' a' w',Inv P ops b E0 base w0 nt σ0 st D (fun j=> X j∨j=i) σ' a' w'→K a' w'):if Region.wanted o (yielded ops a.tmps) then o.wp P a w K Q else K (a.put o.dst undef) w:=by
 obtain ⟨E,h0,p1,p2,u,p3,p4⟩:=h.pend i o hi hD hX
 have hlook:∀t∈o.looksAt ops,∀c,E.get t=some c→∃v,a.tmps[t]? =some v∧VR σ c v:=fun t ht c hc=> by
  rcases p2 t ht with ⟨e1,e2⟩ | ⟨_,e2,e3⟩
  ·exact h.env t c (by rw [←e1];exact hc) fun j o' hj hd=> hb j (e2 j o' hj hd)
  ·exact h.env0 t c (by rw [←e2];exact hc) fun j o' hj hd e=> hX (h.cX j e i (e3 j o' hj hd))
 have hev:Evs σ E a.eval o.op.operands:=fun x hx c hc=> ev_rel (fun t ht c hc=> hlook t (by
  subst ht
  unfold Oper.looksAt
  exact List.mem_append_left _ (List.mem_filterMap.2 ⟨.tmp t,by simpa using hx,rfl⟩)) c hc) hc
 have hr0:R w0 σ h0 st.nx w:=h.r.heap (Nat.le_refl _) fun l c _=> by
  cases hl:h0.get l with
  | none=> exact Or.inr rfl
  | some c'=> exact Or.inl (p1 l c' hl).symm
 have fin:∀(σ':Nm) (x:Value) (w':World) (v:CV),Le σ σ'→R w0 σ' st.h st.nx w'→(∀j,j≠base + i→σ' j=σ j)→(cls o.op≠1→σ' (base + i)=σ (base + i))→VR σ' v x→(∀d,o.dst=some d→st.env.get d=some v)→K (a.put o.dst x) w':=by
  intro σ' x w' v hle hr hne hne2 hv hd
  refine hK σ' _ w' ⟨hr,h.le.trans hle,fun j hj=> by rw [hne j (by omega)];exact h.low j hj,h.room,by rw [put_size];exact h.size,by rw [put_defers];exact h.defers,fun t c hc hw=> ?_,fun t c hc hw=> ?_,h.envD,fun j hj=> ?_,fun j o' hj hdj hc=> Or.inl (h.eff j o' hj hdj hc),h.cD,fun j hj k hk=> ?_,fun j o' hj hc hx=> ?_,fun j o' hj hdj hx=> h.pend j o' hj hdj fun e=> hx (Or.inl e)⟩
  ·by_cases ht:o.dst=some t
   ·rw [hd t ht] at hc
    injection hc with hc
    subst hc
    refine ⟨x,?_,hv⟩
    rw [ht]
    have:t < a.tmps.size:=by rw [h.size];exact hpl.dst i o hi t ht
    simp [Act.put,this]
   ·obtain ⟨y,y1,y2⟩:=h.env t c hc fun j o' hj hdj=> by
     rcases hw j o' hj hdj with e | e
     ·exact e
     ·subst e
      rw [hi] at hj
      injection hj with hj
      subst hj
      exact absurd hdj ht
    refine ⟨y,?_,y2.mono hle⟩
    cases hdst:o.dst with
    | none=> exact y1
    | some d=>
     have:d≠t:=fun e=> ht (by rw [hdst,e])
     simp only [Act.put]
     rw [Array.getElem?_setIfInBounds_ne this]
     exact y1
  ·obtain ⟨y,y1,y2⟩:=h.env0 t c hc fun j o' hj hdj e=> hw j o' hj hdj (Or.inl e)
   refine ⟨y,?_,y2.mono hle⟩
   cases hdst:o.dst with
   | none=> exact y1
   | some d=>
    have:d≠t:=fun e=> hw i o hi (by rw [hdst,e]) (Or.inr rfl)
    simp only [Act.put]
    rw [Array.getElem?_setIfInBounds_ne this]
    exact y1
  ·rcases hj with hj | hj
   ·exact h.sub j hj
   ·rw [hj];exact hD
  ·rcases hj with hj | hj
   ·exact Or.inl (h.cX j hj k hk)
   ·subst hj
    exact Or.inl (hb k hk)
  ·have hji:j≠i:=fun e=> hx (Or.inr e)
   rw [hne (base + j) (by omega)]
   exact h.lab j o' hj hc fun e=> hx (Or.inl e)
 rw [want_ok hlook p3]
 rcases p4 with ⟨rfl,p5⟩ | ⟨rfl,p5⟩
 ·rw [if_neg (by simp)]
  exact fin σ undef w (.tup []) (.refl σ) h.r (fun _ _=> rfl) (fun _=> rfl) (.unit σ) p5
 ·rw [if_pos rfl]
  rcases p5 with ⟨e,v,p6,p7⟩ | ⟨e,v,blk,p6,p7,p8⟩
  ·obtain ⟨x,q1,q2⟩:=exQ_ok (ρ:=a.eval) hr0 hev p6
   exact wp_val q1 (fin σ x w v (.refl σ) h.r (fun _ _=> rfl) (fun _=> rfl) q2 p7)
  ·obtain ⟨obj,room,x,q1,q2⟩:=exA_ok (σ:=σ) (ρ:=a.eval) (w:=w) hev p6
   have hn:=h.lab i o hi e hX
   obtain ⟨q3,q4⟩:=q2 (setN σ (base + i) ⟨w.heap.size,0,room⟩) (setN_le _ hn) (setN_self _ _ _)
   have hlt:base + i < st.nx:=by
    have h1:=h.room
    have h2:=(Array.getElem?_eq_some_iff.1 hi).1
    omega
   have hr:=h.r.new (H':=st.h) (nx':=st.nx) (room:=room) hn hlt (Nat.le_refl _) p7 (fun _ _=> rfl) obj q3
   exact wp_val q1 (fin (setN σ (base + i) ⟨w.heap.size,0,room⟩) x (w.alloc obj) v (setN_le _ hn) hr (fun j hj=> setN_ne σ _ hj) (fun hne=> absurd e hne) q4 p8)
theorem again_ok {P:Program} {ops:List Oper} {base:Nat} {st:CSt}:∀{rs:List Nat},again P ops base st rs=true→∀i∈rs,∃o,ops[i]? =some o∧∃u,want ops st.env o.guard=some u∧(u=true→again1 P o (base + i) st=true)
 | [],_,i,hi=> by cases hi
 | j::rs,h,i,hi=> by
  have h: @Option.rec Oper (fun _=> Bool) false (fun o=> @Option.rec Bool (fun _=> Bool) false (fun w=> ifB w (ifB (again1 P o (Nat.add base j) st) (again P ops base st rs) false) (again P ops base st rs)) (want ops st.env o.guard)) (nth ops j)=true:=h
  rw [nth_eq] at h
  cases ho:ops[j]? with
  | none=> rw [ho] at h;cases h
  | some o=>
   rw [ho] at h
   have h: @Option.rec Bool (fun _=> Bool) false (fun w=> ifB w (ifB (again1 P o (Nat.add base j) st) (again P ops base st rs) false) (again P ops base st rs)) (want ops st.env o.guard)=true:=h
   cases hw:want ops st.env o.guard with
   | none=> rw [hw] at h;cases h
   | some u=>
    rw [hw] at h
    have h:ifB u (ifB (again1 P o (Nat.add base j) st) (again P ops base st rs) false) (again P ops base st rs)=true:=h
    cases u
    ·rcases List.mem_cons.1 hi with rfl | hi
     ·exact ⟨o,ho,false,hw,fun e=> by cases e⟩
     ·exact again_ok h i hi
    ·have h:ifB (again1 P o (Nat.add base j) st) (again P ops base st rs) false=true:=h
     cases hb:again1 P o (Nat.add base j) st
     ·rw [hb] at h;cases h
     ·rw [hb] at h
      rcases List.mem_cons.1 hi with rfl | hi
      ·exact ⟨o,ho,true,hw,fun _=> hb⟩
      ·exact again_ok h i hi
theorem again1_pend {o:Oper} {i:Nat} (hw:∃u,want ops.toList st.env o.guard=some u∧(u=true→again1 P o (base + i) st=true)∧(u=false→∀d,o.dst=some d→st.env.get d=some (.tup []))) (hk:cls o.op≠2) (hE:∀t∈o.looksAt ops,Early ops b i t):Pend P ops b E0 base st i o:=by
 obtain ⟨u,h1,h2,h3⟩:=hw
 refine ⟨st.env,st.h,fun _ _ h=> h,fun t ht=> Or.inl ⟨rfl,hE t ht⟩,u,h1,?_⟩
 cases u
 ·exact Or.inl ⟨rfl,h3 rfl⟩
 ·refine Or.inr ⟨rfl,?_⟩
  have h2:=h2 rfl
  unfold again1 at h2
  rcases cls_cases o.op with e | e | e
  ·rw [e] at h2
   have h2: @Option.rec CV (fun _=> Bool) false (fun v=> @Option.rec Tmp (fun _=> Bool) true (fun d=> @Option.rec CV (fun _=> Bool) false (same v) (st.env.get d)) o.dst) (exQ P st.env st.h o.type o.op)=true:=h2
   cases hq:exQ P st.env st.h o.type o.op with
   | none=> rw [hq] at h2;cases h2
   | some v=>
    rw [hq] at h2
    have h2: @Option.rec Tmp (fun _=> Bool) true (fun d=> @Option.rec CV (fun _=> Bool) false (same v) (st.env.get d)) o.dst=true:=h2
    refine Or.inl ⟨e,v,rfl,fun d hd=> ?_⟩
    rw [hd] at h2
    have h2: @Option.rec CV (fun _=> Bool) false (same v) (st.env.get d)=true:=h2
    cases hg:st.env.get d with
    | none=> rw [hg] at h2;cases h2
    | some c=>
     rw [hg] at h2
     rw [same_eq (show same v c=true from h2)]
  ·rw [e] at h2
   have h2: @Option.rec (CV×Blk) (fun _=> Bool) false (fun q=> Bool.and (@Option.rec Blk (fun _=> Bool) false (sameBlk q.2) (st.h.get (base + i))) (@Option.rec Tmp (fun _=> Bool) true (fun d=> @Option.rec CV (fun _=> Bool) false (same q.1) (st.env.get d)) o.dst)) (exA P st.env o.op (base + i))=true:=h2
   cases hq:exA P st.env o.op (base + i) with
   | none=> rw [hq] at h2;cases h2
   | some q=>
    rw [hq] at h2
    obtain ⟨k1,k2⟩:=and_true (show Bool.and (@Option.rec Blk (fun _=> Bool) false (sameBlk q.2) (st.h.get (base + i))) (@Option.rec Tmp (fun _=> Bool) true (fun d=> @Option.rec CV (fun _=> Bool) false (same q.1) (st.env.get d)) o.dst)=true from h2)
    refine Or.inr ⟨e,q.1,q.2,rfl,?_,fun d hd=> ?_⟩
    ·cases hg:st.h.get (base + i) with
     | none=> rw [hg] at k1;cases k1
     | some c=>
      rw [hg] at k1
      rw [sameBlk_eq (show sameBlk q.2 c=true from k1)]
    ·rw [hd] at k2
     have k2: @Option.rec CV (fun _=> Bool) false (same q.1) (st.env.get d)=true:=k2
     cases hg:st.env.get d with
     | none=> rw [hg] at k2;cases k2
     | some c=>
      rw [hg] at k2
      rw [same_eq (show same q.1 c=true from k2)]
  ·exact absurd e hk
theorem Inv.effect (hC:CallOk P G C) (hG:G w0) (hpl:Pl ops b nt) (h:Inv P ops b E0 base w0 nt σ0 st D X σ a w) (hi:ops[i]? =some o) (hk:cls o.op=2) (hD:¬D i) (hb:∀j,(orO (b.get i)).testBit j=true→X j) (hr:ex1g P C ops.toList o (base + i) st=some st') {rs:List Nat} (ha:again P ops.toList base st' rs=true)
  (hag:∀j o',ops[j]? =some o'→D j→¬X j→(cls o'.op=1∨rdsB o'.op=true)→j∈rs)
  (hK:∀σ' a' w',Inv P ops b E0 base w0 nt σ0 st' (fun j=> D j∨j=i) (fun j=> X j∨j=i) σ' a' w'→K a' w'):if Region.wanted o (yielded ops a.tmps) then o.wp P a w K Q else K (a.put o.dst undef) w:=by
 have hX:¬X i:=fun e=> hD (h.sub i e)
 have hlook:∀t∈o.looksAt ops,∀c,st.env.get t=some c→∃v,a.tmps[t]? =some v∧VR σ c v:=fun t ht c hc=> by
  rcases hpl.kind hi ht with e | ⟨_,e⟩
  ·exact h.env t c hc fun j o' hj hd=> hb j (e j o' hj hd)
  ·have hnd:∀j o',ops[j]? =some o'→o'.dst=some t→¬D j:=fun j o' hj hd e'=> hD (h.cD j e' i (e j o' hj hd))
   exact h.env0 t c (by rw [←h.envD t hnd];exact hc) fun j o' hj hd e'=> hnd j o' hj hd (h.sub j e')
 have hev:Evs σ st.env a.eval o.op.operands:=fun x hx c hc=> ev_rel (fun t ht c hc=> hlook t (by
  subst ht
  unfold Oper.looksAt
  exact List.mem_append_left _ (List.mem_filterMap.2 ⟨.tmp t,by simpa using hx,rfl⟩)) c hc) hc
 obtain ⟨u,h1,h2⟩:=ob_some hr
 have fin:∀(σ':Nm) (x:Value) (w':World) (v:CV) (H':Tr Blk) (nx':Nat),st'=⟨putE st.env o.dst v,H',nx'⟩→Le σ σ'→(∀j,j < st.nx→σ' j=σ j)→R w0 σ' H' nx' w'→st.nx≤nx'→VR σ' v x→K (a.put o.dst x) w':=by
  intro σ' x w' v H' nx' hst hle hlow hr' hnx hv
  subst hst
  have hroom:=h.room
  refine hK σ' _ w' ⟨hr',h.le.trans hle,fun j hj=> by rw [hlow j (by omega)];exact h.low j hj,Nat.le_trans hroom hnx,by rw [put_size];exact h.size,by rw [put_defers];exact h.defers,fun t c hc hw=> ?_,fun t c hc hw=> ?_,fun t hw=> ?_,fun j hj=> ?_,fun j o' hj hdj hc=> ?_,fun j hj k hk'=> ?_,fun j hj k hk'=> ?_,fun j o' hj hc hx=> ?_,fun j o' hj hdj hx=> ?_⟩
  ·have hc:(putE st.env o.dst v).get t=some c:=hc
   by_cases ht:o.dst=some t
   ·rw [putE_self ht] at hc
    injection hc with hc
    subst hc
    refine ⟨x,?_,hv⟩
    rw [ht]
    have:t < a.tmps.size:=by rw [h.size];exact hpl.dst i o hi t ht
    simp [Act.put,this]
   ·rw [putE_get ht] at hc
    obtain ⟨y,y1,y2⟩:=h.env t c hc fun j o' hj hdj=> by
     rcases hw j o' hj hdj with e | e
     ·exact e
     ·subst e
      rw [hi] at hj
      injection hj with hj
      subst hj
      exact absurd hdj ht
    refine ⟨y,?_,y2.mono hle⟩
    cases hdst:o.dst with
    | none=> exact y1
    | some d=>
     have:d≠t:=fun e=> ht (by rw [hdst,e])
     simp only [Act.put]
     rw [Array.getElem?_setIfInBounds_ne this]
     exact y1
  ·obtain ⟨y,y1,y2⟩:=h.env0 t c hc fun j o' hj hdj e=> hw j o' hj hdj (Or.inl e)
   refine ⟨y,?_,y2.mono hle⟩
   cases hdst:o.dst with
   | none=> exact y1
   | some d=>
    have:d≠t:=fun e=> hw i o hi (by rw [hdst,e]) (Or.inr rfl)
    simp only [Act.put]
    rw [Array.getElem?_setIfInBounds_ne this]
    exact y1
  ·show (putE st.env o.dst v).get t=E0.get t
   rw [putE_get fun e=> hw i o hi e (Or.inr rfl)]
   exact h.envD t fun j o' hj hd e=> hw j o' hj hd (Or.inl e)
  ·rcases hj with hj | hj
   ·exact Or.inl (h.sub j hj)
   ·exact Or.inr hj
  ·rcases hdj with hdj | hdj
   ·exact Or.inl (h.eff j o' hj hdj hc)
   ·exact Or.inr hdj
  ·rcases hj with hj | hj
   ·exact Or.inl (h.cD j hj k hk')
   ·subst hj
    exact Or.inl (h.sub k (hb k hk'))
  ·rcases hj with hj | hj
   ·exact Or.inl (h.cX j hj k hk')
   ·subst hj
    exact Or.inl (hb k hk')
  ·have hjs:=(Array.getElem?_eq_some_iff.1 hj).1
   rw [hlow (base + j) (by omega)]
   exact h.lab j o' hj hc fun e=> hx (Or.inl e)
  ·have hji:j≠i:=fun e=> hx (Or.inr e)
   have hd0:D j:=by
    rcases hdj with e | e
    ·exact e
    ·exact absurd e hji
   have hx0:¬X j:=fun e=> hx (Or.inl e)
   have hkj:cls o'.op≠2:=fun e=> hx0 (h.eff j o' hj hd0 e)
   obtain ⟨f1,f2⟩:=hpl.fresh hi hj (h.cD j hd0) hD
   have g1:∀t∈o'.looksAt ops,Early ops b j t→(putE st.env o.dst v).get t=st.env.get t:=fun t ht he=> putE_get (f1 t ht he)
   have g2:∀d,o'.dst=some d→(putE st.env o.dst v).get d=st.env.get d:=fun d hd=> putE_get (f2 (fun e=> hji e.symm) d hd)
   obtain ⟨E,m,p1,p2,u',p3,p4⟩:=h.pend j o' hj hd0 hx0
   by_cases hin:cls o'.op=1∨rdsB o'.op=true
   ·have hnl:¬lateB o'=true:=fun e=> by
     rcases lateB_ok e with e | e
     ·exact e hin
     ·exact hkj e
    have hE:∀t∈o'.looksAt ops,Early ops b j t:=fun t ht=> by
     rcases hpl.kind hj ht with e | ⟨e,_⟩
     ·exact e
     ·exact absurd e hnl
    have hwc:want ops.toList E o'.guard=want ops.toList (putE st.env o.dst v) o'.guard:=want_congr fun t ht=> by
     rcases p2 t ht with ⟨e1,e2⟩ | ⟨e1,_⟩
     ·rw [e1,g1 t ht e2]
     ·exact absurd e1 hnl
    obtain ⟨o2,k1,u2,k2,k3⟩:=again_ok ha j (hag j o' hj hd0 hx0 hin)
    rw [Array.getElem?_toList,hj] at k1
    injection k1 with k1
    subst k1
    refine again1_pend ⟨u2,k2,k3,fun hu d hd=> ?_⟩ hkj hE
    subst hu
    have hu':u'=false:=by
     have:some u'=some false:=by rw [←p3,hwc];exact k2
     injection this
    rcases p4 with ⟨_,p5⟩ | ⟨p5,_⟩
    ·exact (g2 d hd).trans (p5 d hd)
    ·rw [hu'] at p5;cases p5
   ·have hrd:rdsB o'.op=false:=by
     cases hq:rdsB o'.op
     ·rfl
     ·exact absurd (Or.inr hq) hin
    refine ⟨E,.e,(fun l c hl=> by rw [get_e] at hl;cases hl),fun t ht=> (p2 t ht).step (g1 t ht),u',p3,?_⟩
    rcases p4 with ⟨p5,p6⟩ | ⟨p5,p6⟩
    ·exact Or.inl ⟨p5,fun d hd=> (g2 d hd).trans (p6 d hd)⟩
    ·rcases p6 with ⟨p7,v',p8,p9⟩ | ⟨p7,_⟩
     ·exact Or.inr ⟨p5,Or.inl ⟨p7,v',by rw [←p8];exact exQ_mem hrd,fun d hd=> (g2 d hd).trans (p9 d hd)⟩⟩
     ·exact absurd (Or.inl p7) hin
 rw [want_ok hlook h1]
 cases u
 ·injection (show some (⟨putE st.env o.dst (.tup []),st.h,st.nx⟩:CSt)=some st' from h2) with h2
  rw [if_neg (by simp)]
  exact fin σ undef w (.tup []) st.h st.nx h2.symm (.refl σ) (fun _ _=> rfl) h.r (Nat.le_refl _) (.unit σ)
 ·rw [if_pos rfl]
  have h3:ex1 P C o (base + i) st=some st':=h2
  unfold ex1 at h3
  rw [hk] at h3
  obtain ⟨v,H,nx,h4,h5⟩:=doE_some (show doE st o.dst (exE P C st.env st.h st.nx o.op)=some st' from h3)
  refine exE_wp hC hG h.r hev h4 fun x w' hA=> ?_
  obtain ⟨σ',s1,s2,s3,s4,s5⟩:=hA
  exact fin σ' x w' v H nx h5 s1 s2 s3 s4 s5
end
end Go.Proofs.YtmgcnoigihdhpaaGreatDoor.Ci
namespace Go.Proofs.YtmgcnoigihdhpaaGreatDoor.Ci
open Go.RowKit
section
variable {P : Program} {G : Base → Prop} {C : Callee} {ops : Array Oper} {b : Tr Nat} {E0 : Tr CV} {base nt : Nat} {w0 : Base} {σ0 : Nm} {stE : CSt} {Q : Exit → Act → World → Prop}
abbrev Bits (m:Nat):Nat→Prop:=fun j=> m.testBit j=true
theorem bits_lor (m i:Nat):(fun j=> Bits m j∨j=i)=Bits (Nat.lor m (Nat.pow 2 i)):=by
 funext j
 exact propext lor_pow.symm
theorem advance (hpl:Pl ops b nt) {X:Nat→Prop} {σ:Nm} {a:Act} {w:World}:∀(sc:List Sp) (m:Nat) (st:CSt),okSc ops.toList b sc m=true→runSc P C ops.toList base sc st=some stE→Inv P ops b E0 base w0 nt σ0 st (Bits m) X σ a w→
  ∃sc' m' st',okSc ops.toList b sc' m'=true∧runSc P C ops.toList base sc' st'=some stE∧Inv P ops b E0 base w0 nt σ0 st' (Bits m') X σ a w∧(sc'= []∨∃i rs tl,sc'= .e i rs::tl)
 | [],m,st,h1,h2,h3=> ⟨[],m,st,h1,h2,h3,Or.inl rfl⟩
 | .e i rs::tl,m,st,h1,h2,h3=> ⟨_,m,st,h1,h2,h3,Or.inr ⟨i,rs,tl,rfl⟩⟩
 | .q i::sc,m,st,h1,h2,h3=> by
  have h1:ifB (qOk ops.toList b i m false) (okSc ops.toList b sc (Nat.lor m (Nat.pow 2 i))) false=true:=h1
  cases hq:qOk ops.toList b i m false
  ·rw [hq] at h1;cases h1
  ·rw [hq] at h1
   obtain ⟨o,k1,k2,k3,k4⟩:=qOk_ok hq
   rw [Array.getElem?_toList] at k1
   obtain ⟨st1,g1,g2⟩:=ob_some (show ob (spQ P C ops.toList base i st) (runSc P C ops.toList base sc)=some stE from h2)
   obtain ⟨o',g3,g4⟩:=ob_some (show ob (nth ops.toList i) (fun o=> ex1g P C ops.toList o (Nat.add base i) st)=some st1 from g1)
   rw [nth_eq,Array.getElem?_toList,k1] at g3
   injection g3 with g3
   subst g3
   have:=h3.plan (C:=C) hpl k1 (fun e=> by have:=k2.2 e;cases this) (by show ¬m.testBit i=true;rw [k3];simp) k4 g4
   rw [bits_lor] at this
   exact advance hpl sc _ st1 h1 g2 this
abbrev Lst (listed:Array Bool):Nat→Prop:=fun j=> listed.getD j false=true
theorem lst_set {listed:Array Bool} {i:Nat} (hi:i < listed.size):(fun j=> Lst listed j∨j=i)=Lst (listed.setIfInBounds i true):=by
 funext j
 apply propext
 show (listed.getD j false=true∨j=i)↔(listed.setIfInBounds i true).getD j false=true
 by_cases hj:j=i
 ·subst hj
  simp [hi]
 ·rw [getD_set_ne false (Ne.symm hj)]
  simp [hj]
def unl (listed:Array Bool):Nat:=listed.toList.countP fun x=> !x
theorem unl_set {listed:Array Bool} {i:Nat} (hi:listed[i]? =some false):unl (listed.setIfInBounds i true) + 1=unl listed:=by
 have hlt:i < listed.size:=(Array.getElem?_eq_some_iff.1 hi).1
 have he:listed.toList[i]'(by simpa using hlt)=false:=by
  have:=(Array.getElem?_eq_some_iff.1 hi).2
  simpa using this
 have hs:∀(l:List Bool) (i:Nat) (h:i < l.length),l[i]=false→(l.set i true).countP (fun x=> !x) + 1=l.countP fun x=> !x:=by
  intro l
  induction l with
  | nil=> intro i h;simp at h
  | cons x l ih=>
   intro i h he
   cases i with
   | zero=>
    simp at he
    subst he
    simp
   | succ i=>
    have:=ih i (by simpa using h) (by simpa using he)
    simp only [List.set_cons_succ,List.countP_cons]
    omega
 unfold unl
 rw [Array.toList_setIfInBounds]
 exact hs listed.toList i (by simpa using hlt) he
theorem unl_zero {listed:Array Bool} (h:unl listed=0):∀i,i < listed.size→Lst listed i:=by
 intro i hi
 unfold unl at h
 rw [List.countP_eq_zero] at h
 have:=h listed[i] (by simp)
 show listed.getD i false=true
 rw [Array.getD_eq_getD_getElem?,Array.getElem?_eq_getElem hi]
 simpa using this
theorem ready_all (hpl:Pl ops b nt) {listed:Array Bool} (hsz:listed.size=ops.size) (h:Region.ready .any ops listed= []):∀i,i < ops.size→Lst listed i:=by
 intro i
 induction i using Nat.strongRecOn with
 | ind i ih=>
  intro hi
  cases hc:listed.getD i false
  ·exfalso
   have hx:listed.getD i true=false:=by
    rw [Array.getD_eq_getD_getElem?,Array.getElem?_eq_getElem (by omega)] at hc ⊢
    exact hc
   have:i∈Region.ready .any ops listed:=mem_ready.2 ⟨hx,ops[i],Array.getElem?_eq_getElem hi,fun e he hb=> by
    have hlt:=hpl.back i ops[i] (Array.getElem?_eq_getElem hi) e he hb
    exact ih e.on hlt (by omega)⟩
   rw [h] at this
   cases this
  ·exact hc
theorem finish {X:Nat→Prop} (hX:∀i,i < ops.size→X i) (hpl:Pl ops b nt) {σ:Nm} {a:Act} {w:World} {sc:List Sp} {m:Nat} {st:CSt} (h1:okSc ops.toList b sc m=true) (h2:runSc P C ops.toList base sc st=some stE) (h3:Inv P ops b E0 base w0 nt σ0 st (Bits m) X σ a w):Goes w0 nt σ0 base stE a w:=by
 obtain ⟨sc',m',st',k1,k2,k3,k4⟩:=advance hpl sc m st h1 h2 h3
 rcases k4 with rfl | ⟨i,rs,tl,rfl⟩
 ·injection (show some st'=some stE from k2) with k2
  subst k2
  have:=k3.room
  exact ⟨σ,k3.le,k3.low,by omega,k3.r,fun t c hc=> k3.env t c hc fun j o hj _=> hX j (Array.getElem?_eq_some_iff.1 hj).1,k3.size,k3.defers⟩
 ·have k1:ifB (Bool.and (qOk ops.toList b i m' true) (Bool.and (laterOk b i ops.toList 0 m') (againOk (orO (b.get i)) ops.toList 0 m' (maskC rs)))) (okSc ops.toList b tl (Nat.lor m' (Nat.pow 2 i))) false=true:=k1
  cases hq:Bool.and (qOk ops.toList b i m' true) (Bool.and (laterOk b i ops.toList 0 m') (againOk (orO (b.get i)) ops.toList 0 m' (maskC rs)))
  ·rw [hq] at k1;cases k1
  ·obtain ⟨q1,_⟩:=and_true hq
   obtain ⟨o,g1,_,g3,_⟩:=qOk_ok q1
   rw [Array.getElem?_toList] at g1
   have:=k3.sub i (hX i (Array.getElem?_eq_some_iff.1 g1).1)
   have this:m'.testBit i=true:=this
   rw [g3] at this
   cases this
theorem any_wp (hC:CallOk P G C) (hG:G w0) (hpl:Pl ops b nt) (hQ:∀a' w',Goes w0 nt σ0 base stE a' w'→Q .normal a' w'):∀(n:Nat) (listed:Array Bool) (sc:List Sp) (m:Nat) (st:CSt) (σ:Nm) (a:Act) (w:World),listed.size=ops.size→unl listed≤n→
  okSc ops.toList b sc m=true→runSc P C ops.toList base sc st=some stE→Inv P ops b E0 base w0 nt σ0 st (Bits m) (Lst listed) σ a w→wpAny P .any ops Q n listed a w
 | 0,listed,sc,m,st,σ,a,w,hsz,hn,h1,h2,h3=> by
  have hall:∀i,i < ops.size→Lst listed i:=fun i hi=> unl_zero (by omega) i (by omega)
  refine ⟨?_,hQ a w (finish hall hpl h1 h2 h3)⟩
  cases hr:Region.ready .any ops listed with
  | nil=> rfl
  | cons i l=>
   have hi:i∈Region.ready .any ops listed:=by rw [hr];exact List.mem_cons_self ..
   obtain ⟨k1,o,k2,_⟩:=mem_ready.1 hi
   have hlt:=(Array.getElem?_eq_some_iff.1 k2).1
   have:listed.getD i false=true:=hall i hlt
   rw [Array.getD_eq_getD_getElem?,Array.getElem?_eq_getElem (by omega)] at this k1
   simp at this k1
   rw [k1] at this
   cases this
 | n + 1,listed,sc,m,st,σ,a,w,hsz,hn,h1,h2,h3=> by
  refine ⟨fun hr=> hQ a w (finish (ready_all hpl hsz hr) hpl h1 h2 h3),fun i hi=> ?_⟩
  obtain ⟨k1,o,k2,k3⟩:=mem_ready.1 hi
  have hlt:=(Array.getElem?_eq_some_iff.1 k2).1
  have hli:listed[i]? =some false:=by
   rw [Array.getD_eq_getD_getElem?,Array.getElem?_eq_getElem (by omega)] at k1
   rw [Array.getElem?_eq_getElem (by omega)]
   simpa using k1
  have hX:¬Lst listed i:=by
   show ¬listed.getD i false=true
   rw [Array.getD_eq_getD_getElem?,hli]
   simp
  obtain ⟨sc',m',st',g1,g2,g3,g4⟩:=advance hpl sc m st h1 h2 h3
  have hb:∀j,(orO (b.get i)).testBit j=true→Lst listed j:=hpl.bef.closed (X:=Lst listed) g3.cX (i:=i) (o:=o) (by simpa using k2) k3
  unfold wpOp
  simp only [k2]
  have go:∀{R1 R2 R3:Prop} {t:Bool},(if t then R1 else R2)→(if t then R1∨R3 else R2):=by
   intro R1 R2 R3 t h
   cases t
   ·exact h
   ·exact Or.inl h
  apply go
  have hsz':(listed.setIfInBounds i true).size=ops.size:=by simpa using hsz
  have hun:unl (listed.setIfInBounds i true)≤n:=by
   have:=unl_set hli
   omega
  have hset:=lst_set (listed:=listed) (i:=i) (by omega)
  by_cases hD:m'.testBit i=true
  ·refine g3.come hpl k2 hD hX hb fun σ' a' w' hI=> ?_
   rw [hset] at hI
   exact any_wp hC hG hpl hQ n _ sc' m' st' σ' a' w' hsz' hun g1 g2 hI
  ·rcases g4 with rfl | ⟨i',rs,tl,rfl⟩
   ·have g1:Nat.beq m' (Nat.pred (Nat.pow 2 (len ops.toList)))=true:=g1
    have:=beq_eq' g1
    rw [this,all_bit,len_eq] at hD
    simp at hD
    omega
   ·have g1:ifB (Bool.and (qOk ops.toList b i' m' true) (Bool.and (laterOk b i' ops.toList 0 m') (againOk (orO (b.get i')) ops.toList 0 m' (maskC rs)))) (okSc ops.toList b tl (Nat.lor m' (Nat.pow 2 i'))) false=true:=g1
    cases hq:Bool.and (qOk ops.toList b i' m' true) (Bool.and (laterOk b i' ops.toList 0 m') (againOk (orO (b.get i')) ops.toList 0 m' (maskC rs)))
    ·rw [hq] at g1;cases g1
    rw [hq] at g1
    obtain ⟨q1,q2⟩:=and_true hq
    obtain ⟨q2,q3⟩:=and_true q2
    obtain ⟨o',r1,r2,r3,r4⟩:=qOk_ok q1
    rw [Array.getElem?_toList] at r1
    have hie:i=i':=by
     have:=laterOk_ok ops.toList 0 m' q2 i (by simpa using hlt)
     rw [Nat.zero_add] at this
     rcases this with e | e | e
     ·exact absurd e hD
     ·exact e
     ·have:=g3.sub _ (hb _ e)
      have this:m'.testBit i'=true:=this
      rw [r3] at this
      cases this
    subst hie
    rw [k2] at r1
    injection r1 with r1
    subst r1
    obtain ⟨st1,s1,s2⟩:=ob_some (show ob (spQ P C ops.toList base i st') (fun st=> ifO (again P ops.toList base st rs) (runSc P C ops.toList base tl st))=some stE from g2)
    obtain ⟨s3,s4⟩:=ifO_some s2
    obtain ⟨o',s5,s6⟩:=ob_some (show ob (nth ops.toList i) (fun o=> ex1g P C ops.toList o (Nat.add base i) st')=some st1 from s1)
    rw [nth_eq,Array.getElem?_toList,k2] at s5
    injection s5 with s5
    subst s5
    refine g3.effect hC hG hpl k2 (r2.1 rfl) hD hb s6 s3 (fun j o' hj hdj hxj hin=> ?_) fun σ' a' w' hI=> ?_
    ·have hkj:cls o'.op≠2:=fun e=> hxj (g3.eff j o' hj hdj e)
     have:=againOk_ok ops.toList 0 m' (maskC rs) q3 j o' (by simpa using hj) (by rw [Nat.zero_add];exact hdj) hkj hin
     rw [Nat.zero_add] at this
     rcases this with e | e
     ·exact absurd (hb j e) hxj
     ·exact maskC_ok e
    ·rw [hset,bits_lor] at hI
     exact any_wp hC hG hpl hQ n _ tl _ st1 σ' a' w' hsz' hun g1 s4 hI
theorem runD_wp (hm:P.follows .mixedOrders=true) (hC:CallOk P G C) (hG:G w0) (hdst:∀o∈ops,∀t,o.dst=some t→t < nt) {st:CSt} {σ:Nm} {a:Act} {w:World} (hok:Ok w0 nt st σ a w) (h:runD P C ops st=some stE) {id:Nat}
  (hQ:∀a' w',Goes w0 nt σ st.nx stE a' w'→Q .normal a' w'):(Code.region id ops true).wp P Q a w:=by
 obtain ⟨sc,h1,h2⟩:=ob_some h
 obtain ⟨D,h3,h4⟩:=ob_some (show ob (dstT ops.toList 0 .e) _=some sc from h1)
 obtain ⟨h5,h6⟩:=ifO_some h4
 injection h6 with h6
 obtain ⟨h7,h8⟩:=and_true h5
 obtain ⟨h8,h9⟩:=and_true h8
 rw [h6] at h9
 obtain ⟨_,hD⟩:=dstT_ok _ _ _ _ h3
 have hpl:Pl ops (befT ops.toList 0 .e) nt:=by
  refine ⟨fun i j o o' d hi hj hd hd'=> ?_,fun i o hi t ht j o' hj hd=> ?_,fun i o hi e he hb=> ?_,bef_ok _,fun i o hi t ht=> hdst o (Array.mem_of_getElem? hi) t ht⟩
  ·have e1:=hD i o d (by simpa using hi) hd
   have e2:=hD j o' d (by simpa using hj) hd'
   rw [e1] at e2
   injection e2 with e2
   omega
  ·have e1:=hD j o' t (by simpa using hj) hd
   have:=readsOk_ok ops.toList 0 h8 i o (by simpa using hi)
   rw [Nat.zero_add] at this e1
   exact tmpsOk_ok this t ht j e1
  ·have:=backOk_ok ops.toList 0 h7 i o (by simpa using hi) e he hb
   omega
 refine wp_region_any hm ?_
 have hun:unl (Array.replicate ops.size false)≤ops.size:=by
  unfold unl
  have:=List.countP_le_length (p:=fun x=> !x) (l:=(Array.replicate ops.size false).toList)
  simpa using this
 have hX:Lst (Array.replicate ops.size false)=fun _=> False:=by
  funext j
  apply propext
  show (Array.replicate ops.size false).getD j false=true↔False
  rw [Array.getD_eq_getD_getElem?]
  by_cases hj:j < ops.size
  ·simp [hj]
  ·simp [hj]
 have hB:Bits 0=fun _=> False:=by
  funext j
  apply propext
  show (0:Nat).testBit j=true↔False
  rw [zero_bit]
  simp
 have hr:R w0 σ st.h (Nat.add st.nx (len ops.toList)) w:=hok.r.heap (Nat.le_add_right _ _) fun l c _=> Or.inl rfl
 refine any_wp (E0:=st.env) (base:=st.nx) (σ0:=σ) (stE:=stE) hC hG hpl hQ ops.size _ sc 0 ⟨st.env,st.h,Nat.add st.nx (len ops.toList)⟩ σ a w.drew (by simp) hun h9 h2 ?_
 rw [hX,hB]
 refine ⟨hr.drew,.refl σ,fun _ _=> rfl,?_,hok.size,hok.defers,fun t c hc _=> hok.env t c hc,fun t c hc _=> hok.env t c hc,fun _ _=> rfl,fun _ e=> e,fun _ _ _ e _=> e,fun _ e=> e.elim,fun _ e=> e.elim,fun i o hi _ _=> ?_,fun _ _ _ e=> e.elim⟩
 ·show st.nx + ops.size≤st.nx + len ops.toList
  rw [len_eq]
  simp
 ·cases hs:σ (st.nx + i) with
  | none=> rfl
  | some c=> exact absurd (hok.r.fresh _ c hs) (by omega)
end
end Go.Proofs.YtmgcnoigihdhpaaGreatDoor.Ci
namespace Go.Proofs.YtmgcnoigihdhpaaGreatDoor.Ci
open Go.RowKit
theorem sameP_eq:∀{a b:List (CV×CV)},sameP a b=true→a=b
 | [],[],_=> rfl
 | x::l,y::r,h=> by
  obtain ⟨h1,h2⟩:=and_true (show (same x.1 y.1 && (same x.2 y.2 && sameP l r))=true from h)
  obtain ⟨h2,h3⟩:=and_true h2
  rw [sameP_eq h3,Prod.ext (same_eq h1) (same_eq h2)]
 | [],_::_,h=> by cases h
 | _::_,[],h=> by cases h
theorem sameN_eq:∀{a b:List Nat},sameN a b=true→a=b
 | [],[],_=> rfl
 | x::l,y::r,h=> by
  obtain ⟨h1,h2⟩:=and_true (show (Nat.beq x y && sameN l r)=true from h)
  rw [sameN_eq h2,beq_eq' h1]
 | [],_::_,h=> by cases h
 | _::_,[],h=> by cases h
theorem meetT_get {α:Type} (f:α→α→Option α):∀(t u:Tr α) (k:Nat),(meetT f t u).get k=ob (t.get k) fun a=> ob (u.get k) (f a)
 | .e,u,k=> rfl
 | .n v l r,.e,k=> by
  show (Tr.e:Tr α).get k=ob ((Tr.n v l r).get k) fun a=> ob ((Tr.e:Tr α).get k) (f a)
  rw [get_e]
  cases (Tr.n v l r).get k <;> rfl
 | .n v l r,.n w l' r',k=> by
  show (Tr.n (ob v fun a=> ob w (f a)) (meetT f l l') (meetT f r r')).get k=_
  rw [get_n,get_n,get_n]
  split
  ·rfl
  ·split
   ·exact meetT_get f l l' _
   ·exact meetT_get f r r' _
theorem toMu_ok:∀{es:List (CV×CV)} {l:List (Int×CV)},toMu es=some l→l.length=es.length∧∀(j:Nat) (p:Int×CV),l[j]? =some p→∃q,es[j]? =some q∧q.1= .v (.int .i64 p.1)∧q.2=p.2
 | [],l,h=> by
  injection (show some []=some l from h) with h
  subst h
  exact ⟨rfl,fun j p h=> by simp at h⟩
 | q::es,l,h=> by
  obtain ⟨n,h1,h2⟩:=isI_some (show isI q.1 (fun n=> ob (toMu es) fun r=> some ((n,q.2)::r))=some l from h)
  obtain ⟨r,h3,h4⟩:=ob_some h2
  injection h4 with h4
  subst h4
  obtain ⟨k1,k2⟩:=toMu_ok h3
  refine ⟨by simp [k1],fun j p hp=> ?_⟩
  cases j with
  | zero=>
   injection hp with hp
   subst hp
   exact ⟨q,rfl,h1,rfl⟩
  | succ j=> exact k2 j p hp
theorem muOf_ok {b:Blk} {l:List (Int×CV)} (h:muOf b=some l) {σ:Nm} {w:World} {c:Loc} (hb:BlkOk σ w c b):BlkOk σ w c (.mu l):=by
 cases b with
 | cl=> cases h
 | it=> cases h
 | mu es=>
  injection (show some es=some l from h) with h
  subst h
  exact hb
 | mp es bs ck=>
  obtain ⟨k1,k2⟩:=toMu_ok (show toMu es=some l from h)
  obtain ⟨ents,h1,h2,_,h3,h4⟩:=hb
  refine ⟨ents,ck,h1,h2,fun e he=> ?_,fun p hp=> ?_⟩
  ·obtain ⟨j,hj⟩:=List.mem_iff_getElem?.1 he
   have hlt:=(List.getElem?_eq_some_iff.1 hj).1
   have hj2:j < l.length:=by rw [k1,←h3];simpa using hlt
   obtain ⟨q,q1,q2,q3⟩:=k2 j l[j] (List.getElem?_eq_getElem hj2)
   obtain ⟨r1,r2⟩:=h4 j q e q1 (by simpa using hj)
   rw [q2] at r1
   rw [q3] at r2
   exact ⟨l[j],List.getElem_mem hj2,r1.val,r2⟩
  ·obtain ⟨j,hj⟩:=List.mem_iff_getElem?.1 hp
   obtain ⟨q,q1,q2,q3⟩:=k2 j p hj
   have hlt:j < ents.size:=by rw [h3];exact (List.getElem?_eq_some_iff.1 q1).1
   obtain ⟨r1,_⟩:=h4 j q ents[j] q1 (Array.getElem?_eq_getElem hlt)
   rw [q2] at r1
   exact ⟨ents[j],by simp,r1.val⟩
theorem memMu_ok {n:Int} {c:CV}:∀{l:List (Int×CV)},memMu n c l=true→(n,c)∈l
 | [],h=> by cases h
 | q::r,h=> by
  have h:((ieq n q.1 && same c q.2) || memMu n c r)=true:=h
  rw [Bool.or_eq_true] at h
  rcases h with h | h
  ·obtain ⟨h1,h2⟩:=and_true h
   rw [ieq_eq] at h1
   rw [of_decide_eq_true h1,same_eq h2]
   exact List.mem_cons_self ..
  ·exact List.mem_cons_of_mem _ (memMu_ok h)
theorem subMu_ok:∀{l r:List (Int×CV)},subMu l r=true→∀p∈l,p∈r
 | [],_,_,p,hp=> by cases hp
 | q::l,r,h,p,hp=> by
  obtain ⟨h1,h2⟩:=and_true (show (memMu q.1 q.2 r && subMu l r)=true from h)
  rcases List.mem_cons.1 hp with rfl | hp
  ·exact memMu_ok h1
  ·exact subMu_ok h2 p hp
theorem meetMu_ok {a b b':Blk} (h:meetMu a b=some b') {σ:Nm} {w:World} {c:Loc}:(BlkOk σ w c a→BlkOk σ w c b')∧(BlkOk σ w c b→BlkOk σ w c b'):=by
 obtain ⟨l,h1,h⟩:=ob_some h
 obtain ⟨r,h2,h⟩:=ob_some h
 obtain ⟨h3,h4⟩:=ifO_some h
 obtain ⟨h5,h6⟩:=and_true h3
 injection h4 with h4
 subst h4
 refine ⟨muOf_ok h1,fun hb=> ?_⟩
 obtain ⟨ents,ck,k1,k2,k3,k4⟩:=muOf_ok h2 hb
 exact ⟨ents,ck,k1,k2,fun e he=> let ⟨p,a1,a2⟩:=k3 e he;⟨p,subMu_ok h6 p a1,a2⟩,fun p hp=> k4 p (subMu_ok h5 p hp)⟩
theorem meetB_ok {a b b':Blk} (h:meetB a b=some b') {σ:Nm} {w:World} {c:Loc}:(BlkOk σ w c a→BlkOk σ w c b')∧(BlkOk σ w c b→BlkOk σ w c b'):=by
 unfold meetB at h
 split at h
 ·obtain ⟨h1,h2⟩:=ifO_some h
  obtain ⟨h3,h4⟩:=and_true h1
  injection h2 with h2
  rw [←h2,kdSame_eq h3,sameL_eq h4]
  exact ⟨id,id⟩
 ·rename_i es bs ck es' bs' ck'
  cases hq:(sameP es es' && (sameN bs bs' && Nat.beq ck ck'))
  ·rw [hq] at h
   exact meetMu_ok h
  ·rw [hq] at h
   obtain ⟨h1,h2⟩:=and_true hq
   obtain ⟨h2,h3⟩:=and_true h2
   injection (show some (Blk.mp es bs ck)=some b' from h) with h
   rw [←h,sameP_eq h1,sameN_eq h2,beq_eq' h3]
   exact ⟨id,id⟩
 ·exact meetMu_ok h
structure Wk (s s':CSt):Prop where
 nx:s.nx≤s'.nx
 env:∀t c,s'.env.get t=some c→s.env.get t=some c
 h:∀l b',s'.h.get l=some b'→∃b,s.h.get l=some b∧∀(σ:Nm) (w:World) (c:Loc),BlkOk σ w c b→BlkOk σ w c b'
theorem Wk.refl (s:CSt):Wk s s:=⟨Nat.le_refl _,fun _ _ h=> h,fun _l b h=> ⟨b,h,fun _ _ _ h=> h⟩⟩
theorem Wk.trans {a b c:CSt} (h:Wk a b) (k:Wk b c):Wk a c:=⟨Nat.le_trans h.nx k.nx,fun t x e=> h.env t x (k.env t x e),fun l b' e=> let ⟨b1,e1,f1⟩:=k.h l b' e;let ⟨b2,e2,f2⟩:=h.h l b1 e1;⟨b2,e2,fun σ w c hb=> f1 σ w c (f2 σ w c hb)⟩⟩
theorem Wk.ok {s s':CSt} (h:Wk s s') {w0:Base} {w:World} {nt:Nat} {σ:Nm} {a:Act} (hok:Ok w0 nt s σ a w):Ok w0 nt s' σ a w:=
 ⟨hok.r.weak h.nx fun l b' hb=> let ⟨b,e,f⟩:=h.h l b' hb;⟨b,e,fun c=> f σ w c⟩,fun t c hc=> hok.env t c (h.env t c hc),hok.size,hok.defers⟩
theorem Wk.goes {s s':CSt} (h:Wk s s') {w0:Base} {w:World} {nt nx:Nat} {σ:Nm} {a:Act} (hg:Goes w0 nt σ nx s a w):Goes w0 nt σ nx s' a w:=
 let ⟨σ',h1,h2,h3,h4⟩:=hg;⟨σ',h1,h2,Nat.le_trans h3 h.nx,h.ok h4⟩
theorem meetS_ok (a b:CSt):Wk a (meetS a b)∧Wk b (meetS a b):=by
 have hnx:a.nx≤(meetS a b).nx∧b.nx≤(meetS a b).nx:=by
  show a.nx≤ifB (Nat.ble a.nx b.nx) b.nx a.nx∧b.nx≤ifB (Nat.ble a.nx b.nx) b.nx a.nx
  cases hb:Nat.ble a.nx b.nx
  ·have:¬a.nx≤b.nx:=fun h=> by
    rw [Nat.ble_eq_true_of_le h] at hb
    cases hb
   exact ⟨Nat.le_refl _,by show b.nx≤a.nx;omega⟩
  ·exact ⟨ble_le hb,Nat.le_refl _⟩
 have he:∀t c,(meetS a b).env.get t=some c→a.env.get t=some c∧b.env.get t=some c:=fun t c h=> by
  have h:(meetT meetC a.env b.env).get t=some c:=h
  rw [meetT_get] at h
  obtain ⟨x,h1,h⟩:=ob_some h
  obtain ⟨y,h2,h⟩:=ob_some h
  obtain ⟨h3,h4⟩:=ifO_some (show ifO (same x y) (some x)=some c from h)
  injection h4 with h4
  subst h4
  exact ⟨h1,by rw [h2,same_eq h3]⟩
 have hh:∀l b',(meetS a b).h.get l=some b'→∃x y,a.h.get l=some x∧b.h.get l=some y∧meetB x y=some b':=fun l b' h=> by
  have h:(meetT meetB a.h b.h).get l=some b':=h
  rw [meetT_get] at h
  obtain ⟨x,h1,h⟩:=ob_some h
  obtain ⟨y,h2,h⟩:=ob_some h
  exact ⟨x,y,h1,h2,h⟩
 exact ⟨⟨hnx.1,fun t c h=> (he t c h).1,fun l b' h=> let ⟨x,y,h1,_,h3⟩:=hh l b' h;⟨x,h1,fun σ w c=> (meetB_ok h3).1⟩⟩,
  ⟨hnx.2,fun t c h=> (he t c h).2,fun l b' h=> let ⟨x,y,_,h2,h3⟩:=hh l b' h;⟨y,h2,fun σ w c=> (meetB_ok h3).2⟩⟩⟩
theorem ecSame_eq {a b:Ec} (h:ecSame a b=true):a=b:=by
 cases a <;> cases b <;> first | rfl | (rw [beq_eq' h];done) | cases h
theorem meetR_ok {a b:Run} {e:Ec} {s:CSt} (h:meetR a b= .at_ e s):∃s1 s2,a= .at_ e s1∧b= .at_ e s2∧Wk s1 s∧Wk s2 s:=by
 cases a with
 | no=> cases h
 | at_ e1 s1=>
  cases b with
  | no=> cases h
  | at_ e2 s2=>
   have h:ifB (ecSame e1 e2) (.at_ e1 (meetS s1 s2)) .no=Run.at_ e s:=h
   cases hb:ecSame e1 e2
   ·rw [hb] at h;cases h
   ·rw [hb] at h
    injection (show Run.at_ e1 (meetS s1 s2)= .at_ e s from h) with h1 h2
    subst h1 h2
    rw [ecSame_eq hb]
    exact ⟨s1,s2,rfl,rfl,(meetS_ok s1 s2).1,(meetS_ok s1 s2).2⟩
theorem meetAll_ok {f:CV×CV×Nat→Run}:∀{l:List (CV×CV×Nat)} {e:Ec} {s:CSt},meetAll f l= .at_ e s→∀p∈l,∃s',f p= .at_ e s'∧Wk s' s
 | [],_,_,h,_,_=> by cases h
 | q::r,e,s,h,p,hp=> by
  have h:ifB (emptyB r) (f q) (meetR (f q) (meetAll f r))= .at_ e s:=h
  cases r with
  | nil=>
   have h:f q= .at_ e s:=h
   rw [List.mem_singleton.1 hp]
   exact ⟨s,h,.refl s⟩
  | cons q' r=>
   obtain ⟨s1,s2,h1,h2,h3,h4⟩:=meetR_ok (show meetR (f q) (meetAll f (q'::r))= .at_ e s from h)
   rcases List.mem_cons.1 hp with rfl | hp
   ·exact ⟨s1,h1,h3⟩
   ·obtain ⟨s',k1,k2⟩:=meetAll_ok h2 p hp
    exact ⟨s',k1,k2.trans h4⟩
theorem nextOps_ok {l:List Oper} {it x y:Tmp} (h:nextOps l=some (it,x,y)):∃t1 p1 a1 t2 p2 a2,l= [⟨some x,.next (.tmp it) false,t1,p1,a1,none⟩,⟨some y,.extract (.tmp x) 0,t2,p2,a2,none⟩]:=by
 unfold nextOps at h
 split at h
 ·rename_i a it' t1 p1 a1 b a' t2 p2 a2
  cases hb:Nat.beq a a'
  ·rw [hb] at h;cases h
  ·rw [hb] at h
   injection (show some (it',a,b)=some (it,x,y) from h) with h
   injection h with h1 h
   injection h with h2 h3
   subst h1 h2 h3
   rw [←beq_eq' hb]
   exact ⟨t1,p1,a1,t2,p2,a2,rfl⟩
 ·cases h
theorem nextOf_ok {c:Code} {q:Tmp×Tmp×Tmp×Code} (h:nextOf c=some q):∃id ops,c= .seq (.region id ops false) q.2.2.2∧nextOps ops.toList=some (q.1,q.2.1,q.2.2.1):=by
 unfold nextOf at h
 split at h
 ·rename_i id ops rest
  obtain ⟨p,h1,h2⟩:=ob_some h
  injection h2 with h2
  subst h2
  exact ⟨id,ops,rfl,h1⟩
 ·cases h
section
variable {P : Program} {w0 : Base} {nt : Nat}
def exOf:Ec→Exit
 | .normal=> .normal
 | .exit i=> .exit i
 | .ret=> .ret
def Snd (P:Program) (w0:Base) (nt:Nat) (c:Code) (f:CSt→Run):Prop:=∀(st st':CSt) (e:Ec) (σ:Nm) (a:Act) (w:World) (Q:Exit→Act→World→Prop),Ok w0 nt st σ a w→f st= .at_ e st'→(∀a' w',Goes w0 nt σ st.nx st' a' w'→Q (exOf e) a' w')→c.wp P Q a w
theorem thenR_at {r:Run} {f:CSt→Run} {e:Ec} {st:CSt} (h:thenR r f= .at_ e st):(∃st1,r= .at_ .normal st1∧f st1= .at_ e st)∨(e≠ .normal∧r= .at_ e st):=by
 cases r with
 | no=> cases h
 | at_ e1 st1=>
  cases e1 with
  | normal=> exact Or.inl ⟨st1,rfl,h⟩
  | exit i=>
   injection (show Run.at_ (.exit i) st1= .at_ e st from h) with h1 h2
   subst h1 h2
   exact Or.inr ⟨by simp,rfl⟩
  | ret=>
   injection (show Run.at_ .ret st1= .at_ e st from h) with h1 h2
   subst h1 h2
   exact Or.inr ⟨by simp,rfl⟩
theorem round_ok {c:Code} {f:CSt→Run} (hf:Snd P w0 nt c f) {F:CSt→Run} {k:Nat} {st1 st':CSt} {e:Ec} {σ1:Nm} {a:Act} {w:World} {I:Nat→Act→World→Prop} {Q:Exit→Act→World→Prop} (hok:Ok w0 nt st1 σ1 a w) (h:thenR (f st1) F= .at_ e st')
  (hI:∀a' w' st2 σ2,Le σ1 σ2→(∀j,j < st1.nx→σ2 j=σ1 j)→st1.nx≤st2.nx→Ok w0 nt st2 σ2 a' w'→F st2= .at_ e st'→I k a' w') (hQ:∀a' w',Goes w0 nt σ1 st1.nx st' a' w'→Q (exOf e) a' w'):
  c.wp P (Exit.then (fun a' w'=> ∃n',n' < k + 1∧I n' a' w') Q) a w:=by
 rcases thenR_at h with ⟨st2,h2,h3⟩ | ⟨hne,h2⟩
 ·refine hf st1 st2 .normal σ1 a w _ hok h2 fun a2 w2 hg=> ?_
  obtain ⟨σ2,k1,k2,k3,k4⟩:=hg
  exact ⟨k,Nat.lt_succ_self k,hI a2 w2 st2 σ2 k1 k2 k3 k4 h3⟩
 ·refine hf st1 st' e σ1 a w _ hok h2 fun a2 w2 hg=> ?_
  cases e with
  | normal=> exact absurd rfl hne
  | exit i=> exact hQ a2 w2 hg
  | ret=> exact hQ a2 w2 hg
theorem iter_ok {c:Code} {f:CSt→Run} (hf:Snd P w0 nt c f) (n:Nat):Snd P w0 nt (.loop c) (iterC f n):=by
 intro st st' e σ a w Q hok h hQ
 refine wp_loop_ghost (fun k a w=> ∃st1 σ1,Ok w0 nt st1 σ1 a w∧iterC f k st1= .at_ e st'∧∀a' w',Goes w0 nt σ1 st1.nx st' a' w'→Q (exOf e) a' w') n ⟨st,σ,hok,h,hQ⟩ ?_
 rintro k a w ⟨st1,σ1,hok1,h1,hQ1⟩
 cases k with
 | zero=> cases h1
 | succ k=> exact round_ok hf hok1 (show thenR (f st1) (iterC f k)= .at_ e st' from h1) (fun a' w' st2 σ2 k1 k2 k3 k4 h3=> ⟨st2,σ2,k4,h3,fun a'' w'' hg'=> hQ1 a'' w'' (hg'.trans k1 k2 k3)⟩) hQ1
theorem moreB_ne {α:Type} {l:List α} (h:moreB l=true):l≠ []:=by
 intro e
 rw [e] at h
 cases h
theorem rng_ok {it x y:Tmp} {id:Nat} {ops:Array Oper} {rest:Code} (hops:nextOps ops.toList=some (it,x,y)) (hx:x < nt) (hy:y < nt) {f g:CSt→Run} (hf:Snd P w0 nt (.seq (.region id ops false) rest) f) (hg:Snd P w0 nt rest g) (n:Nat):Snd P w0 nt (.loop (.seq (.region id ops false) rest)) (rngC it x y f g n):=by
 intro st st' e σ a w Q hok h hQ
 refine wp_loop_ghost (fun k a w=> ∃st1 σ1 s1,Ok w0 nt st1 σ1 a w∧rngC it x y f g k st1= .at_ e s1∧∀a' w',Goes w0 nt σ1 st1.nx s1 a' w'→Q (exOf e) a' w') n ⟨st,σ,st',hok,h,hQ⟩ ?_
 rintro k a w ⟨st1,σ1,s1,hok1,h1,hQ1⟩
 cases k with
 | zero=> cases h1
 | succ k=>
  have det:thenR (f st1) (rngC it x y f g k)= .at_ e s1→_:=fun hd=> round_ok (I:=fun k a w=> ∃st1 σ1 s1,Ok w0 nt st1 σ1 a w∧rngC it x y f g k st1= .at_ e s1∧∀a' w',Goes w0 nt σ1 st1.nx s1 a' w'→Q (exOf e) a' w') hf hok1 hd (fun a' w' st2 σ2 k1 k2 k3 k4 h3=> ⟨st2,σ2,s1,k4,h3,fun a'' w'' hg'=> hQ1 a'' w'' (hg'.trans k1 k2 k3)⟩) hQ1
  have h1: @Option.rec Ch (fun _=> Run) (thenR (f st1) (rngC it x y f g k)) (fun c=> ifB (moreB c.lf) (meetAll (fun p=> thenR (g (force st1 x y c p)) (rngC it x y f g k)) c.lf) (thenR (f st1) (rngC it x y f g k))) (choices st1 it)= .at_ e s1:=h1
  cases hc:choices st1 it with
  | none=> rw [hc] at h1;exact det h1
  | some c=>
   rw [hc] at h1
   have h1:ifB (moreB c.lf) (meetAll (fun p=> thenR (g (force st1 x y c p)) (rngC it x y f g k)) c.lf) (thenR (f st1) (rngC it x y f g k))= .at_ e s1:=h1
   cases hm:moreB c.lf
   ·rw [hm] at h1;exact det h1
   ·rw [hm] at h1
    have h1:meetAll (fun p=> thenR (g (force st1 x y c p)) (rngC it x y f g k)) c.lf= .at_ e s1:=h1
    obtain ⟨v,hv,hc⟩:=ob_some (show ob (st1.env.get it) _=some c from hc)
    obtain ⟨val,hva,hvr⟩:=hok1.env it v hv
    obtain ⟨l,lc,m,d,since,seen,last,es,bs,ck,ents,rfl,hl,hmd,hval,hH,hoff,hit,hM,hg0,hst,hb,hsz,hrel,hch⟩:=itAt_ok hok1.r hvr hc
    obtain ⟨h3,h4⟩:=ifO_some hch
    obtain ⟨k1,k2⟩:=and_true h3
    have k1:=ble_le k1
    have k2:=ble_le k2
    injection h4 with h4
    subst h4
    have hold:∀e∈ents.toList,e.born < since:=fun e he=> Nat.lt_of_lt_of_le (hst.1 e he) k1
    obtain ⟨i1,i2⟩:=leftC_ok (seen:=seen) (es:=es) (ents:=ents.toList) (by simpa using hsz)
    rw [hb] at i1 i2
    have hleft:((leftOf ents seen.toArray).toList).map (·.born)=(leftC seen es bs).map fun p=> p.2.2:=by
     rw [i1]
     unfold leftOf
     simp
    obtain ⟨t1,p1,a1,t2,p2,a2,hl2⟩:=nextOps_ok hops
    rcases run_next_at (P:=P) w t1 lc.blk d.blk since last seen.toArray ents ck hit hg0 hold k2 with ⟨n1,n2⟩ | ⟨e0,n1,w1,n2,n3⟩
    ·have hlen:(leftOf ents seen.toArray).size=(leftC seen es bs).length:=by
      have:=congrArg List.length hleft
      simpa using this
     exact absurd (List.eq_nil_of_length_eq_zero (by rw [←hlen];exact n1)) (moreB_ne hm)
    ·have hmem:e0.born∈(leftC seen es bs).map fun p=> p.2.2:=by
      rw [←hleft]
      exact List.mem_map.2 ⟨e0,n1,rfl⟩
     obtain ⟨p,hp,hpb⟩:=List.mem_map.1 hmem
     obtain ⟨j,q,e',j1,j2,rfl⟩:=i2 p hp
     have he:e0∈ents.toList:=by
      unfold leftOf at n1
      simp at n1
      simpa using n1.1
     have hsame:e0=e':=by
      obtain ⟨i,hi,rfl⟩:=List.getElem_of_mem he
      have hn:=hst.2.1
      have h1:(ents.toList.map (·.born))[i]? =some (ents.toList[i]).born:=by rw [List.getElem?_map,List.getElem?_eq_getElem hi];rfl
      have h2:(ents.toList.map (·.born))[j]? =some e'.born:=by rw [List.getElem?_map,j2];rfl
      have hpb:e'.born=ents.toList[i].born:=hpb
      rw [hpb] at h2
      have hij:=(List.getElem?_inj (by simpa using hi) hn).1 (h1.trans h2.symm)
      subst hij
      rw [List.getElem?_eq_getElem hi] at j2
      injection j2
     subst hsame
     obtain ⟨r1,r2⟩:=hrel j q e0 j1 (by simpa using j2)
     obtain ⟨s',hs',hwk⟩:=meetAll_ok h1 _ hp
     have hset:∀w2:World,w2.heap=w.heap→w2.os=w.os→w2.tape=w.tape→w2.output=w.output→R w0 σ1 (st1.h.put l (.it (some m) since (app seen [e0.born]) ck)) st1.nx (ChangeMaps.setBlock w2 lc.blk (.mapIter (some d.blk) since (seen.toArray.push e0.born) ck)):=by
      intro w2 q1 q2 q3 q4
      refine hok1.r.upd hl hH (by exact q2) (by exact q3) (by exact q4) (by simp [ChangeMaps.setBlock,q1]) (fun k hk=> ?_) ⟨d,hmd,hoff,?_⟩
      ·simp only [ChangeMaps.setBlock,q1]
       rw [Array.getElem?_setIfInBounds_ne (Ne.symm hk)]
      ·have hlt:=(Array.getElem?_eq_some_iff.1 hit).1
       simp only [ChangeMaps.setBlock,q1]
       rw [Array.getElem?_setIfInBounds_self_of_lt hlt,app_eq]
       simp
     have hR:R w0 σ1 (st1.h.put l (.it (some m) since (app seen [e0.born]) ck)) st1.nx (ChangeMaps.setBlock w1 lc.blk (.mapIter (some d.blk) since (seen.toArray.push e0.born) ck)):=by
      rcases n2 with rfl | rfl
      ·exact hset _ rfl rfl rfl rfl
      ·exact hset _ rfl rfl rfl rfl
     have htup:VR σ1 (.tup [.v (.bool true),q.1,q.2]) (.tuple #[.bool true,e0.key,e0.val]):= .of_tup (.cons (.v _ rfl) (.cons r1 (.cons r2 (.nil σ1))))
     have hok2:Ok w0 nt (force st1 x y ⟨l,m,since,seen,ck,leftC seen es bs⟩ (q.1,q.2,e0.born)) σ1 ((a.put (some x) (.tuple #[.bool true,e0.key,e0.val])).put (some y) (.bool true)) (ChangeMaps.setBlock w1 lc.blk (.mapIter (some d.blk) since (seen.toArray.push e0.born) ck)):=by
      have h5:=envOk_put hok1.env (d:=some x) (fun t ht=> by injection ht with ht;subst ht;rw [hok1.size];exact hx) htup
      have h6:=envOk_put (a:=a.put (some x) (.tuple #[.bool true,e0.key,e0.val])) h5 (d:=some y) (fun t ht=> by injection ht with ht;subst ht;rw [put_size,hok1.size];exact hy) (VR.v (σ:=σ1) (.bool true) rfl)
      exact ⟨hR,h6,by rw [put_size,put_size];exact hok1.size,by rw [put_defers,put_defers];exact hok1.defers⟩
     have hev:a.eval (.tmp it)= .pointer (some ⟨lc.blk,0,none⟩):=by
      show a.tmps.getD it undef=_
      rw [Array.getD_eq_getD_getElem?,hva]
      exact hval
     have hev2:(a.put (some x) (.tuple #[.bool true,e0.key,e0.val])).eval (.tmp x)= .tuple #[.bool true,e0.key,e0.val]:=by
      have:x < a.tmps.size:=by rw [hok1.size];exact hx
      show (a.tmps.setIfInBounds x _).getD x undef=_
      rw [Array.getD_eq_getD_getElem?]
      simp [this]
     refine wp_seq (wp_region_list ?_)
     rw [hl2]
     refine wpList_step fun K hK=> ?_
     rw [if_pos (by rfl)]
     refine wp_val (x:= .tuple #[.bool true,e0.key,e0.val]) (w':=ChangeMaps.setBlock w1 lc.blk (.mapIter (some d.blk) since (seen.toArray.push e0.born) ck)) ?_ (hK _ _ ?_)
     ·show (do pure (.value (←Instr.next (a.eval (.tmp it)) false t1)):Sem Next).run P w=_
      rw [hev]
      simp only [Sem.run_bind,n3,Result.andThen_ok]
      rfl
     ·refine wpList_step fun K hK=> ?_
      rw [if_pos (by rfl)]
      refine wp_val (x:= .bool true) (w':=ChangeMaps.setBlock w1 lc.blk (.mapIter (some d.blk) since (seen.toArray.push e0.born) ck)) ?_ (hK _ _ ?_)
      ·show (do pure (.value (←Instr.extract ((a.put (some x) (.tuple #[.bool true,e0.key,e0.val])).eval (.tmp x)) 0)):Sem Next).run P _=_
       rw [hev2]
       rfl
      ·exact round_ok (I:=fun k a w=> ∃st1 σ1 s1,Ok w0 nt st1 σ1 a w∧rngC it x y f g k st1= .at_ e s1∧∀a' w',Goes w0 nt σ1 st1.nx s1 a' w'→Q (exOf e) a' w') hg hok2 hs' (fun a' w' st2 σ2 k1 k2 k3 k4 h3=> ⟨st2,σ2,s',k4,h3,fun a'' w'' hg'=> hQ1 a'' w'' (hwk.goes (hg'.trans k1 k2 k3))⟩) fun a' w' hg'=> hQ1 a' w' (hwk.goes hg')
end
end Go.Proofs.YtmgcnoigihdhpaaGreatDoor.Ci

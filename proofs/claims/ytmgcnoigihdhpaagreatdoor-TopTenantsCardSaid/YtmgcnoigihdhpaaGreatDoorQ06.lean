/-
Running code on constants: code and functions. Over any program.
-/
import Derived.Test.YtmgcnoigihdhpaaGreatDoorQ05
import Derived.Shelf.Strings.OnBuilder
import Derived.Shelf.Strconv.Itoa3
import Derived.Shelf.Strconv.Atoi
import Derived.Shelf.Strings.Cut
import Derived.Shelf.Strings.Search1
import Derived.Shelf.SlIterI.Nil
import Derived.Shelf.SortM.Plain
import Derived.Shelf.SortM.SortNone
import Derived.Shelf.LaysM
import Derived.Ground.NamesProg
import Derived.Test.YtmgcnoigihdhpaaGreatDoorProg
namespace Go.Proofs.YtmgcnoigihdhpaaGreatDoor.Ci
open Go.RowKit
theorem toRun_at {x:Option CSt} {e:Ec} {st:CSt} (h:toRun x= .at_ e st):e= .normal∧x=some st:=by
 cases x with
 | none=> cases h
 | some s=>
  injection h with h1 h2
  exact ⟨h1.symm,by rw [h2]⟩
theorem dstB_ok {m:Nat}:∀{l:List Oper},dstB m l=true→∀o∈l,∀t,o.dst=some t→t < m
 | [],_,o,ho,_,_=> by cases ho
 | o::l,h,o',ho,t,ht=> by
  have h: @Option.rec Tmp (fun _=> Bool) (dstB m l) (fun d=> ifB (Nat.ble (Nat.succ d) m) (dstB m l) false) o.dst=true:=h
  cases hd:o.dst with
  | none=>
   rw [hd] at h
   rcases List.mem_cons.1 ho with rfl | ho
   ·rw [hd] at ht;cases ht
   ·exact dstB_ok h o' ho t ht
  | some d=>
   rw [hd] at h
   have h:ifB (Nat.ble (Nat.succ d) m) (dstB m l) false=true:=h
   cases hb:Nat.ble (Nat.succ d) m
   ·rw [hb] at h;cases h
   ·rw [hb] at h
    rcases List.mem_cons.1 ho with rfl | ho
    ·rw [hd] at ht
     injection ht with ht
     subst ht
     exact ble_le hb
    ·exact dstB_ok h o' ho t ht
theorem ifF_true {b x:Bool} (h:ifB b x false=true):b=true∧x=true:=by
 cases b
 ·cases h
 ·exact ⟨rfl,h⟩
section
variable {P : Program} {G : Base → Prop} {C : Callee} {w0 : Base} {nt m n : Nat}
theorem evG_wp (hm:P.follows .mixedOrders=true) (hC:CallOk P G C) (hG:G w0) (hnt:m≤nt) {L:Code→(CSt→Run)→CSt→Run} (hL:∀c f,dstC m c=true→Snd P w0 nt c f→Snd P w0 nt (.loop c) (L c f)):∀(c:Code) {st st':CSt} {e:Ec} {σ:Nm} {a:Act} {w:World} {Q:Exit→Act→World→Prop},dstC m c=true→Ok w0 nt st σ a w→evG P C L c st= .at_ e st'→
  (∀a' w',Goes w0 nt σ st.nx st' a' w'→Q (exOf e) a' w')→c.wp P Q a w:=by
 intro c
 induction c with
 | skip=>
  intro st st' e σ a w Q _ hok h hQ
  injection (show Run.at_ .normal st= .at_ e st' from h) with h1 h2
  subst h1 h2
  exact wp_skip (hQ a w (.self hok))
 | region id ops draw=>
  intro st st' e σ a w Q hd hok h hQ
  have hd:dstB m ops.toList=true:=hd
  have hdst:∀o∈ops.toList,∀t,o.dst=some t→t < nt:=fun o ho t ht=> Nat.lt_of_lt_of_le (dstB_ok hd o ho t ht) hnt
  obtain ⟨rfl,h1⟩:=toRun_at (show toRun (ifB draw (runD P C ops st) (runS P C ops.toList ops.toList st))= .at_ e st' from h)
  cases draw with
  | false=> exact wp_region_list (runS_wp hC hG ops.toList hok hdst h1 hQ)
  | true=> exact runD_wp hm hC hG (fun o ho=> hdst o (by simpa using ho)) hok h1 hQ
 | seq x y ihx ihy=>
  intro st st' e σ a w Q hd hok h hQ
  obtain ⟨d1,d2⟩:=ifF_true (show ifB (dstC m x) (dstC m y) false=true from hd)
  rcases thenR_at (show thenR (evG P C L x st) (evG P C L y)= .at_ e st' from h) with ⟨st1,h1,h2⟩ | ⟨hne,h1⟩
  ·refine wp_seq (ihx d1 hok h1 fun a1 w1 hg=> ?_)
   obtain ⟨σ1,k1,k2,k3,k4⟩:=hg
   exact ihy d2 k4 h2 fun a' w' hg'=> hQ a' w' (hg'.trans k1 k2 k3)
  ·refine wp_seq (ihx d1 hok h1 fun a1 w1 hg=> ?_)
   cases e with
   | normal=> exact absurd rfl hne
   | exit i=> exact hQ a1 w1 hg
   | ret=> exact hQ a1 w1 hg
 | cond c x y ihx ihy=>
  intro st st' e σ a w Q hd hok h hQ
  obtain ⟨d1,d2⟩:=ifF_true (show ifB (dstC m x) (dstC m y) false=true from hd)
  have h: @Option.rec Bool (fun _=> Run) .no (fun b=> ifB b (evG P C L x st) (evG P C L y st)) (ob (ev st.env c) fun v=> isBool v some)= .at_ e st':=h
  cases hb:(ob (ev st.env c) fun v=> isBool v some) with
  | none=> rw [hb] at h;cases h
  | some u=>
   rw [hb] at h
   obtain ⟨v,h1,h2⟩:=ob_some hb
   obtain ⟨b,rfl,h3⟩:=isBool_some h2
   injection h3 with h3
   subst h3
   have hv:=(hok.evs #[c] c (by simp) _ h1).val
   refine wp_cond hv ?_
   cases b
   ·exact ihy d2 hok h hQ
   ·exact ihx d1 hok h hQ
 | block id c ih=>
  intro st st' e σ a w Q hd hok h hQ
  have h:cBlock id (evG P C L c st)= .at_ e st':=h
  cases hr:evG P C L c st with
  | no=> rw [hr] at h;cases h
  | at_ e1 st1=>
   rw [hr] at h
   refine wp_block (ih hd hok hr fun a1 w1 hg=> ?_)
   cases e1 with
   | normal=>
    injection (show Run.at_ .normal st1= .at_ e st' from h) with h1 h2
    subst h1 h2
    exact hQ a1 w1 hg
   | ret=>
    injection (show Run.at_ .ret st1= .at_ e st' from h) with h1 h2
    subst h1 h2
    exact hQ a1 w1 hg
   | exit i=>
    have h:ifB (Nat.beq i id) (.at_ .normal st1) (.at_ (.exit i) st1)=Run.at_ e st':=h
    show if i=id then _ else _
    cases hb:Nat.beq i id
    ·rw [hb] at h
     injection (show Run.at_ (.exit i) st1= .at_ e st' from h) with h1 h2
     subst h1 h2
     rw [if_neg (fun e=> by rw [e] at hb;simp at hb)]
     exact hQ a1 w1 hg
    ·rw [hb] at h
     injection (show Run.at_ .normal st1= .at_ e st' from h) with h1 h2
     subst h1 h2
     rw [if_pos (beq_eq' hb)]
     exact hQ a1 w1 hg
 | loop c ih=>
  intro st st' e σ a w Q hd hok h hQ
  exact hL c _ hd (fun st st' e σ a w Q hok h hQ=> ih hd hok h hQ) st st' e σ a w Q hok h hQ
 | exit id=>
  intro st st' e σ a w Q _ hok h hQ
  injection (show Run.at_ (.exit id) st= .at_ e st' from h) with h1 h2
  subst h1 h2
  exact wp_exit (hQ a w (.self hok))
 | ret=>
  intro st st' e σ a w Q _ hok h hQ
  injection (show Run.at_ .ret st= .at_ e st' from h) with h1 h2
  subst h1 h2
  exact wp_ret (hQ a w (.self hok))
 | _=>
  intro st st' e σ a w Q _ hok h hQ
  cases h
theorem loop2_ok (hm:P.follows .mixedOrders=true) (hC:CallOk P G C) (hG:G w0) (hnt:m≤nt) (n:Nat) (c:Code) (f:CSt→Run) (hd:dstC m c=true) (hf:Snd P w0 nt c f):Snd P w0 nt (.loop c) (loop2 P C n c f):=by
 unfold loop2
 cases hq:nextOf c with
 | none=> exact iter_ok hf n
 | some q=>
  obtain ⟨id,ops,hc,ho⟩:=nextOf_ok hq
  rw [hc] at hd hf ⊢
  obtain ⟨d1,d2⟩:=ifF_true (show ifB (dstB m ops.toList) (dstC m q.2.2.2) false=true from hd)
  obtain ⟨t1,p1,a1,t2,p2,a2,hl⟩:=nextOps_ok ho
  have hx:q.2.1 < nt:=Nat.lt_of_lt_of_le (dstB_ok d1 _ (by rw [hl];exact List.mem_cons_self ..) q.2.1 rfl) hnt
  have hy:q.2.2.1 < nt:=Nat.lt_of_lt_of_le (dstB_ok d1 _ (by rw [hl];exact List.mem_cons_of_mem _ (List.mem_singleton.2 rfl)) q.2.2.1 rfl) hnt
  exact rng_ok ho hx hy hf (fun st st' e σ a w Q hok h hQ=> evG_wp hm hC hG hnt (fun c f _ hf=> iter_ok hf n) q.2.2.2 d2 hok h hQ) n
theorem evC2_wp (hm:P.follows .mixedOrders=true) (hC:CallOk P G C) (hG:G w0) (hnt:m≤nt) (n:Nat) (c:Code) {st st':CSt} {e:Ec} {σ:Nm} {a:Act} {w:World} {Q:Exit→Act→World→Prop} (hd:dstC m c=true) (hok:Ok w0 nt st σ a w) (h:evC2 P C n c st= .at_ e st') (hQ:∀a' w',Goes w0 nt σ st.nx st' a' w'→Q (exOf e) a' w'):c.wp P Q a w:=
 evG_wp hm hC hG hnt (loop2_ok hm hC hG hnt n) c hd hok h hQ
def resR (tmps:Array Value):ResultVar→Sem Value
 | .tmp t=> pure (tmps.getD t undef)
 | .cell a t=> do loadVar t (←asAddr (tmps.getD a undef))
theorem res1_ok {st:CSt} {σ:Nm} {a:Act} {w:World} (hok:Ok w0 nt st σ a w) {x:ResultVar} {v:CV} (h:res1 P st x=some v):∃y,(resR a.tmps x).run P w= .ok y w∧VR σ v y:=by
 cases x with
 | tmp t=>
  obtain ⟨y,h1,h2⟩:=hok.env t v h
  refine ⟨y,?_,h2⟩
  show (pure (a.tmps.getD t undef):Sem Value).run P w=_
  rw [Array.getD_eq_getD_getElem?,h1]
  rfl
 | cell t ty=>
  obtain ⟨p,h1,h2⟩:=ob_some (show ob (st.env.get t) _=some v from h)
  obtain ⟨l,o,rfl,h3⟩:=isP_some h2
  obtain ⟨cs,h4,h5⟩:=ob_some h3
  obtain ⟨y,h6,h7⟩:=hok.env t _ h1
  obtain ⟨c,h8,rfl⟩:=h7.pv
  obtain ⟨all,vals,T,vs,g1,g2,g3,g4,g5,g6,g7,g8⟩:=hok.r.cells h8 h4
  obtain ⟨z,k1,k2,_⟩:=ld_load (b:=c.blk) (q:=c.off + o) g6 g7 (fun j u hu=> by rw [Nat.add_assoc];exact g8 j u hu) h5
  refine ⟨z,?_,k2⟩
  have k1:(Instr.loadAt ty (.pointer (some ⟨c.blk,c.off + o,none⟩))).run P w= .ok z w:=k1
  simp only [Instr.loadAt,Instr.sureAddr,Sem.run_bind,Sem.run_pure,Result.andThen_ok] at k1
  have:a.tmps.getD t undef= .pointer (some ⟨c.blk,c.off + o,none⟩):=by
   rw [Array.getD_eq_getD_getElem?,h6]
   rfl
  simp only [resR,this,asAddr,Sem.run_bind,Sem.run_pure,Result.andThen_ok,k1]
theorem resC_ok {st:CSt} {σ:Nm} {a:Act} {w:World} (hok:Ok w0 nt st σ a w):∀(xs:List ResultVar) {vs:List CV},resC P st xs=some vs→∃ys,(xs.mapM (resR a.tmps)).run P w= .ok ys w∧VRL σ vs ys
 | [],vs,h=> by
  injection (show some []=some vs from h) with h
  subst h
  exact ⟨[],rfl,.nil σ⟩
 | x::xs,vs,h=> by
  obtain ⟨v,h1,h2⟩:=ob_some (show ob (res1 P st x) _=some vs from h)
  obtain ⟨vs',h3,h4⟩:=ob_some h2
  injection h4 with h4
  subst h4
  obtain ⟨y,k1,k2⟩:=res1_ok hok h1
  obtain ⟨ys,k3,k4⟩:=resC_ok hok xs h3
  refine ⟨y::ys,?_,.cons k2 k4⟩
  rw [List.mapM_cons]
  simp only [Sem.run_bind,k1,Result.andThen_ok,k3,Sem.run_pure]
theorem tupC_ok {σ:Nm} {vs:List CV} {ys:List Value} (h:VRL σ vs ys):VR σ (tupC vs) (if hsz:ys.toArray.size=1 then ys.toArray[0] else .tuple ys.toArray):=by
 have hl:=h.1
 match vs,h,hl with
 | [],h,hl=>
  have:=h.nil_inv
  subst this
  exact .of_tup h
 | [v],h,hl=>
  obtain ⟨y,ys',rfl,h1,h2⟩:=h.cons_inv
  have:=h2.nil_inv
  subst this
  exact h1
 | v::v'::vs',h,hl=>
  have hne:¬ys.toArray.size=1:=by
   simp at hl ⊢
   omega
  rw [dif_neg hne]
  exact .of_tup h
theorem envOf_get:∀(l:List CV) (i:Nat) (E:Tr CV) (t:Nat),(envOf l i E).get t=if i≤t∧t < i + l.length then l[t - i]? else E.get t
 | [],i,E,t=> by
  show E.get t=_
  rw [if_neg (by simp)]
 | v::l,i,E,t=> by
  show (envOf l (i + 1) (E.put i v)).get t=_
  rw [envOf_get l (i + 1)]
  by_cases h1:i + 1≤t∧t < i + 1 + l.length
  ·rw [if_pos h1,if_pos (by simp;omega)]
   have:t - i=(t - (i + 1)) + 1:=by omega
   rw [this,List.getElem?_cons_succ]
  ·rw [if_neg h1,get_put]
   by_cases h2:t=i
   ·subst h2
    rw [if_pos rfl,if_pos (by simp),Nat.sub_self]
    rfl
   ·rw [if_neg h2,if_neg (by simp;omega)]
theorem callB_ok (hm:P.follows .mixedOrders=true) (hC:CallOk P G C):CallOk P G fun f args H nx=> callB P C n f args H nx:=by
 intro f args H nx v H' nx' h w0 σ w vals hG hr hL
 obtain ⟨q,h1,h2⟩:=oR_ok (show oR (bodyOf P f) _= .ok v H' nx' from h)
 obtain ⟨fn,h3,h4⟩:=ob_some h1
 obtain ⟨c,h5,h6⟩:=ob_some h4
 obtain ⟨h7,h8⟩:=ifO_some h6
 injection h8 with h8
 subst h8
 obtain ⟨h9,h10⟩:=and_true h7
 have hname:(fn.name== "runtime.NumGoroutine")=false:=by
  cases hq:(fn.name== "runtime.NumGoroutine")
  ·rfl
  ·rw [hq] at h9;cases h9
 refine ⟨?_,?_⟩
 ·have hne:¬fn.name= "runtime.NumGoroutine" :=by
   intro e
   rw [e] at hname
   simp at hname
  simp [callFunc,program,Sem.run,h3,hne,h5]
 have h2: @Run.rec (fun _=> Res) .no (fun e st=> @Ec.rec (fun _=> Res) (endC P fn.results.toList st) (fun _=> .no) (endC P fn.results.toList st) e) (evC2 P C n c ⟨envOf args 0 .e,H,nx⟩)= .ok v H' nx':=h2
 cases hr2:evC2 P C n c ⟨envOf args 0 .e,H,nx⟩ with
 | no=> rw [hr2] at h2;cases h2
 | at_ e st'=>
  rw [hr2] at h2
  have hlen:vals.size=args.length:=by have:=hL.1;simpa using this
  generalize hnt:(vals ++ Array.replicate (fn.ntmps - vals.size) undef).size=nt
  have hle:fn.ntmps≤nt:=by
   rw [←hnt]
   simp
   omega
  have hok:Ok w0 nt ⟨envOf args 0 .e,H,nx⟩ σ {tmps:=vals ++ Array.replicate (fn.ntmps - vals.size) undef,defers:= []} w:=by
   refine ⟨hr,fun t x hx=> ?_,hnt,rfl⟩
   have hx:(envOf args 0 .e).get t=some x:=hx
   rw [envOf_get] at hx
   split at hx
   ·rename_i ht
    obtain ⟨y,k1,k2⟩:=hL.get hx
    refine ⟨y,?_,k2⟩
    show (vals ++ Array.replicate (fn.ntmps - vals.size) undef)[t]? =some y
    rw [Array.getElem?_append_left (by omega)]
    simpa using k1
   ·rw [get_e] at hx
    cases hx
  have fin:∀a' w',Goes w0 nt σ nx st' a' w'→endC P fn.results.toList st'= .ok v H' nx'→a'.defers= []∧∃y,(results fn a'.tmps).run P w'= .ok y w'∧∃x,Ending.returned y= .returned x∧After w0 σ nx v H' nx' x w':=by
   rintro a' w' ⟨σ',k1,k2,k3,k4⟩ he
   obtain ⟨vs,g1,g2⟩:=oR_ok he
   obtain ⟨rfl,rfl,rfl⟩:=ok_inj g2
   obtain ⟨ys,g3,g4⟩:=resC_ok k4 _ g1
   refine ⟨k4.defers,_,?_,_,rfl,σ',k1,k2,k4.r,k3,tupC_ok g4⟩
   have e:results fn a'.tmps=(do let vs←fn.results.mapM (resR a'.tmps);pure (if h:vs.size=1 then vs[0] else .tuple vs)):=rfl
   rw [e,Array.mapM_eq_mapM_toList]
   simp only [Sem.run_bind,Sem.run_map,g3,Result.andThen_ok,Sem.run_pure]
  refine calls_of_wp h3 h5 (evC2_wp hm hC hG hle n c h10 hok hr2 fun a' w' hg=> ?_)
  cases e with
  | normal=> exact fin a' w' hg h2
  | ret=> exact fin a' w' hg h2
  | exit i=> cases h2
def ExtOk (P:Program) (G:Base→Prop) (ext:FuncId→List CV→Tr Blk→Nat→Option Res):Prop:=∀(f:FuncId) (args:List CV) (H:Tr Blk) (nx:Nat) (v:CV) (H':Tr Blk) (nx':Nat),ext f args H nx=some (.ok v H' nx')→∀(w0:Base) (σ:Nm) (w:World) (vals:Array Value),G w0→R w0 σ H nx w→VRL σ args vals.toList→
 (callFunc f vals).run P w= .ok (.enter f vals) w∧Calls P f vals w fun e w'=> ∃x,e= .returned x∧After w0 σ nx v H' nx' x w'
theorem rc_ok (hm:P.follows .mixedOrders=true) {ext:FuncId→List CV→Tr Blk→Nat→Option Res} (hE:ExtOk P G ext) (k:Nat):∀n,CallOk P G (rc P ext k n)
 | 0=> .none
 | n + 1=> by
  intro f args H nx v H' nx' h
  have h: @Option.rec Res (fun _=> Res) (callB P (rc P ext k n) k f args H nx) (fun r=> r) (ext f args H nx)= .ok v H' nx':=h
  cases he:ext f args H nx with
  | none=>
   rw [he] at h
   exact callB_ok hm (rc_ok hm hE k n) f args H nx v H' nx' h
  | some r=>
   rw [he] at h
   have h:r= .ok v H' nx':=h
   subst h
   exact hE f args H nx v H' nx' he
end
end Go.Proofs.YtmgcnoigihdhpaaGreatDoor.Ci
namespace Go.Proofs.YtmgcnoigihdhpaaGreatDoor.Ci
open Go.RowKit
mutual
def sh (d:Nat):CV→CV
 | .v x=> .v x
 | .t bs=> .t bs
 | .p l o=> .p (l + d) o
 | .s l o n c=> .s (l + d) o n c
 | .m l=> .m (l + d)
 | .fn f fs cs=> .fn f (shL d fs) (shL d cs)
 | .agg cs=> .agg (shL d cs)
 | .tup cs=> .tup (shL d cs)
def shL (d:Nat):List CV→List CV
 | []=> []
 | c::cs=> sh d c::shL d cs
end
mutual
def inK (K:List Nat):CV→Bool
 | .v _=> true
 | .t _=> true
 | .p l _=> K.any (Nat.beq l)
 | .s l _ _ _=> K.any (Nat.beq l)
 | .m l=> K.any (Nat.beq l)
 | .fn _ fs cs=> inKL K fs && inKL K cs
 | .agg cs=> inKL K cs
 | .tup cs=> inKL K cs
def inKL (K:List Nat):List CV→Bool
 | []=> true
 | c::cs=> inK K c && inKL K cs
end
theorem shL_get (d:Nat):∀(cs:List CV) (j:Nat),(shL d cs)[j]? =(cs[j]?).map (sh d)
 | [],_=> by simp [shL]
 | c::cs,0=> by simp [shL]
 | c::cs,j + 1=> by simpa [shL] using shL_get d cs j
theorem shL_length (d:Nat):∀cs:List CV,(shL d cs).length=cs.length
 | []=> by simp [shL]
 | c::cs=> by simp [shL,shL_length d cs]
theorem inKL_get {K:List Nat}:∀{cs:List CV} (_:inKL K cs=true) (j:Nat) (c:CV),cs[j]? =some c→inK K c=true
 | [],_,_,_,h=> by simp at h
 | c::cs,h,0,x,hx=> by
  injection hx with hx
  subst hx
  unfold inKL at h
  exact (and_true h).1
 | c::cs,h,j + 1,x,hx=> by
  unfold inKL at h
  exact inKL_get (and_true h).2 j x hx
theorem oneC_sh (d:Nat) (c:CV):oneC (sh d c)=oneC c:=by cases c <;> simp [sh,oneC]
theorem any_mem {K:List Nat} {l:Nat} (h:K.any (Nat.beq l)=true):l∈K:=by
 obtain ⟨x,hx,e⟩:=List.any_eq_true.1 h
 rw [beq_eq' e]
 exact hx
theorem VR.shift {σ σ':Nm} {d:Nat} {K:List Nat} (hs:∀l c,l∈K→σ l=some c→σ' (l + d)=some c) {c:CV} {v:Value} (h:VR σ c v):inK K c=true→VR σ' (sh d c) v:=by
 induction h with
 | v x h=> intro _;simp only [sh];exact .v x h
 | t bs h=> intro _;simp only [sh];exact .t bs h
 | p o h=> intro hk;simp only [sh];simp only [inK] at hk;exact .p o (hs _ _ (any_mem hk) h)
 | sk o n k h hn=> intro hk;simp only [sh];simp only [inK] at hk;exact .sk o n k (hs _ _ (any_mem hk) h) hn
 | so o n z q k h hn hq hk hm=> intro hk2;simp only [sh];simp only [inK] at hk2;exact .so o n z q k (hs _ _ (any_mem hk2) h) hn hq hk hm
 | s0 o z A h hk hz=> intro hk2;simp only [sh];simp only [inK] at hk2;exact .s0 o z A (hs _ _ (any_mem hk2) h) hk hz
 | m h=> intro hk;simp only [sh];simp only [inK] at hk;exact .m (hs _ _ (any_mem hk) h)
 | fn f fs cs us vs hl hl2 _ _ ih ih2=>
  intro hk
  simp only [inK] at hk
  obtain ⟨k1,k2⟩:=and_true hk
  simp only [sh]
  refine .fn f _ _ us vs (by rw [shL_length];exact hl) (by rw [shL_length];exact hl2) (fun j c u hc hu=> ?_) fun j c u hc hu=> ?_
  ·rw [shL_get] at hc
   obtain ⟨c0,h0,rfl⟩:=Option.map_eq_some_iff.1 hc
   exact ih j c0 u h0 hu (inKL_get k1 j c0 h0)
  ·rw [shL_get] at hc
   obtain ⟨c0,h0,rfl⟩:=Option.map_eq_some_iff.1 hc
   exact ih2 j c0 u h0 hu (inKL_get k2 j c0 h0)
 | agg cs vs h1 hl _ ih=>
  intro hk
  simp only [inK] at hk
  simp only [sh]
  refine .agg _ vs (fun c hc=> ?_) (by rw [shL_length];exact hl) fun j c u hc hu=> ?_
  ·obtain ⟨j,hj⟩:=List.mem_iff_getElem?.1 hc
   rw [shL_get] at hj
   obtain ⟨c0,h0,rfl⟩:=Option.map_eq_some_iff.1 hj
   rw [oneC_sh]
   exact h1 c0 (List.mem_of_getElem? h0)
  ·rw [shL_get] at hc
   obtain ⟨c0,h0,rfl⟩:=Option.map_eq_some_iff.1 hc
   exact ih j c0 u h0 hu (inKL_get hk j c0 h0)
 | tup cs vs hl _ ih=>
  intro hk
  simp only [inK] at hk
  simp only [sh]
  refine .tup _ vs (by rw [shL_length];exact hl) fun j c u hc hu=> ?_
  rw [shL_get] at hc
  obtain ⟨c0,h0,rfl⟩:=Option.map_eq_some_iff.1 hc
  exact ih j c0 u h0 hu (inKL_get hk j c0 h0)
def shB (d:Nat):Blk→Blk
 | .cl k cs=> .cl k (shL d cs)
 | .mp es bs ck=> .mp (es.map fun p=> (sh d p.1,sh d p.2)) bs ck
 | .it m since seen last=> .it (m.map (· + d)) since seen last
 | .mu es=> .mu (es.map fun p=> (p.1,sh d p.2))
def inKB (K:List Nat):Blk→Bool
 | .cl _ cs=> inKL K cs
 | .mp es _ _=> es.all fun p=> inK K p.1 && inK K p.2
 | .it none _ _ _=> true
 | .it (some m) _ _ _=> K.any (Nat.beq m)
 | .mu es=> es.all fun p=> inK K p.2
theorem BlkOk.shift {σ σ':Nm} {d:Nat} {K:List Nat} (hs:∀l c,l∈K→σ l=some c→σ' (l + d)=some c) {w:World} {c:Loc} {b:Blk} (hk:inKB K b=true) (h:BlkOk σ w c b):BlkOk σ' w c (shB d b):=by
 cases b with
 | cl k cs=>
  obtain ⟨vals,T,h1,h2,h3,hk2,h4⟩:=h
  refine ⟨vals,T,h1,by rw [shL_length];exact h2,h3,by rw [shL_length];exact hk2,fun j x hx=> ?_⟩
  rw [shL_get] at hx
  obtain ⟨x0,h0,rfl⟩:=Option.map_eq_some_iff.1 hx
  obtain ⟨v,a1,a2,a3⟩:=h4 j x0 h0
  exact ⟨v,a1,a2.shift hs (inKL_get hk j x0 h0),by rw [oneC_sh];exact a3⟩
 | it m since seen last=>
  cases m with
  | none=> exact h
  | some m=>
   obtain ⟨e,h1,h2,h3⟩:=h
   exact ⟨e,hs m e (any_mem hk) h1,h2,h3⟩
 | mu es=>
  obtain ⟨ents,ck,h1,h2,h3,h4⟩:=h
  refine ⟨ents,ck,h1,h2,fun e he=> ?_,fun p hp=> ?_⟩
  ·obtain ⟨p,a1,a2,a3⟩:=h3 e he
   exact ⟨(p.1,sh d p.2),List.mem_map.2 ⟨p,a1,rfl⟩,a2,a3.shift hs (List.all_eq_true.1 hk p a1)⟩
  ·obtain ⟨q,hq,rfl⟩:=List.mem_map.1 hp
   exact h4 q hq
 | mp es bs ck=>
  obtain ⟨ents,h1,h2,hb,h3,h4⟩:=h
  refine ⟨ents,h1,h2,hb,by rw [List.length_map];exact h3,fun j p e hp he=> ?_⟩
  rw [List.getElem?_map] at hp
  obtain ⟨p0,h0,rfl⟩:=Option.map_eq_some_iff.1 hp
  obtain ⟨k1,k2⟩:=and_true (List.all_eq_true.1 hk p0 (List.mem_of_getElem? h0))
  exact ⟨(h4 j p0 e h0 he).1.shift hs k1,(h4 j p0 e h0 he).2.shift hs k2⟩
noncomputable def puts (d:Nat) (L:List (Nat×Blk)) (H:Tr Blk):Tr Blk:= @List.rec (Nat×Blk) (fun _=> Tr Blk) H (fun p _ ih=> ih.put (Nat.add p.1 d) (shB d p.2)) L
theorem puts_get {H1:Tr Blk} (d:Nat) (H:Tr Blk):∀{L:List (Nat×Blk)} (_:∀p∈L,H1.get p.1=some p.2) (l:Nat),(∃p∈L,l=p.1 + d∧(puts d L H).get l=some (shB d p.2))∨((∀p∈L,l≠p.1 + d)∧(puts d L H).get l=H.get l)
 | [],_,l=> Or.inr ⟨(fun p hp=> by cases hp),rfl⟩
 | q::L,hL,l=> by
  show (∃p∈q::L,l=p.1 + d∧((puts d L H).put (q.1 + d) (shB d q.2)).get l=some (shB d p.2))∨((∀p∈q::L,l≠p.1 + d)∧((puts d L H).put (q.1 + d) (shB d q.2)).get l=H.get l)
  rw [get_put]
  by_cases he:l=q.1 + d
  ·rw [if_pos he]
   exact Or.inl ⟨q,List.mem_cons_self ..,he,rfl⟩
  ·rw [if_neg he]
   rcases puts_get d H (fun p hp=> hL p (List.mem_cons_of_mem _ hp)) l with ⟨p,hp,h1,h2⟩ | ⟨h1,h2⟩
   ·exact Or.inl ⟨p,List.mem_cons_of_mem _ hp,h1,h2⟩
   ·exact Or.inr ⟨fun p hp=> by
     rcases List.mem_cons.1 hp with rfl | hp
     ·exact he
     ·exact h1 p hp,h2⟩
noncomputable def addN (σ σ1:Nm) (nx:Nat) (K:List Nat):Nm:=fun l=> if l < nx then σ l else if (l - nx)∈K then σ1 (l - nx) else none
theorem R.join {w0:Base} {w w':World} {σ σ1:Nm} {H H1:Tr Blk} {nx n1:Nat} (h:R w0 σ H nx w) (h1:R (Base.of w) σ1 H1 n1 w') {L:List (Nat×Blk)} (hL:∀p∈L,H1.get p.1=some p.2) (hK:∀p∈L,inKB (L.map (·.1)) p.2=true):R w0 (addN σ σ1 nx (L.map (·.1))) (puts nx L H) (nx + n1) w':=by
 have lowN:∀l,l < nx→addN σ σ1 nx (L.map (·.1)) l=σ l:=fun l hl=> if_pos hl
 have le:Le σ (addN σ σ1 nx (L.map (·.1))):=fun l c hc=> by rw [lowN l (h.fresh l c hc)];exact hc
 have up:∀l c,l∈L.map (·.1)→σ1 l=some c→addN σ σ1 nx (L.map (·.1)) (l + nx)=some c:=fun l c hl hc=> by
  unfold addN
  rw [if_neg (by omega),Nat.add_sub_cancel,if_pos hl]
  exact hc
 have lowG:∀l,l < nx→(puts nx L H).get l=H.get l:=fun l hl=> by
  rcases puts_get nx H hL l with ⟨p,_,e,_⟩ | ⟨_,e⟩
  ·omega
  ·exact e
 have hi:∀l c,¬l < nx→addN σ σ1 nx (L.map (·.1)) l=some c→∃p∈L,l=p.1 + nx∧σ1 p.1=some c∧H1.get p.1=some p.2∧(puts nx L H).get l=some (shB nx p.2):=fun l c hl hc=> by
  unfold addN at hc
  rw [if_neg hl] at hc
  by_cases hm:(l - nx)∈L.map (·.1)
  ·rw [if_pos hm] at hc
   obtain ⟨q,hq,e⟩:=List.mem_map.1 hm
   rcases puts_get nx H hL l with ⟨p,hp,e1,e2⟩ | ⟨e1,_⟩
   ·have:l - nx=p.1:=by omega
    rw [this] at hc
    exact ⟨p,hp,e1,hc,hL p hp,e2⟩
   ·exact absurd (show l=q.1 + nx by omega) (e1 q hq)
  ·rw [if_neg hm] at hc
   cases hc
 refine ⟨(h.keep h1.below.to).below,fun l c b hl hb=> ?_,fun l c hl=> ?_,fun l l' c c' b b' hl hl' hb hb' e=> ?_,fun l c hl=> ?_⟩
 ·by_cases hlt:l < nx
  ·rw [lowN l hlt] at hl
   rw [lowG l hlt] at hb
   exact (h.blk l c b hl hb).mono le (h1.below.block _ (h.lo l c hl).2)
  ·obtain ⟨p,hp,e1,e2,e3,e4⟩:=hi l c hlt hl
   rw [e4] at hb
   injection hb with hb
   subst hb
   exact (h1.blk p.1 c p.2 e2 e3).shift up (hK p hp)
 ·by_cases hlt:l < nx
  ·rw [lowN l hlt] at hl
   exact ⟨(h.lo l c hl).1,Nat.lt_of_lt_of_le (h.lo l c hl).2 h1.below.size⟩
  ·obtain ⟨p,_,_,e2,_,_⟩:=hi l c hlt hl
   exact ⟨fun hF=> (h1.lo p.1 c e2).1 (Nat.lt_of_lt_of_le (w0.lt _ hF) h.below.size),(h1.lo p.1 c e2).2⟩
 ·by_cases hlt:l < nx <;> by_cases hlt':l' < nx
  ·rw [lowN l hlt] at hl
   rw [lowN l' hlt'] at hl'
   rw [lowG l hlt] at hb
   rw [lowG l' hlt'] at hb'
   exact h.sep l l' c c' b b' hl hl' hb hb' e
  ·rw [lowN l hlt] at hl
   obtain ⟨p,_,_,e2,_,_⟩:=hi l' c' hlt' hl'
   have a:=(h.lo l c hl).2
   have b:¬c'.blk < w.heap.size:=(h1.lo p.1 c' e2).1
   omega
  ·rw [lowN l' hlt'] at hl'
   obtain ⟨p,_,_,e2,_,_⟩:=hi l c hlt hl
   have a:=(h.lo l' c' hl').2
   have b:¬c.blk < w.heap.size:=(h1.lo p.1 c e2).1
   omega
  ·obtain ⟨p,_,e1,e2,e3,_⟩:=hi l c hlt hl
   obtain ⟨p',_,e1',e2',e3',_⟩:=hi l' c' hlt' hl'
   have:=h1.sep p.1 p'.1 c c' p.2 p'.2 e2 e2' e3 e3' e
   omega
 ·by_cases hlt:l < nx
  ·omega
  ·obtain ⟨p,_,e1,e2,_,_⟩:=hi l c hlt hl
   have:=h1.fresh p.1 c e2
   omega
structure Memo where
 f:FuncId
 args:List CV
 v:CV
 L:List (Nat×Blk)
 n:Nat
def eqT:List Nat→List Nat→Bool
 | [],[]=> true
 | a::l,b::r=> Nat.beq a b && eqT l r
 | _,_=> false
theorem eqT_eq:∀{a b:List Nat},eqT a b=true→a=b
 | [],[],_=> rfl
 | a::l,b::r,h=> by
  obtain ⟨h1,h2⟩:=and_true (show (Nat.beq a b && eqT l r)=true from h)
  rw [beq_eq' h1,eqT_eq h2]
 | [],b::r,h=> by cases h
 | a::l,[],h=> by cases h
def vE:Value→Value→Bool
 | .int k n,.int k' m=> kEq k k' && ieq n m
 | .bool a,.bool b=> a==b
 | .slice none z k,.slice none z' k'=> Nat.beq z z' && Nat.beq k k'
 | _,_=> false
def leafE:CV→CV→Bool
 | .t a,.t b=> eqT a b
 | .v a,.v b=> vE a b
 | _,_=> false
def leavesE:List CV→List CV→Bool
 | [],[]=> true
 | a::l,b::r=> leafE a b && leavesE l r
 | _,_=> false
def argE:CV→CV→Bool
 | .agg a,.agg b=> leavesE a b
 | a,b=> leafE a b
def argsE:List CV→List CV→Bool
 | [],[]=> true
 | a::qs,b::bs=> argE a b && argsE qs bs
 | _,_=> false
def Memo.closed (m:Memo):Bool:=inK (m.L.map (·.1)) m.v && m.L.all fun p=> inKB (m.L.map (·.1)) p.2
structure Memo.Ok (P:Program) (G:Base→Prop) (m:Memo):Prop where
 cl:m.closed=true
 ok:∀(w:World) (vals:Array Value),G (Base.of w)→VRL (fun _=> none) m.args vals.toList→(callFunc m.f vals).run P w= .ok (.enter m.f vals) w∧
  Calls P m.f vals w fun e w'=> ∃x,e= .returned x∧∃σ1 H1,R (Base.of w) σ1 H1 m.n w'∧(∀p∈m.L,H1.get p.1=some p.2)∧VR σ1 m.v x
noncomputable def xM:List Memo→FuncId→List CV→Tr Blk→Nat→Option Res
 | [],_,_,_,_=> none
 | m::t,f,args,H,nx=> ifB (Bool.and (Nat.beq f m.f) (argsE m.args args)) (some (.ok (sh nx m.v) (puts nx m.L H) (Nat.add nx m.n))) (xM t f args H nx)
theorem vE_eq {a b:Value} (h:vE a b=true):a=b:=by
 unfold vE at h
 split at h
 ·obtain ⟨h1,h2⟩:=and_true h
  rw [ieq_eq] at h2
  rw [kEq_eq h1,of_decide_eq_true h2]
 ·rw [eq_of_beq h]
 ·obtain ⟨h1,h2⟩:=and_true h
  rw [beq_eq' h1,beq_eq' h2]
 ·cases h
theorem leafE_ok {σ σ':Nm} {a b:CV} {v:Value} (h:leafE a b=true) (hv:VR σ b v):a=b∧VR σ' a v:=by
 unfold leafE at h
 split at h
 ·rw [eqT_eq h]
  cases hv with
  | t _ hb=> exact ⟨rfl,.t _ hb⟩
 ·rw [vE_eq h]
  cases hv with
  | v _ hb=> exact ⟨rfl,.v _ hb⟩
 ·cases h
theorem leavesE_get:∀{l r:List CV},leavesE l r=true→l.length=r.length∧∀(j:Nat) (a:CV),l[j]? =some a→∃b,r[j]? =some b∧leafE a b=true
 | [],[],_=> ⟨rfl,fun j a h=> by simp at h⟩
 | a::l,b::r,h=> by
  obtain ⟨h1,h2⟩:=and_true (show (leafE a b && leavesE l r)=true from h)
  obtain ⟨h3,h4⟩:=leavesE_get h2
  refine ⟨by rw [List.length_cons,List.length_cons,h3],fun j x hx=> ?_⟩
  cases j with
  | zero=>
   injection hx with hx
   subst hx
   exact ⟨b,rfl,h1⟩
  | succ j=> exact h4 j x hx
 | [],b::r,h=> by cases h
 | a::l,[],h=> by cases h
theorem leafE_one {a b:CV} (h:leafE a b=true):oneC a=true:=by
 unfold leafE at h
 split at h
 ·rfl
 ·rfl
 ·cases h
theorem argE_ok {σ σ':Nm} {a b:CV} {v:Value} (h:argE a b=true) (hv:VR σ b v):VR σ' a v:=by
 unfold argE at h
 split at h
 ·rename_i l r
  obtain ⟨h1,h2⟩:=leavesE_get h
  cases hv with
  | agg _ vs k1 kl kh=>
   refine .agg l vs (fun c hc=> ?_) (by rw [h1];exact kl) fun j c u hc hu=> ?_
   ·obtain ⟨j,hj⟩:=List.mem_iff_getElem?.1 hc
    obtain ⟨b,_,hb⟩:=h2 j c hj
    exact leafE_one hb
   ·obtain ⟨b,hb,he⟩:=h2 j c hc
    exact (leafE_ok he (kh j b u hb hu)).2
 ·exact (leafE_ok h hv).2
theorem argsE_ok {σ σ':Nm}:∀{qs bs:List CV} {vs:List Value},argsE qs bs=true→VRL σ bs vs→VRL σ' qs vs
 | [],[],vs,_,h=> ⟨h.1,fun j c v hc=> by simp at hc⟩
 | a::qs,b::bs,[],_,h=> by have:=h.1;simp at this
 | a::qs,b::bs,v::vs,he,h=> by
  obtain ⟨h1,h2⟩:=and_true (show (argE a b && argsE qs bs)=true from he)
  exact .cons (argE_ok h1 (h.2 0 b v rfl rfl)) (argsE_ok h2 ⟨by have:=h.1;simpa using this,fun j c u hc hu=> h.2 (j + 1) c u hc hu⟩)
 | [],b::bs,_,h,_=> by cases h
 | a::qs,[],_,h,_=> by cases h
theorem xM_ok {P:Program} {G:Base→Prop} (hG:∀w0 w,G w0→BelowF w0 w→G (Base.of w)):∀{T:List Memo},(∀m∈T,m.Ok P G)→ExtOk P G (xM T)
 | [],_=> fun f args H nx v H' nx' h=> by cases h
 | m::T,hT=> fun f args H nx v H' nx' h w0 σ w vals hg hr hL=> by
  rcases ifB_cases (show ifB _ _ _=_ from h) with ⟨e,h1⟩ | ⟨_,h1⟩
  ·obtain ⟨e1,e2⟩:=and_true e
   have e1:=beq_eq' e1
   subst e1
   injection h1 with h1
   injection h1 with h1 h2 h3
   subst h1 h2 h3
   have hm:=hT m (List.mem_cons_self ..)
   obtain ⟨hc,hcl⟩:=hm.ok w vals (hG w0 w hg hr.below) (argsE_ok e2 hL)
   obtain ⟨c1,c2⟩:=and_true hm.cl
   refine ⟨hc,hcl.mono ?_⟩
   rintro e' w' ⟨x,rfl,σ1,H1,hR,hH,hv⟩
   refine ⟨x,rfl,addN σ σ1 nx (m.L.map (·.1)),fun l c hl=> ?_,fun l hl=> if_pos hl,hr.join hR hH fun p hp=> List.all_eq_true.1 c2 p hp,Nat.le_add_right ..,hv.shift (fun l c hl hc=> ?_) c1⟩
   ·unfold addN
    rw [if_pos (hr.fresh l c hl)]
    exact hl
   ·unfold addN
    rw [if_neg (by omega),Nat.add_sub_cancel,if_pos hl]
    exact hc
  ·exact xM_ok hG (fun p hp=> hT p (List.mem_cons_of_mem _ hp)) f args H nx v H' nx' h1 w0 σ w vals hg hr hL
mutual
def labs:CV→List Nat
 | .v _=> []
 | .t _=> []
 | .p l _=> [l]
 | .s l _ _ _=> [l]
 | .m l=> [l]
 | .fn _ fs cs=> labsL fs ++ labsL cs
 | .agg cs=> labsL cs
 | .tup cs=> labsL cs
def labsL:List CV→List Nat
 | []=> []
 | c::cs=> labs c ++ labsL cs
end
def labsB:Blk→List Nat
 | .cl _ cs=> labsL cs
 | .mp es _ _=> labsL (es.map (·.1)) ++ labsL (es.map (·.2))
 | .it none _ _ _=> []
 | .it (some m) _ _ _=> [m]
 | .mu es=> labsL (es.map (·.2))
noncomputable def collect (H:Tr Blk):Nat→List Nat→List (Nat×Blk)→List (Nat×Blk)
 | 0,_,acc=> acc
 | _ + 1,[],acc=> acc
 | n + 1,l::r,acc=> ifB (acc.any fun p=> Nat.beq p.1 l) (collect H n r acc) (@Option.rec Blk (fun _=> List (Nat×Blk)) (collect H n r acc) (fun b=> collect H n (labsB b ++ r) ((l,b)::acc)) (H.get l))
theorem collect_get {H:Tr Blk}:∀(n:Nat) (t:List Nat) (acc:List (Nat×Blk)),(∀p∈acc,H.get p.1=some p.2)→∀p∈collect H n t acc,H.get p.1=some p.2
 | 0,_,_,h=> h
 | _ + 1,[],_,h=> h
 | n + 1,l::r,acc,h=> by
  show ∀p∈ifB (acc.any fun p=> Nat.beq p.1 l) (collect H n r acc) (@Option.rec Blk (fun _=> List (Nat×Blk)) (collect H n r acc) (fun b=> collect H n (labsB b ++ r) ((l,b)::acc)) (H.get l)),H.get p.1=some p.2
  cases hb:acc.any fun p=> Nat.beq p.1 l with
  | true=> exact collect_get n r acc h
  | false=>
   show ∀p∈ @Option.rec Blk (fun _=> List (Nat×Blk)) (collect H n r acc) (fun b=> collect H n (labsB b ++ r) ((l,b)::acc)) (H.get l),H.get p.1=some p.2
   cases hg:H.get l with
   | none=> exact collect_get n r acc h
   | some b=>
    refine collect_get n (labsB b ++ r) ((l,b)::acc) fun p hp=> ?_
    rcases List.mem_cons.1 hp with rfl | hp
    ·exact hg
    ·exact h p hp
noncomputable def outcome (r:Res):Option (CV×List (Nat×Blk)×Nat):= @Res.rec (fun _=> Option (CV×List (Nat×Blk)×Nat)) none (fun v H n=> some (v,collect H 3000 (labs v) [],n)) r
theorem Memo.of_run {P:Program} {G:Base→Prop} (hm:P.follows .mixedOrders=true) {ext:FuncId→List CV→Tr Blk→Nat→Option Res} (hE:ExtOk P G ext) {k n:Nat} (m:Memo) (hc:m.closed=true) (h:outcome (rc P ext k n m.f m.args .e 0)=some (m.v,m.L,m.n)):m.Ok P G:=by
 refine ⟨hc,fun w vals hg hL=> ?_⟩
 cases hr:rc P ext k n m.f m.args .e 0 with
 | no=> rw [hr] at h;cases h
 | ok v H n'=>
  rw [hr] at h
  have h:some (v,collect H 3000 (labs v) [],n')=some (m.v,m.L,m.n):=h
  injection h with h
  injection h with h1 h
  injection h with h2 h3
  obtain ⟨a,b⟩:=rc_ok hm hE k n m.f m.args .e 0 v H n' hr (Base.of w) (fun _=> none) w vals hg (R.start w) hL
  refine ⟨a,b.mono ?_⟩
  rintro e w' ⟨x,rfl,σ1,_,_,hR,_,hv⟩
  rw [h1] at hv
  rw [h3] at hR
  refine ⟨x,rfl,σ1,H,hR,fun p hp=> ?_,hv⟩
  rw [←h2] at hp
  exact collect_get 3000 (labs v) [] (fun p hp=> by cases hp) p hp
noncomputable def orX (x y:FuncId→List CV→Tr Blk→Nat→Option Res) (f:FuncId) (args:List CV) (H:Tr Blk) (nx:Nat):Option Res:= @Option.rec Res (fun _=> Option Res) (y f args H nx) (fun r=> some r) (x f args H nx)
theorem orX_ok {P:Program} {G:Base→Prop} {x y:FuncId→List CV→Tr Blk→Nat→Option Res} (hx:ExtOk P G x) (hy:ExtOk P G y):ExtOk P G (orX x y):=fun f args H nx v H' nx' h=> by
 have h: @Option.rec Res (fun _=> Option Res) (y f args H nx) (fun r=> some r) (x f args H nx)=some (.ok v H' nx'):=h
 cases hq:x f args H nx with
 | none=>
  rw [hq] at h
  exact hy f args H nx v H' nx' h
 | some r=>
  rw [hq] at h
  have h:some r=some (.ok v H' nx'):=h
  injection h with h
  subst h
  exact hx f args H nx v H' nx' hq
open Go.RowKit
noncomputable def decF (l:List Nat):Nat→Option Nat:= @List.rec Nat (fun _=> Nat→Option Nat) (fun acc=> some acc) (fun b _ ih acc=> ifO (Bool.and (Nat.ble 48 b) (Nat.ble b 57)) (ih (Nat.add (Nat.mul acc 10) (Nat.sub b 48)))) l
noncomputable def decL (l:List Nat):Option Nat:=ifO (Bool.not (emptyB l)) (decF l 0)
noncomputable def atoiN (l:List Nat):Option Int:= @List.rec Nat (fun _=> Option Int) none (fun b r _=> ifB (Nat.beq b 45) (ob (decL r) fun m=> some (Int.negOfNat m)) (ifB (Nat.beq b 43) (ob (decL r) fun m=> some (Int.ofNat m)) (ob (decL (b::r)) fun m=> some (Int.ofNat m)))) l
noncomputable def xAtoi (h:Tr Blk) (nx:Nat) (args:List CV):Option Res:=match args with
 | [.t bs]=> ifO (Nat.ble (len bs) 18) (ob (atoiN bs) fun n=> now n fun n=> some (.ok (.tup [.v (.int .i64 n),.v .nilIface]) h nx))
 | _=> none
noncomputable def xIdx (h:Tr Blk) (nx:Nat) (args:List CV):Option Res:=match args with
 | [.t bs,.v y]=> (match y with
  | .int k c=> ifO (kEq k .u8) (@Int.rec (fun _=> Option Res) (fun c=> ifO (Nat.ble c 255) (some (.ok (.v (.int .i64 (@Option.rec Nat (fun _=> Int) (.negSucc 0) (fun i=> .ofNat i) (posN c bs)))) h nx))) (fun _=> none) c)
  | _=> none)
 | _=> none
noncomputable def cutC (bs:List Nat) (r:Option Nat):CV:= @Option.rec Nat (fun _=> CV) (.tup [.t bs,.t [],.v (.bool false)]) (fun i=> .tup [.t (takeN i bs),.t (dropN (Nat.succ i) bs),.v (.bool true)]) r
noncomputable def xCut (h:Tr Blk) (nx:Nat) (args:List CV):Option Res:=match args with
 | [.t bs,.t sep]=> (match sep with
  | [c]=> ifO (Nat.ble (len bs) 1000000) (some (.ok (cutC bs (posN c bs)) h nx))
  | _=> none)
 | _=> none
noncomputable def insI (n:Int) (l:List Int):List Int:= @List.rec Int (fun _=> List Int) [n] (fun m r ih=> ifB (ilt m n) (m::ih) (n::m::r)) l
noncomputable def sortI (l:List Int):List Int:= @List.rec Int (fun _=> List Int) [] (fun n _ ih=> insI n ih) l
noncomputable def keysI (l:List (CV×CV)):Option (List Int):= @List.rec (CV×CV) (fun _=> Option (List Int)) (some []) (fun p _ ih=> isI p.1 fun n=> ob ih fun r=> some (n::r)) l
noncomputable def intsC (l:List Int):List CV:= @List.rec Int (fun _=> List CV) [] (fun n _ ih=> .v (.int .i64 n)::ih) l
noncomputable def i64L (l:List Int):Bool:= @List.rec Int (fun _=> Bool) true (fun n _ ih=> Bool.and (Bool.and (Bool.not (ilt n (.negSucc 9223372036854775807))) (Bool.not (ilt (.ofNat 9223372036854775807) n))) ih) l
noncomputable def xSort2 (h:Tr Blk) (nx:Nat) (l:List Int):Option Res:=ifO (Bool.and (Nat.ble (len l) 1000000) (i64L l)) (@List.rec Int (fun _=> Option Res) (some (.ok (.v (.slice none 0 0)) h nx)) (fun _ _ _=> some (.ok (.s nx 0 (len l) (.op 1 (len l))) (h.put nx (.cl .any (intsC (sortI l)))) (Nat.succ nx))) l)
def kdBox (k:Kd):Bool:=match k with
 | .any=> false
 | _=> true
noncomputable def xSort1 (kf:FuncId) (h:Tr Blk) (nx:Nat) (g:CV):Option Res:=match g with
 | .fn f [] [.p b o]=> ifO (Bool.and (Nat.beq f kf) (Bool.and (Nat.beq o 0) (kdBox (kOf h b)))) (ob (cellsOf h b) fun cs=> ob (nth cs 0) fun c=> isM c fun l=> ob (mapAt h l) fun es=> ob (keysI es) fun ks=> xSort2 h nx ks)
 | _=> none
noncomputable def xSort (kf:FuncId) (h:Tr Blk) (nx:Nat) (args:List CV):Option Res:=match args with
 | [g]=> xSort1 kf h nx g
 | _=> none
end Go.Proofs.YtmgcnoigihdhpaaGreatDoor.Ci
namespace Go.Proofs.YtmgcnoigihdhpaaGreatDoor.Ci
open Go.RowKit Go.Shelf
noncomputable def dig (f:Nat):Nat→List Nat→Option (List Nat):= @Nat.rec (fun _=> Nat→List Nat→Option (List Nat)) (fun _ _=> none) (fun _ ih n acc=> @Bool.rec (fun _=> Option (List Nat)) (ih (Nat.div n 10) (Nat.add 48 (Nat.mod n 10)::acc)) (some (Nat.add 48 n::acc)) (Nat.ble n 9)) f
noncomputable def itoaN (n:Int):Option (List Nat):= @Int.rec (fun _=> Option (List Nat)) (fun n=> ifO (Nat.ble n 9223372036854775807) (dig 25 n [])) (fun n=> ifO (Nat.ble n 9223372036854775807) (ob (dig 25 (Nat.succ n) []) fun bs=> some (45::bs))) n
noncomputable def xItoa (h:Tr Blk) (nx:Nat) (args:List CV):Option Res:=match args with
 | [.v y]=> (match y with
  | .int k n=> ifO (kEq k .i64) (ob (itoaN n) fun bs=> some (.ok (.t bs) h nx))
  | _=> none)
 | _=> none
theorem dig_ok:∀(f n:Nat) (acc r:List Nat),dig f n acc=some r→r=(Lib.decDigits n).map UInt8.toNat ++ acc
 | 0,n,acc,r,h=> by cases h
 | f + 1,n,acc,r,h=> by
  have h: @Bool.rec (fun _=> Option (List Nat)) (dig f (Nat.div n 10) (Nat.add 48 (Nat.mod n 10)::acc)) (some (Nat.add 48 n::acc)) (Nat.ble n 9)=some r:=h
  have hn:∀m,m≤9→(UInt8.ofNat (48 + m)).toNat=48 + m:=fun m hm=> by simp;omega
  rw [Lib.decDigits]
  cases hb:Nat.ble n 9
  ·rw [hb] at h
   have hlt:¬n < 10:=by
    intro hlt
    have:=Nat.ble_eq_true_of_le (show n≤9 by omega)
    rw [hb] at this
    cases this
   rw [dif_neg hlt,dig_ok f _ _ _ h]
   simp only [List.map_append,List.map_cons,List.map_nil,List.append_assoc,List.cons_append,List.nil_append]
   rw [hn (n % 10) (by omega)]
   first | done | rfl
  ·rw [hb] at h
   have hb:=ble_le hb
   rw [dif_pos (by omega)]
   injection h with h
   rw [←h]
   simp only [List.map_cons,List.map_nil,List.cons_append,List.nil_append]
   rw [hn n hb]
   first | done | rfl
theorem itoaN_ok {n:Int} {bs:List Nat} (h:itoaN n=some bs):bs=(Lib.itoa n).map UInt8.toNat∧ -9223372036854775808≤n∧n≤9223372036854775807:=by
 cases n with
 | ofNat n=>
  obtain ⟨h1,h2⟩:=ifO_some (show ifO (Nat.ble n 9223372036854775807) (dig 25 n [])=some bs from h)
  have h1:=ble_le h1
  refine ⟨?_,by show (-9223372036854775808:Int)≤(n:Int);omega,by show (n:Int)≤9223372036854775807;omega⟩
  rw [dig_ok _ _ _ _ h2]
  unfold Lib.itoa
  rw [if_neg (by simp)]
  simp
 | negSucc n=>
  obtain ⟨h1,h2⟩:=ifO_some (show ifO (Nat.ble n 9223372036854775807) (ob (dig 25 (Nat.succ n) []) fun bs=> some (45::bs))=some bs from h)
  obtain ⟨r,h3,h4⟩:=ob_some h2
  injection h4 with h4
  have h1:=ble_le h1
  refine ⟨?_,by omega,by omega⟩
  rw [←h4,dig_ok _ _ _ _ h3]
  unfold Lib.itoa
  rw [if_pos (by omega)]
  simp
theorem bytes_of {l:List UInt8} (σ:Nm):VR σ (.t (l.map UInt8.toNat)) (.string ⟨l.toArray⟩):=by
 have e:strV (l.map UInt8.toNat)= .string ⟨l.toArray⟩:=by
  unfold strV
  rw [List.map_map]
  have:(UInt8.ofNat∘UInt8.toNat)=id:=by
   funext b
   simp
  rw [this,List.map_id]
 rw [←e]
 refine .t _ fun b hb=> ?_
 obtain ⟨u,_,rfl⟩:=List.mem_map.1 hb
 exact u.toNat_lt
noncomputable def isT {β:Type} (x:CV) (f:List Nat→Option β):Option β:=match x with
 | .t bs=> f bs
 | _=> none
theorem isT_some {β:Type} {x:CV} {f:List Nat→Option β} {r:β} (h:isT x f=some r):∃bs,x= .t bs∧f bs=some r:=by
 cases x <;> first | exact ⟨_,rfl,h⟩ | cases h
noncomputable def strsL (l:List CV):Option (List (List Nat)):= @List.rec CV (fun _=> Option (List (List Nat))) (some []) (fun c _ ih=> isT c fun bs=> ob ih fun r=> some (bs::r)) l
noncomputable def joinT (sep:List Nat) (l:List (List Nat)):List Nat:= @List.rec (List Nat) (fun _=> List Nat) [] (fun x _ ih=> app sep (app x ih)) l
noncomputable def joinN (sep:List Nat) (l:List (List Nat)):List Nat:=match l with
 | []=> []
 | x::l=> app x (joinT sep l)
noncomputable def xJoin2 (h:Tr Blk) (nx l o n:Nat) (sep:List Nat):Option Res:=ob (cellsAt h l o) fun cs=> ob (strsL (takeN n cs)) fun xs=> ifO (Bool.and (Nat.beq (len xs) n) (Bool.and (Nat.ble n 1000000) (Nat.ble (len (joinN sep xs)) 1000000))) (some (.ok (.t (joinN sep xs)) h nx))
noncomputable def xJoin (h:Tr Blk) (nx:Nat) (args:List CV):Option Res:=match args with
 | [a,.t sep]=> (match a with
  | .v y=> ifO (isNilS y) (some (.ok (.t []) h nx))
  | .s l o n _=> @Bool.rec (fun _=> Option Res) (xJoin2 h nx l o n sep) (some (.ok (.t []) h nx)) (Nat.beq n 0)
  | _=> none)
 | _=> none
theorem strsL_ok {σ:Nm}:∀{cs:List CV} {vs:List Value} {xs:List (List Nat)},VRL σ cs vs→strsL cs=some xs→vs=xs.map strV∧∀x∈xs,∀b∈x,b < 256
 | [],vs,xs,hr,h=> by
  injection (show some []=some xs from h) with h
  subst h
  exact ⟨hr.nil_inv,fun x hx=> by cases hx⟩
 | c::cs,vs,xs,hr,h=> by
  obtain ⟨v,vs',rfl,h1,h2⟩:=hr.cons_inv
  obtain ⟨bs,rfl,h5⟩:=isT_some (show isT c (fun bs=> ob (strsL cs) fun r=> some (bs::r))=some xs from h)
  obtain ⟨r,h3,h4⟩:=ob_some h5
  injection h4 with h4
  subst h4
  obtain ⟨k1,k2⟩:=strsL_ok h2 h3
  cases h1 with
  | t _ hb=>
   refine ⟨by rw [k1];rfl,fun x hx=> ?_⟩
   rcases List.mem_cons.1 hx with rfl | hx
   ·exact hb
   ·exact k2 x hx
theorem joinT_ok (sep:List Nat):∀l:List (List Nat),(joinT sep l).map UInt8.ofNat=Lib.joinTail (sep.map UInt8.ofNat) (l.map fun x=> x.map UInt8.ofNat)
 | []=> rfl
 | x::l=> by
  show (app sep (app x (joinT sep l))).map UInt8.ofNat=_
  rw [app_eq,app_eq,List.map_append,List.map_append,joinT_ok sep l]
  simp [Lib.joinTail]
theorem joinN_ok (sep:List Nat) (l:List (List Nat)):(joinN sep l).map UInt8.ofNat=Lib.join (l.map fun x=> x.map UInt8.ofNat) (sep.map UInt8.ofNat):=by
 cases l with
 | nil=> rfl
 | cons x l=>
  show (app x (joinT sep l)).map UInt8.ofNat=_
  rw [app_eq,List.map_append,joinT_ok,List.map_cons,Lib.join_cons]
theorem joinT_lt {sep:List Nat} (hs:∀b∈sep,b < 256):∀{l:List (List Nat)},(∀x∈l,∀b∈x,b < 256)→∀b∈joinT sep l,b < 256
 | [],_,b,hb=> by cases hb
 | x::l,h,b,hb=> by
  have hb:b∈app sep (app x (joinT sep l)):=hb
  rw [app_eq,app_eq] at hb
  rcases List.mem_append.1 hb with hb | hb
  ·exact hs b hb
  ·rcases List.mem_append.1 hb with hb | hb
   ·exact h x (by simp) b hb
   ·exact joinT_lt hs (fun y hy=> h y (by simp [hy])) b hb
theorem joinN_lt {sep:List Nat} (hs:∀b∈sep,b < 256) {l:List (List Nat)} (h:∀x∈l,∀b∈x,b < 256):∀b∈joinN sep l,b < 256:=by
 cases l with
 | nil=> intro b hb;cases hb
 | cons x l=>
  intro b hb
  have hb:b∈app x (joinT sep l):=hb
  rw [app_eq] at hb
  rcases List.mem_append.1 hb with hb | hb
  ·exact h x (by simp) b hb
  ·exact joinT_lt hs (fun y hy=> h y (by simp [hy])) b hb
noncomputable def xCopy2 (h:Tr Blk) (nx l:Nat) (k:Kd) (cs:List CV):Option Res:=match cs with
 | [c0,c1]=> (match c0 with
  | .v y=> ifO (isNilP y) (some (.ok (.tup []) (h.put l (.cl k [.p l 0,c1])) nx))
  | .p l' o'=> ifO (Bool.and (Nat.beq l l') (Nat.beq o' 0)) (some (.ok (.tup []) h nx))
  | _=> none)
 | _=> none
def kdWhole (t:TypeId):Kd→Bool
 | .whole e=> Nat.beq e t
 | _=> false
noncomputable def xCopy (Tb:TypeId) (h:Tr Blk) (nx:Nat) (args:List CV):Option Res:=match args with
 | [.p l o]=> ifO (Bool.and (Nat.beq o 0) (kdWhole Tb (kOf h l))) (ob (cellsOf h l) fun cs=> xCopy2 h nx l (kOf h l) cs)
 | _=> none
theorem kept_after {P:Program} {f:FuncId} {vals:Array Value} {w:World} {w0:Base} {σ:Nm} {H:Tr Blk} {nx:Nat} {v:CV} {x:Value} (hr:R w0 σ H nx w) (hv:VR σ v x) (h:Calls P f vals w fun e w'=> e= .returned x∧Below w.heap.size w w'):Calls P f vals w fun e w'=> ∃x,e= .returned x∧After w0 σ nx v H nx x w':=
 h.mono fun _ _ ⟨he,hb⟩=> ⟨x,he,.same (hr.keep hb) hv⟩
section
variable {P : Program} {ρ : Ren} {G : Base → Prop}
theorem itoa_ext (L:LaysM.n171 P ρ) (htab:∀w0 w,G w0→BelowF w0 w→Lib.TabIs P w "internal/strconv.uint64pow10" .u64 Lib.pow10Tab) {args:List CV} {H:Tr Blk} {nx:Nat} {v:CV} {H':Tr Blk} {nx':Nat} (h:xItoa H nx args=some (.ok v H' nx')) {w0:Base} {w:World} {σ:Nm} {vals:Array Value} (hG:G w0) (hr:R w0 σ H nx w) (hL:VRL σ args vals.toList):
  Calls P (ρ.f 171) vals w fun e w'=> ∃x,e= .returned x∧After w0 σ nx v H' nx' x w':=by
 unfold xItoa at h
 split at h
 ·rename_i y
  split at h
  ·rename_i k n
   obtain ⟨h1,h2⟩:=ifO_some h
   obtain ⟨bs,h3,h4⟩:=ob_some h2
   injection h4 with h4
   obtain ⟨rfl,rfl,rfl⟩:=ok_inj h4
   have h1:=kEq_eq h1
   subst h1
   obtain ⟨rfl,k1,k2⟩:=itoaN_ok h3
   obtain ⟨x,r,e1,hx,hL2⟩:=hL.cons_inv
   have e2:=hL2.nil_inv
   subst e2
   have hv:vals= #[x]:=Array.ext' (by simpa using e1)
   rw [hv,hx.val]
   refine kept_after hr (bytes_of σ) ((Any.strconv_Itoa L n k1 k2 w (htab w0 w hG hr.below)).mono ?_)
   rintro e w' ⟨he,k,os,rfl⟩
   refine ⟨he,rfl,rfl,rfl,?_,fun b hb=> ?_⟩
   ·show w.heap.size≤((w.drewN k).heap ++ os).size
    rw [Array.size_append]
    exact Nat.le_add_right _ _
   ·show ((w.drewN k).heap ++ os)[b]? =w.heap[b]?
    rw [Array.getElem?_append_left (xs:=(w.drewN k).heap) hb]
    rfl
  ·cases h
 ·cases h
theorem join_ext (L:Lays.n156 P ρ) (X:Builder.Extra P ρ) {args:List CV} {H:Tr Blk} {nx:Nat} {v:CV} {H':Tr Blk} {nx':Nat} (h:xJoin H nx args=some (.ok v H' nx')) {w0:Base} {w:World} {σ:Nm} {vals:Array Value} (hr:R w0 σ H nx w) (hL:VRL σ args vals.toList):
  Calls P (ρ.f 156) vals w fun e w'=> ∃x,e= .returned x∧After w0 σ nx v H' nx' x w':=by
 unfold xJoin at h
 split at h
 ·rename_i a sep
  obtain ⟨va,r1,e1,ha,hL2⟩:=hL.cons_inv
  obtain ⟨vb,r2,e2,hb,hL3⟩:=hL2.cons_inv
  have e3:=hL3.nil_inv
  subst e3 e2
  have hv:vals= #[va,vb]:=Array.ext' (by simpa using e1)
  rw [hv]
  cases hb with
  | t _ hsep=>
   have none_:∀(A:Option Addr) (c:Nat),va= .slice A 0 c→v= .t []→H'=H→nx'=nx→Calls P (ρ.f 156) #[va,strV sep] w fun e w'=> ∃x,e= .returned x∧After w0 σ nx v H' nx' x w':=by
    rintro A c rfl rfl rfl rfl
    refine (Any.strings_Join_none L X A c ⟨(sep.map UInt8.ofNat).toArray⟩ w).mono ?_
    rintro e w' ⟨he,rfl⟩
    exact ⟨_,he,.same hr (.t [] fun b hb=> by cases hb)⟩
   split at h
   ·rename_i y
    obtain ⟨h1,h2⟩:=ifO_some h
    injection h2 with h2
    obtain ⟨rfl,rfl,rfl⟩:=ok_inj h2
    exact none_ none 0 (by rw [ha.val,isNilS_eq h1]) rfl rfl rfl
   ·rename_i l o n c
    obtain ⟨lc,hl,A,cap,rfl,q2,q3,_,_⟩:=ha.sv
    cases hn:Nat.beq n 0
    ·rw [hn] at h
     obtain ⟨cs,h1,h2⟩:=ob_some (show xJoin2 H nx l o n sep=some (.ok v H' nx') from h)
     obtain ⟨xs,h3,h4⟩:=ob_some h2
     obtain ⟨h5,h6⟩:=ifO_some h4
     injection h6 with h6
     obtain ⟨rfl,rfl,rfl⟩:=ok_inj h6
     obtain ⟨m1,m2⟩:=and_true h5
     obtain ⟨m2,m3⟩:=and_true m2
     have m1:=beq_eq' m1
     have m2:=ble_le m2
     have m3:=ble_le m3
     rw [len_eq] at m1 m3
     have hpos:n≠0:=fun e=> by rw [e] at hn;cases hn
     obtain ⟨all,vals',T,us,g1,g2,g3,g4,g5,g6,g7,g8⟩:=hr.cells hl h1
     rw [takeN_eq] at h3
     obtain ⟨k1,k2⟩:=strsL_ok (g6.take n) h3
     rcases q3 with q3 | ⟨q3,_⟩
     ·subst q3
      have hb:∀x∈joinN sep xs,x < 256:=joinN_lt hsep k2
      have hj:Lib.join ((xs.map fun x=> (⟨(x.map UInt8.ofNat).toArray⟩:ByteArray)).map (·.data.toList)) (⟨(sep.map UInt8.ofNat).toArray⟩:ByteArray).data.toList=(joinN sep xs).map UInt8.ofNat:=by
       rw [joinN_ok]
       congr 1
       simp
      have:=Any.strings_Join L X lc.blk (lc.off + o) cap (xs.map fun x=> (⟨(x.map UInt8.ofNat).toArray⟩:ByteArray)) ⟨(sep.map UInt8.ofNat).toArray⟩ w (fun j x hx=> by
       rw [List.getElem?_map] at hx
       cases hq:xs[j]? with
       | none=> rw [hq] at hx;cases hx
       | some y=>
        rw [hq] at hx
        injection hx with hx
        have hu:(us.take n)[j]? =some (strV y):=by rw [k1,List.getElem?_map,hq];rfl
        rw [List.getElem?_take] at hu
        split at hu
        ·rw [Nat.add_assoc,g8 j _ hu,←hx]
         rfl
        ·cases hu) ((hr.lo l lc hl).2) (by simp;omega) (by simp;omega) (by rw [hj];simp;omega)
      rw [hj] at this
      have hlen:(xs.map fun x=> (⟨(x.map UInt8.ofNat).toArray⟩:ByteArray)).length=n:=by simp [m1]
      rw [hlen] at this
      exact kept_after hr (.t _ hb) this
     ·exact absurd q3 hpos
    ·rw [hn] at h
     injection (show some (Res.ok (.t []) H nx)=some (.ok v H' nx') from h) with h
     obtain ⟨rfl,rfl,rfl⟩:=ok_inj h
     have hn:=beq_eq' hn
     subst hn
     exact none_ (some A) cap rfl rfl rfl rfl
   ·cases h
 ·cases h
theorem over_one {α:Type} (cs:List α) (v:α) (h:0 < cs.length):over cs 0 [v]=cs.set 0 v:=by
 cases cs with
 | nil=> simp at h
 | cons x l=> simp [over]
theorem copy_ext (L:Lays.n240 P ρ) (X:Builder.X72 P ρ) {args:List CV} {H:Tr Blk} {nx:Nat} {v:CV} {H':Tr Blk} {nx':Nat} (h:xCopy (ρ.t 72) H nx args=some (.ok v H' nx')) {w0:Base} {w:World} {σ:Nm} {vals:Array Value} (hr:R w0 σ H nx w) (hL:VRL σ args vals.toList):
  Calls P (ρ.f 240) vals w fun e w'=> ∃x,e= .returned x∧After w0 σ nx v H' nx' x w':=by
 unfold xCopy at h
 split at h
 ·rename_i l o
  obtain ⟨h1,h2⟩:=ifO_some h
  obtain ⟨m1,m2⟩:=and_true h1
  have m1:=beq_eq' m1
  subst m1
  obtain ⟨cs,h3,h4⟩:=ob_some h2
  obtain ⟨kd,hH⟩:=cellsOf_some h3
  rw [kOf_eq hH] at m2 h4
  obtain ⟨x,r,e1,hx,hL2⟩:=hL.cons_inv
  have e2:=hL2.nil_inv
  subst e2
  have hv:vals= #[x]:=Array.ext' (by simpa using e1)
  obtain ⟨c,hl,rfl⟩:=hx.pv
  obtain ⟨cur,T,g1,g2,g3,gk,g4⟩:=hr.blk l c _ hl hH
  cases kd with
  | any=> cases m2
  | of t=> cases m2
  | whole t=>
   obtain ⟨q1,q2,q3⟩:=gk
   have m2:=beq_eq' (show Nat.beq t (ρ.t 72)=true from m2)
   rw [m2] at q1
   unfold xCopy2 at h4
   split at h4
   ·rename_i c0 c1
    have hsz:cur.size=2:=by
     have:c.room=2:=q3
     omega
    have hcell:∀j,w.cell? ⟨c.blk,j,none⟩=cur[j]? :=fun j=> cell_of_row _ _ _ cur T (0,0) g1
    obtain ⟨u0,a1,a2,_⟩:=g4 0 c0 rfl
    rw [q2] at a1
    rw [hv,q2]
    cases c0 with
    | v y=>
     obtain ⟨h5,h6⟩:=ifO_some (show ifO (isNilP y) _=some (Res.ok v H' nx') from h4)
     injection h6 with h6
     obtain ⟨rfl,rfl,rfl⟩:=ok_inj h6
     have hy:y= .pointer none:=by
      unfold isNilP at h5
      split at h5
      ·rfl
      ·cases h5
     have h0:w.cell? ⟨c.blk,0,none⟩=some (.pointer none):=by rw [hcell];rw [show cur[0]? =some u0 from a1,a2.val,hy]
     refine (Any.Builder_copyCheck_fresh L X c.blk w h0 (by simp [World.shape?,g1,hsz,q1]) (frozen_of_row w c.blk 0 cur T g1)).mono ?_
     rintro e w' ⟨he,rfl⟩
     refine ⟨_,he,.same ?_ (.unit σ)⟩
     have hup:=row_upd (o:=0) (ns:= [.p l 0]) (us:= [.pointer (some ⟨c.blk,0,none⟩)]) hr hl hH g1 (.cons (by have:=VR.p (σ:=σ) (l:=l) (c:=c) 0 hl;rw [q2] at this;exact this) (.nil σ)) (fun x hx=> by rw [List.mem_singleton.1 hx];rfl) (by simp)
     rw [setCl_eq hH,wrt_eq _ _ _ (by simp),over_one _ _ (by simp)] at hup
     rw [setCell_eq_setRow w c.blk 0 cur T (0,0) _ g1]
     have e5:(over cur.toList (c.off + 0) [Value.pointer (some ⟨c.blk,0,none⟩)]).toArray=cur.setIfInBounds 0 (.pointer (some ⟨c.blk,0,none⟩)):=by
      rw [q2,Nat.add_zero,over_one _ _ (by simp;omega)]
      apply Array.ext'
      simp
     rw [e5] at hup
     exact hup
    | p l' o'=>
     obtain ⟨h5,h6⟩:=ifO_some (show ifO (Bool.and (Nat.beq l l') (Nat.beq o' 0)) _=some (Res.ok v H' nx') from h4)
     injection h6 with h6
     obtain ⟨rfl,rfl,rfl⟩:=ok_inj h6
     obtain ⟨n1,n2⟩:=and_true h5
     have n1:=beq_eq' n1
     have n2:=beq_eq' n2
     subst n1 n2
     obtain ⟨c',hl',hu⟩:=a2.pv
     rw [hl] at hl'
     injection hl' with hl'
     subst hl'
     have h0:w.cell? ⟨c.blk,0,none⟩=some (.pointer (some ⟨c.blk,0,none⟩)):=by rw [hcell];rw [show cur[0]? =some u0 from a1,hu,q2]
     refine (Any.Builder_copyCheck_used L X c.blk w h0).mono ?_
     rintro e w' ⟨he,rfl⟩
     exact ⟨_,he,.same hr (.unit σ)⟩
    | _=> cases h4
   ·cases h4
 ·cases h
end
end Go.Proofs.YtmgcnoigihdhpaaGreatDoor.Ci
namespace Go.Proofs.YtmgcnoigihdhpaaGreatDoor.Ci
open Go.RowKit Go.Shelf Go.Maps Go.Sort Go.WideElems Go.WideShapes
theorem nat_u8 {b:Nat} (h:b < 256):(UInt8.ofNat b).toNat=b:=by simp;omega
theorem beq_u8 {b c:Nat} (hb:b < 256) (hc:c < 256):(UInt8.ofNat b==UInt8.ofNat c)=Nat.beq c b:=by
 cases hq:Nat.beq c b
 ·cases hr:(UInt8.ofNat b==UInt8.ofNat c)
  ·rfl
  ·have:=ofNat_inj hb hc (eq_of_beq hr)
   rw [this] at hq
   simp at hq
 ·rw [beq_eq' hq]
  simp
noncomputable def posZ (r:Option Nat):Int:= @Option.rec Nat (fun _=> Int) (.negSucc 0) (fun i=> .ofNat i) r
theorem posN_cons (c b:Nat) (l:List Nat):posN c (b::l)=ifB (Nat.beq c b) (some 0) (ob (posN c l) fun i=> some (Nat.succ i)):=rfl
theorem posN_idx {c:Nat} (hc:c < 256):∀{bs:List Nat},(∀b∈bs,b < 256)→Lib.indexByte (bs.map UInt8.ofNat) (UInt8.ofNat c)=posZ (posN c bs)
 | [],_=> rfl
 | b::l,h=> by
  have ih:=posN_idx hc (bs:=l) fun x hx=> h x (List.mem_cons_of_mem _ hx)
  rw [List.map_cons,Lib.indexByte,beq_u8 (h b (List.mem_cons_self ..)) hc,ih,posN_cons]
  cases Nat.beq c b
  ·cases hp:posN c l with
   | none=> rfl
   | some i=>
    show (if (Int.ofNat i== -1)=true then (-1:Int) else Int.ofNat i + 1)=Int.ofNat (i + 1)
    rw [if_neg (by simp)]
    rfl
  ·rfl
theorem posN_index {c:Nat} (hc:c < 256):∀{bs:List Nat},(∀b∈bs,b < 256)→Lib.index (bs.map UInt8.ofNat) [UInt8.ofNat c]=posZ (posN c bs)
 | [],_=> rfl
 | b::l,h=> by
  have ih:=posN_index hc (bs:=l) fun x hx=> h x (List.mem_cons_of_mem _ hx)
  have hp: [UInt8.ofNat c].isPrefixOf (UInt8.ofNat b::l.map UInt8.ofNat)=Nat.beq c b:=by
   rw [←beq_u8 (h b (List.mem_cons_self ..)) hc]
   simp only [List.isPrefixOf,Bool.and_true]
   exact BEq.comm
  rw [List.map_cons,Lib.index,hp,ih,posN_cons]
  cases Nat.beq c b
  ·cases hp:posN c l with
   | none=> rfl
   | some i=>
    show (if (Int.ofNat i== -1)=true then (-1:Int) else Int.ofNat i + 1)=Int.ofNat (i + 1)
    rw [if_neg (by simp)]
    rfl
  ·rfl
theorem decF_ok:∀{l:List Nat} {acc m:Nat},(∀b∈l,b < 256)→decF l acc=some m→Lib.decFrom acc (l.map UInt8.ofNat)=some m
 | [],acc,m,_,h=> h
 | b::l,acc,m,hb,h=> by
  obtain ⟨h1,h2⟩:=ifO_some (show ifO (Bool.and (Nat.ble 48 b) (Nat.ble b 57)) (decF l (Nat.add (Nat.mul acc 10) (Nat.sub b 48)))=some m from h)
  obtain ⟨k1,k2⟩:=and_true h1
  have k1:=ble_le k1
  have k2:=ble_le k2
  have hd:Lib.digitVal (UInt8.ofNat b)=some (b - 48):=by
   unfold Lib.digitVal
   rw [nat_u8 (hb b (List.mem_cons_self ..)),if_pos ⟨k1,k2⟩]
  rw [List.map_cons,Lib.decFrom,hd]
  exact decF_ok (fun x hx=> hb x (List.mem_cons_of_mem _ hx)) h2
theorem decL_ok {l:List Nat} {m:Nat} (hb:∀b∈l,b < 256) (h:decL l=some m):Lib.decNat (l.map UInt8.ofNat)=some m:=by
 obtain ⟨h1,h2⟩:=ifO_some h
 cases l with
 | nil=> cases h1
 | cons b l=>
  unfold Lib.decNat
  rw [if_neg (by simp)]
  exact decF_ok hb h2
theorem atoiN_ok {l:List Nat} {n:Int} (hb:∀b∈l,b < 256) (h:atoiN l=some n):Lib.atoi (l.map UInt8.ofNat)=some n:=by
 cases l with
 | nil=> cases h
 | cons b r=>
  have hbr:∀x∈r,x < 256:=fun x hx=> hb x (List.mem_cons_of_mem _ hx)
  have h:ifB (Nat.beq b 45) (ob (decL r) fun m=> some (Int.negOfNat m)) (ifB (Nat.beq b 43) (ob (decL r) fun m=> some (Int.ofNat m)) (ob (decL (b::r)) fun m=> some (Int.ofNat m)))=some n:=h
  have c45:(UInt8.ofNat b==45)=Nat.beq 45 b:=beq_u8 (c:=45) (hb b (List.mem_cons_self ..)) (by decide)
  have c43:(UInt8.ofNat b==43)=Nat.beq 43 b:=beq_u8 (c:=43) (hb b (List.mem_cons_self ..)) (by decide)
  have sw:∀x y:Nat,Nat.beq x y=Nat.beq y x:=fun x y=> by
   cases hq:Nat.beq x y
   ·cases hr:Nat.beq y x
    ·rfl
    ·rw [beq_eq' hr] at hq
     simp at hq
   ·rw [beq_eq' hq]
    simp
  rw [List.map_cons,Lib.atoi,c45,c43,sw 45,sw 43]
  cases h1:Nat.beq b 45
  ·rw [h1] at h
   cases h2:Nat.beq b 43
   ·rw [h2] at h
    obtain ⟨m,h3,h4⟩:=ob_some (show (ob (decL (b::r)) fun m=> some (Int.ofNat m))=some n from h)
    injection h4 with h4
    have:=decL_ok hb h3
    rw [List.map_cons] at this
    simp [this,←h4]
   ·rw [h2] at h
    obtain ⟨m,h3,h4⟩:=ob_some (show (ob (decL r) fun m=> some (Int.ofNat m))=some n from h)
    injection h4 with h4
    simp [decL_ok hbr h3,←h4]
  ·rw [h1] at h
   obtain ⟨m,h3,h4⟩:=ob_some (show (ob (decL r) fun m=> some (Int.negOfNat m))=some n from h)
   injection h4 with h4
   simp [decL_ok hbr h3,←h4,Int.negOfNat_eq]
theorem below_bytes (w:World) (e:TypeId) (s:ByteArray):Below w.heap.size w (Lib.bytesWorld w e s):=by
 unfold Lib.bytesWorld
 obtain ⟨h1,h2,h3,_,h5⟩:=freeze_same (w.drew.alloc (.cells (Lib.bytesCells w e s) e)) ⟨w.heap.size,(Lib.bytesCells w e s).size,none⟩ 1
 have ha:(w.drew.alloc (.cells (Lib.bytesCells w e s) e)).heap=w.heap.push (.cells (Lib.bytesCells w e s) e):=rfl
 refine ⟨h1,h2,h3,?_,fun b hb=> ?_⟩
 ·rw [h5,ha]
  simp
 ·rw [freeze_other _ _ _ _ (by show b≠w.heap.size;omega),ha,Array.getElem?_push_lt hb,Array.getElem?_eq_getElem hb]
theorem keysI_ok:∀{es:List (CV×CV)} {ks:List Int},keysI es=some ks→ks.length=es.length∧∀(j:Nat) (p:CV×CV),es[j]? =some p→∃k,ks[j]? =some k∧p.1= .v (.int .i64 k)
 | [],ks,h=> by
  injection (show some []=some ks from h) with h
  subst h
  exact ⟨rfl,fun j p h=> by simp at h⟩
 | q::es,ks,h=> by
  obtain ⟨n,h1,h2⟩:=isI_some (show isI q.1 (fun n=> ob (keysI es) fun r=> some (n::r))=some ks from h)
  obtain ⟨r,h3,h4⟩:=ob_some h2
  injection h4 with h4
  subst h4
  obtain ⟨k1,k2⟩:=keysI_ok h3
  refine ⟨by simp [k1],fun j p hp=> ?_⟩
  cases j with
  | zero=>
   injection hp with hp
   subst hp
   exact ⟨n,rfl,h1⟩
  | succ j=> exact k2 j p hp
theorem insI_perm (n:Int):∀l:List Int,(insI n l).Perm (n::l)
 | []=> .refl _
 | m::r=> by
  have e:insI n (m::r)=ifB (ilt m n) (m::insI n r) (n::m::r):=rfl
  rw [e]
  cases ilt m n
  ·exact .refl _
  ·exact ((insI_perm n r).cons m).trans (.swap _ _ _)
theorem insI_sorted (n:Int):∀{l:List Int},l.Pairwise (fun x y=> x≤y)→(insI n l).Pairwise (fun x y=> x≤y)
 | [],_=> by
  show [n].Pairwise _
  simp
 | m::r,h=> by
  have e:insI n (m::r)=ifB (ilt m n) (m::insI n r) (n::m::r):=rfl
  rw [e,ilt_eq]
  rw [List.pairwise_cons] at h
  by_cases hmn:m < n
  ·rw [decide_eq_true hmn]
   refine List.pairwise_cons.2 ⟨fun x hx=> ?_,insI_sorted n h.2⟩
   rcases List.mem_cons.1 ((insI_perm n r).mem_iff.1 hx) with rfl | hx
   ·omega
   ·exact h.1 x hx
  ·rw [decide_eq_false hmn]
   refine List.pairwise_cons.2 ⟨fun x hx=> ?_,List.pairwise_cons.2 h⟩
   rcases List.mem_cons.1 hx with rfl | hx
   ·omega
   ·have:=h.1 x hx
    omega
theorem sortI_ok:∀l:List Int,(sortI l).Perm l∧(sortI l).Pairwise (fun x y=> x≤y)
 | []=> ⟨.refl _,.nil⟩
 | n::l=> by
  obtain ⟨h1,h2⟩:=sortI_ok l
  exact ⟨(insI_perm n (sortI l)).trans (h1.cons n),insI_sorted n h2⟩
theorem sortI_merge (l:List Int):l.mergeSort (fun x y=> decide (x≤y))=sortI l:=by
 obtain ⟨h1,h2⟩:=sortI_ok l
 have e:=mergeSort_of_perm_i h1
 have e2:(sortI l).mergeSort (fun x y=> decide (x≤y))=sortI l:=List.mergeSort_of_pairwise (h2.imp fun h=> by simpa using h)
 rw [←e2]
 exact e.symm
theorem intsC_map:∀l:List Int,intsC l=l.map fun n=> .v (.int .i64 n)
 | []=> rfl
 | n::l=> by
  show CV.v (.int .i64 n)::intsC l=_
  rw [intsC_map l]
  rfl
theorem i64L_ok:∀{l:List Int},i64L l=true→∀n∈l,-9223372036854775808≤n∧n≤9223372036854775807
 | [],_,_,hn=> by cases hn
 | m::l,h,n,hn=> by
  obtain ⟨h1,h2⟩:=and_true (show Bool.and (Bool.and (Bool.not (ilt m (.negSucc 9223372036854775807))) (Bool.not (ilt (.ofNat 9223372036854775807) m))) (i64L l)=true from h)
  rcases List.mem_cons.1 hn with rfl | hn
  ·obtain ⟨k1,k2⟩:=and_true h1
   rw [ilt_eq] at k1 k2
   have k1:¬n < Int.negSucc 9223372036854775807:=by simpa using k1
   have k2:¬Int.ofNat 9223372036854775807 < n:=by simpa using k2
   have e1:Int.negSucc 9223372036854775807= -9223372036854775808:=rfl
   have e2:Int.ofNat 9223372036854775807=9223372036854775807:=rfl
   omega
  ·exact i64L_ok h2 n hn
theorem wf_of {k:Int} (h1: -9223372036854775808≤k) (h2:k≤9223372036854775807):(Lit.int .i64 k).wf=true:=by
 simp [Lit.wf,IntKind.min,IntKind.max,IntKind.signed,IntKind.bits]
 omega
theorem foldr_perm:∀l:List (Lit×DataW Unit),(l.foldr DataW.insert []).Perm l
 | []=> .nil
 | x::l=> (insert_perm x _).trans ((foldr_perm l).cons x)
theorem sorted_keys {P:Program} {ρ σ:Ren} (LK:SlLaysZI.n7 P ρ) (LS:SlLaysZI.n6 P σ) (hs:AnyZI.SortsIn P σ Fence.wide 4)
  (e9:∀(args:Array Value) (w:World),(callFunc (σ.f 9) args).run P w= .ok (.enter (σ.f 9) args) w) (eg:∀(args:Array Value) (w:World),(callFunc (ρ.f 10) args).run P w= .ok (.enter (ρ.f 10) args) w)
  {ks:List Int} (hl:ks.length≤1000000) (hr:∀k∈ks,-9223372036854775808≤k∧k≤9223372036854775807) (w:World) (bb mb:Nat) (ents:Array MapEntry) (clock:Nat) (hbb:bb < w.heap.size) (hcell:w.cell? ⟨bb,0,none⟩=some (.map (some mb))) (hmb:w.heap[mb]? =some (.map ents clock)) (hst:MapKept.Stamped ents clock) (hsz:ents.size=ks.length)
  (hkey:∀(j:Nat) (e:MapEntry),ents[j]? =some e→∃k,ks[j]? =some k∧e.key= .int .i64 k):
  Calls P (σ.f 6) #[.func (.func (ρ.f 10)) #[] #[.pointer (some ⟨bb,0,none⟩)]] w fun e w'=> ∃v,e= .returned v∧w'.ownsRow w.heap.size (σ.t 26) 1 v ks.length ((sortI ks).map fun k=> Value.int .i64 k)∧(v= .slice none 0 0↔ks= [])∧Below w.heap.size w w':=by
 let R:Value→Option (DataW Unit×List MemPlace):=fun _=> some (.lit (.bool true),[])
 have hrd:∀(j:Nat) (e:MapEntry),ents[j]? =some e→∃k,ks[j]? =some k∧rd P (ρ.t 26) R e=some (.int .i64 k,.lit (.bool true)):=by
  intro j e he
  obtain ⟨k,hk,hek⟩:=hkey j e he
  have hkr:=hr k (List.mem_of_getElem? hk)
  refine ⟨k,hk,?_⟩
  have h1:keyOf P (ρ.t 26) e.key=some (.int .i64 k):=by rw [hek];exact keyOf_int_mk LK.t26 (wf_of hkr.1 hkr.2)
  have:=rd_mk (R:=R) (val:=e.val) (born:=e.born) h1 rfl
  exact this
 have hF:Fit P (ρ.t 26) R ents clock:=⟨by rw [hsz];simp only [maxLen];omega,hst,fun x hx=> by
  obtain ⟨j,hj⟩:=List.getElem?_of_mem hx
  obtain ⟨k,_,h2⟩:=hrd j x (by simpa using hj)
  exact ⟨_,h2⟩⟩
 let D0:DataW Unit:= .map ((ents.toList.map (rg P (ρ.t 26) R)).foldr DataW.insert [])
 have hown:w.ownsMap P (ρ.t 26) R mb ents.size D0:=⟨ents,clock,hmb,hF,Nat.le_refl _,rfl⟩
 have hperm:=foldr_perm (ents.toList.map (rg P (ρ.t 26) R))
 have hsize:Maps.size D0=ks.length:=by
  show ((ents.toList.map (rg P (ρ.t 26) R)).foldr DataW.insert []).length=_
  rw [hperm.length_eq,List.length_map,Array.length_toList,hsz]
 have hkeys:(intKeys D0).Perm ks:=by
  have h1:(intKeys D0).Perm ((ents.toList.map (rg P (ρ.t 26) R)).map fun p=> Go.intOf p.1):=hperm.map _
  refine h1.trans (List.Perm.of_eq ?_)
  apply List.ext_getElem?
  intro j
  rw [List.map_map,List.getElem?_map]
  cases he:ents.toList[j]? with
  | none=>
   have:ents.size≤j:=by simpa using he
   rw [List.getElem?_eq_none (by omega)]
   rfl
  | some e=>
   obtain ⟨k,hk,h2⟩:=hrd j e (by simpa using he)
   rw [hk]
   simp only [Option.map_some,Function.comp,rg_of h2]
   rfl
 have hseq:SeqGives Fence.wide 2 P (ρ.f 10) #[.pointer (some ⟨bb,0,none⟩)] encZ (fun ss=> ss.Perm (intKeys D0)) (Maps.size D0) w:=
  AnyZI.keys_gives (ρ:=ρ) {LK with} Fence.wide _ trivial rfl (by omega) bb mb ents.size D0 w hbb hcell hown
 have cS:=AnyZI.sorted_in LS Fence.wide 5 trivial trivial trivial trivial rfl (by omega) hs e9 (ρ.f 10) #[.pointer (some ⟨bb,0,none⟩)] trivial eg _ (Maps.size D0) (by rw [hsize];simp only [maxLen];omega) (by rw [hsize];omega) w hseq
 refine ((callsIn_wide (n:=5)).1 cS).mono ?_
 rintro e w' ⟨v,ss,rfl,hS,hrow,hnil,hb⟩
 have hp:ss.Perm ks:=hS.trans hkeys
 have hms:ss.mergeSort (fun x y=> decide (x≤y))=sortI ks:=by rw [←sortI_merge];exact mergeSort_of_perm_i hp
 rw [hms,hp.length_eq] at hrow
 refine ⟨v,rfl,hrow,⟨fun h=> ?_,fun h=> hnil.2 ?_⟩,hb⟩
 ·have:=hnil.1 h
  rw [this] at hp
  exact hp.nil_eq.symm
 ·rw [h] at hp
  exact hp.eq_nil
section
variable {P : Program} {ρ : Ren} {G : Base → Prop}
theorem idx_ext (L:Lays.n217 P ρ) {args:List CV} {H:Tr Blk} {nx:Nat} {v:CV} {H':Tr Blk} {nx':Nat} (h:xIdx H nx args=some (.ok v H' nx')) {w0:Base} {w:World} {σ:Nm} {vals:Array Value} (hr:R w0 σ H nx w) (hL:VRL σ args vals.toList):
  Calls P (ρ.f 217) vals w fun e w'=> ∃x,e= .returned x∧After w0 σ nx v H' nx' x w':=by
 unfold xIdx at h
 split at h
 ·rename_i bs y
  split at h
  ·rename_i k c
   obtain ⟨h1,h2⟩:=ifO_some h
   have h1:=kEq_eq h1
   subst h1
   cases c with
   | negSucc c=> cases h2
   | ofNat c=>
    obtain ⟨h3,h4⟩:=ifO_some (show ifO (Nat.ble c 255) (some (Res.ok (.v (.int .i64 (posZ (posN c bs)))) H nx))=some (.ok v H' nx') from h2)
    have h3:=ble_le h3
    injection h4 with h4
    obtain ⟨rfl,rfl,rfl⟩:=ok_inj h4
    obtain ⟨va,r1,e1,ha,hL2⟩:=hL.cons_inv
    obtain ⟨vb,r2,e2,hb,hL3⟩:=hL2.cons_inv
    have e3:=hL3.nil_inv
    subst e3 e2
    have hv:vals= #[va,vb]:=Array.ext' (by simpa using e1)
    rw [hv,hb.val]
    cases ha with
    | t _ hbs=>
     refine kept_after hr (.v _ rfl) ((Any.stringslite_IndexByte L ⟨(bs.map UInt8.ofNat).toArray⟩ (Int.ofNat c) w).mono ?_)
     rintro e w' ⟨rfl,rfl⟩
     refine ⟨?_,.refl _ _⟩
     have:(Int.ofNat c).toNat.toUInt8=UInt8.ofNat c:=rfl
     rw [this,←posN_idx (by omega) hbs]
  ·cases h
 ·cases h
theorem atoi_ext (L:Lays.n172 P ρ) {args:List CV} {H:Tr Blk} {nx:Nat} {v:CV} {H':Tr Blk} {nx':Nat} (h:xAtoi H nx args=some (.ok v H' nx')) {w0:Base} {w:World} {σ:Nm} {vals:Array Value} (hr:R w0 σ H nx w) (hL:VRL σ args vals.toList):
  Calls P (ρ.f 172) vals w fun e w'=> ∃x,e= .returned x∧After w0 σ nx v H' nx' x w':=by
 unfold xAtoi at h
 split at h
 ·rename_i bs
  obtain ⟨h1,h2⟩:=ifO_some h
  obtain ⟨n,h3,h4⟩:=ob_some h2
  rw [now_eq] at h4
  injection h4 with h4
  obtain ⟨rfl,rfl,rfl⟩:=ok_inj h4
  have h1:=ble_le h1
  rw [len_eq] at h1
  obtain ⟨va,r1,e1,ha,hL2⟩:=hL.cons_inv
  have e3:=hL2.nil_inv
  subst e3
  have hv:vals= #[va]:=Array.ext' (by simpa using e1)
  rw [hv]
  cases ha with
  | t _ hbs=>
   refine kept_after hr (.of_tup (.cons (.v (.int .i64 n) rfl) (.cons (.v .nilIface rfl) (.nil σ)))) ((Any.strconv_Atoi L ⟨(bs.map UInt8.ofNat).toArray⟩ n (by show ((bs.map UInt8.ofNat).toArray).size≤18;simpa using h1) (by simpa using atoiN_ok hbs h3) w).mono ?_)
   rintro e w' ⟨rfl,t,rfl⟩
   exact ⟨rfl,below_bytes _ _ _⟩
 ·cases h
theorem cut_ext (L:Lays.n145 P ρ) (hmx:∀w0 w,G w0→BelowF w0 w→∃m,w.cell? ⟨(ρ.g 1),0,none⟩=some (.int .i64 m)) {args:List CV} {H:Tr Blk} {nx:Nat} {v:CV} {H':Tr Blk} {nx':Nat} (h:xCut H nx args=some (.ok v H' nx')) {w0:Base} {w:World} {σ:Nm} {vals:Array Value} (hG:G w0) (hr:R w0 σ H nx w) (hL:VRL σ args vals.toList):
  Calls P (ρ.f 145) vals w fun e w'=> ∃x,e= .returned x∧After w0 σ nx v H' nx' x w':=by
 unfold xCut at h
 split at h
 ·rename_i bs sep
  split at h
  ·rename_i c
   obtain ⟨h1,h2⟩:=ifO_some h
   injection h2 with h2
   obtain ⟨rfl,rfl,rfl⟩:=ok_inj h2
   have h1:=ble_le h1
   rw [len_eq] at h1
   obtain ⟨va,r1,e1,ha,hL2⟩:=hL.cons_inv
   obtain ⟨vb,r2,e2,hb,hL3⟩:=hL2.cons_inv
   have e3:=hL3.nil_inv
   subst e3 e2
   have hv:vals= #[va,vb]:=Array.ext' (by simpa using e1)
   rw [hv]
   obtain ⟨m,hm⟩:=hmx w0 w hG hr.below
   cases ha with
   | t _ hbs=>
    cases hb with
    | t _ hc=>
     have hc:c < 256:=hc c (List.mem_cons_self ..)
     have hix:=posN_index hc hbs
     have hcut:VR σ (cutC bs (posN c bs)) (.tuple #[.string ⟨(Lib.cut (bs.map UInt8.ofNat) [UInt8.ofNat c]).1.toArray⟩,.string ⟨(Lib.cut (bs.map UInt8.ofNat) [UInt8.ofNat c]).2.1.toArray⟩,.bool (Lib.cut (bs.map UInt8.ofNat) [UInt8.ofNat c]).2.2]):=by
      unfold Lib.cut
      rw [hix]
      cases hp:posN c bs with
      | none=>
       rw [if_neg (by show ¬(0:Int)≤Int.negSucc 0;omega)]
       exact .of_tup (.cons (.t bs hbs) (.cons (.t [] fun b hb=> by cases hb) (.cons (.v _ rfl) (.nil σ))))
      | some i=>
       rw [if_pos (by show (0:Int)≤Int.ofNat i;exact Int.natCast_nonneg i)]
       have e1:(posZ (some i)).toNat=i:=rfl
       rw [e1]
       have q1:VR σ (.t (takeN i bs)) (.string ⟨((bs.map UInt8.ofNat).take i).toArray⟩):=by
        rw [takeN_eq,←List.map_take]
        exact .t _ fun b hb=> hbs b (List.mem_of_mem_take hb)
       have q2:VR σ (.t (dropN (Nat.succ i) bs)) (.string ⟨((bs.map UInt8.ofNat).drop (i + [UInt8.ofNat c].length)).toArray⟩):=by
        rw [dropN_eq,←List.map_drop]
        exact .t _ fun b hb=> hbs b (List.mem_of_mem_drop hb)
       exact .of_tup (.cons q1 (.cons q2 (.cons (.v _ rfl) (.nil σ))))
     have:=Any.strings_Cut L ⟨(bs.map UInt8.ofNat).toArray⟩ ⟨([c].map UInt8.ofNat).toArray⟩ m w (by show ((bs.map UInt8.ofNat).toArray).size < 4294967281;simp;omega) hm
     refine kept_after hr hcut (this.mono ?_)
     rintro e w' ⟨he,n,rfl⟩
     refine ⟨by simpa using he,rfl,rfl,rfl,Nat.le_refl _,fun b hb=> rfl⟩
  ·cases h
 ·cases h
theorem sort_ext {σr:Ren} (LK:SlLaysZI.n7 P ρ) (LS:SlLaysZI.n6 P σr) (hs:AnyZI.SortsIn P σr Fence.wide 4)
  (e9:∀(args:Array Value) (w:World),(callFunc (σr.f 9) args).run P w= .ok (.enter (σr.f 9) args) w) (eg:∀(args:Array Value) (w:World),(callFunc (ρ.f 10) args).run P w= .ok (.enter (ρ.f 10) args) w)
  {args:List CV} {H:Tr Blk} {nx:Nat} {v:CV} {H':Tr Blk} {nx':Nat} (h:xSort (ρ.f 10) H nx args=some (.ok v H' nx')) {w0:Base} {w:World} {σ:Nm} {vals:Array Value} (hr:R w0 σ H nx w) (hL:VRL σ args vals.toList):
  Calls P (σr.f 6) vals w fun e w'=> ∃x,e= .returned x∧After w0 σ nx v H' nx' x w':=by
 unfold xSort at h
 split at h
 ·rename_i g
  unfold xSort1 at h
  split at h
  ·rename_i f b o
   obtain ⟨h1,h2⟩:=ifO_some h
   obtain ⟨h1,h3⟩:=and_true h1
   obtain ⟨h3,h4⟩:=and_true h3
   have h1:=beq_eq' h1
   have h3:=beq_eq' h3
   subst h1 h3
   obtain ⟨cs,h5,h6⟩:=ob_some h2
   obtain ⟨c,h7,h8⟩:=ob_some h6
   obtain ⟨l,rfl,h9⟩:=isM_some h8
   obtain ⟨es,h10,h11⟩:=ob_some h9
   obtain ⟨ks,h12,h13⟩:=ob_some h11
   obtain ⟨kd,hH⟩:=cellsOf_some h5
   rw [kOf_eq hH] at h4
   obtain ⟨b0,h14,h15⟩:=ob_some h10
   obtain ⟨bs,ck,rfl⟩:∃bs ck,b0= .mp es bs ck:=by
    cases b0 with
    | cl=> cases h15
    | it=> cases h15
    | mu=> cases h15
    | mp xs bs ck=>
     injection (show some xs=some es from h15) with h15
     exact ⟨bs,ck,by rw [h15]⟩
   obtain ⟨va,r1,e1,ha,hL2⟩:=hL.cons_inv
   have e3:=hL2.nil_inv
   subst e3
   have hv:vals= #[va]:=Array.ext' (by simpa using e1)
   rw [hv]
   obtain ⟨us,vs,rfl,hus,hvs⟩:=ha.fnL
   have hus:=hus.nil_inv
   obtain ⟨vp,vr,hvs1,hp,hvs2⟩:=hvs.cons_inv
   have hvs2:=hvs2.nil_inv
   subst hvs2
   obtain ⟨lc,hlc,rfl⟩:=hp.pv
   have hus:us= #[]:=Array.ext' (by simpa using hus)
   have hvs:vs= #[.pointer (some ⟨lc.blk,lc.off + 0,none⟩)]:=Array.ext' (by simpa using hvs1)
   subst hus hvs
   obtain ⟨vals',T,g1,g2,g3,gk,g4⟩:=hr.blk b lc _ hlc hH
   have hoff:lc.off=0:=by
    cases kd with
    | any=> cases h4
    | of t=> exact gk.2
    | whole t=> exact gk.2.1
   rw [nth_eq] at h7
   obtain ⟨u,u1,u2,_⟩:=g4 0 _ h7
   cases u2 with
   | m hml=>
    rename_i mc
    obtain ⟨ents,m1,m2,_,m3,m4⟩:=hr.blk l mc _ hml h14
    obtain ⟨k1,k2⟩:=keysI_ok h12
    obtain ⟨h16,h17⟩:=ifO_some h13
    obtain ⟨h16,h18⟩:=and_true h16
    have h16:=ble_le h16
    rw [len_eq] at h16
    have hcell:w.cell? ⟨lc.blk,0,none⟩=some (.map (some mc.blk)):=by
     rw [cell_of_row _ _ _ vals' T (0,0) g1]
     rw [hoff] at u1
     exact u1
    have:=sorted_keys LK LS hs e9 eg h16 (i64L_ok h18) w lc.blk mc.blk ents ck (hr.lo b lc hlc).2 hcell m1 m2 (by rw [m3,k1]) fun j e he=> by
     have hj:j < es.length:=by rw [←m3];exact (Array.getElem?_eq_some_iff.1 he).1
     obtain ⟨k,q1,q2⟩:=k2 j es[j] (List.getElem?_eq_getElem hj)
     have:=(m4 j es[j] e (List.getElem?_eq_getElem hj) he).1
     rw [q2] at this
     exact ⟨k,q1,this.val⟩
    rw [hoff]
    refine this.mono ?_
    rintro e w' ⟨x,rfl,hrow,hnil,hbel⟩
    refine ⟨x,rfl,?_⟩
    have hr':=hr.keep hbel
    cases ks with
    | nil=>
     injection (show some (Res.ok (.v (.slice none 0 0)) H nx)=some (.ok v H' nx') from h17) with h17
     obtain ⟨rfl,rfl,rfl⟩:=ok_inj h17
     rw [hnil.2 rfl]
     exact .same hr' (.v _ rfl)
    | cons k0 kr=>
     injection (show some (Res.ok (.s nx 0 (len (k0::kr)) (.op 1 (len (k0::kr)))) (H.put nx (.cl .any (intsC (sortI (k0::kr))))) (Nat.succ nx))=some (.ok v H' nx') from h17) with h17
     obtain ⟨rfl,rfl,rfl⟩:=ok_inj h17
     obtain ⟨hlen,hcase⟩:=hrow
     rcases hcase with ⟨rfl,hz⟩ | ⟨g,cap,cur,rfl,hge,hg,hnc,hcm,hcs,ht⟩
     ·simp at hz
     ·have hn:=hr'.none
      have hlen2:(sortI (k0::kr)).length=(k0::kr).length:=(sortI_ok (k0::kr)).1.length_eq
      have hcur:cur.size=cap:=by simpa using hcs
      have hle:=setN_le (σ:=σ) (l:=nx) ⟨g,0,cur.size⟩ hn
      have hnm:=hr'.name (w':=w') (H':=H.put nx (.cl .any (intsC (sortI (k0::kr))))) (nx':=Nat.succ nx) (l:=nx) (c:=⟨g,0,cur.size⟩) (b:= .cl .any (intsC (sortI (k0::kr)))) hn (Nat.lt_succ_self _) (Nat.le_succ _) (get_put_self _ _ _) (fun j hj=> get_put_ne _ _ hj) rfl rfl rfl (Nat.le_refl _)
       ⟨fun hF=> by have h1:g < w0.w.heap.size:=w0.lt _ hF;have:=hr.below.size;omega,lt_of_block hg⟩ (fun _ _ _=> rfl) (fun l' c' b' hl' hb' e=> by
        have:=(hr.lo l' c' hl').2
        have e:c'.blk=g:=e
        omega)
       ⟨cur,_,hg,by rw [intsC_map,List.length_map,hlen2];show _≤cur.size;omega,Nat.zero_add _,trivial,fun j y hy=> by
        rw [intsC_map,List.getElem?_map] at hy
        obtain ⟨k,hk,rfl⟩:=Option.map_eq_some_iff.1 hy
        refine ⟨.int .i64 k,?_,.v _ rfl,rfl⟩
        have hj:=(List.getElem?_eq_some_iff.1 hk).1
        have:=congrArg (fun l=> l[j]?) ht
        simp only [List.getElem?_map,hk,Option.map_some] at this
        rw [List.getElem?_take_of_lt (by rw [←hlen2];simpa using hj)] at this
        rw [Nat.zero_add]
        simpa using this⟩
      refine ⟨_,hle,fun j hj=> setN_ne σ _ (by omega),hnm,Nat.le_succ _,?_⟩
      rw [len_eq]
      exact .so 0 (k0::kr).length 1 (k0::kr).length cap (setN_self _ _ _) hnc hnc (by rw [Nat.zero_add,Nat.mul_one,hcur];exact Nat.le_refl _) hcm
  ·cases h
 ·cases h
end
end Go.Proofs.YtmgcnoigihdhpaaGreatDoor.Ci
namespace Go.Proofs
open Go.Shelf
def Tryz.laysItoa_ren:Go.Shelf.Ren:=⟨fun | 171=> 104 | 243=> 176 | 246=> 278 | 283=> 370 | 284=> 371 | 285=> 372 | 286=> 373 | 129=> 193 | 317=> 428 | 318=> 429 | 319=> 430 | 320=> 431 | 337=> 474 | 338=> 475 | n=> n,fun | 3=> 3 | 9=> 9 | 2=> 2 | 4=> 4 | 171=> 458 | 0=> 0 | 53=> 313 | 37=> 189 | 5=> 5 | 173=> 460 | 212=> 511 | 51=> 311 | 20=> 20 | 213=> 512 | 46=> 225 | 232=> 111 | 233=> 566 | n=> n,fun | 17=> 1 | 18=> 4 | 19=> 5 | n=> n⟩
theorem Tryz.laysItoa:Go.Proofs.LaysM.n171 Tryz.prog Tryz.laysItoa_ren:={
 mixed:=by kernel_rfl
 f129:=Tryz.func193.trans (congrArg some (by kernel_rfl))
 f171:=Tryz.func104.trans (congrArg some (by kernel_rfl))
 f243:=Tryz.func176.trans (congrArg some (by kernel_rfl))
 f246:=Tryz.func278.trans (congrArg some (by kernel_rfl))
 f283:=Tryz.func370.trans (congrArg some (by kernel_rfl))
 f284:=Tryz.func371.trans (congrArg some (by kernel_rfl))
 f285:=Tryz.func372.trans (congrArg some (by kernel_rfl))
 f286:=Tryz.func373.trans (congrArg some (by kernel_rfl))
 f317:=Tryz.func428.trans (congrArg some (by kernel_rfl))
 f318:=Tryz.func429.trans (congrArg some (by kernel_rfl))
 f319:=Tryz.func430.trans (congrArg some (by kernel_rfl))
 f320:=Tryz.func431.trans (congrArg some (by kernel_rfl))
 f337:=Tryz.func474.trans (congrArg some (by kernel_rfl))
 f338:=Tryz.func475.trans (congrArg some (by kernel_rfl))
 t0:=Tryz.underlying0
 a0:=Tryz.isAgg0
 z0:=Tryz.sizeOf0
 v0:=Tryz.zeroValue0
 t2:=Tryz.underlying2
 a2:=Tryz.isAgg2
 z2:=Tryz.sizeOf2
 v2:=Tryz.zeroValue2
 t3:=Tryz.underlying3
 a3:=Tryz.isAgg3
 z3:=Tryz.sizeOf3
 v3:=Tryz.zeroValue3
 t4:=Tryz.underlying4
 a4:=Tryz.isAgg4
 z4:=Tryz.sizeOf4
 v4:=Tryz.zeroValue4
 t5:=Tryz.underlying5
 a5:=Tryz.isAgg5
 z5:=Tryz.sizeOf5
 v5:=Tryz.zeroValue5
 t9:=Tryz.underlying9
 a9:=Tryz.isAgg9
 z9:=Tryz.sizeOf9
 v9:=Tryz.zeroValue9
 t20:=Tryz.underlying20
 a20:=Tryz.isAgg20
 z20:=Tryz.sizeOf20
 v20:=Tryz.zeroValue20
 t37:=Tryz.underlying189
 a37:=Tryz.isAgg189
 z37:=Tryz.sizeOf189
 v37:=Tryz.zeroValue189
 t46:=Tryz.underlying225
 a46:=Tryz.isAgg225
 z46:=Tryz.sizeOf225
 v46:=Tryz.zeroValue225
 t51:=Tryz.underlying311
 a51:=Tryz.isAgg311
 z51:=Tryz.sizeOf311
 v51:=Tryz.zeroValue311
 t53:=Tryz.underlying313
 a53:=Tryz.isAgg313
 z53:=Tryz.sizeOf313
 v53:=Tryz.zeroValue313
 t171:=Tryz.underlying458
 a171:=Tryz.isAgg458
 z171:=Tryz.sizeOf458
 v171:=Tryz.zeroValue458
 t173:=Tryz.underlying460
 a173:=Tryz.isAgg460
 z173:=Tryz.sizeOf460
 v173:=Tryz.zeroValue460
 t212:=Tryz.underlying511
 a212:=Tryz.isAgg511
 z212:=Tryz.sizeOf511
 v212:=Tryz.zeroValue511
 t213:=Tryz.underlying512
 a213:=Tryz.isAgg512
 z213:=Tryz.sizeOf512
 t232:=Tryz.underlying111
 a232:=Tryz.isAgg111
 z232:=Tryz.sizeOf111
 v232:=Tryz.zeroValue111
 t233:=Tryz.underlying566
 a233:=Tryz.isAgg566
 z233:=Tryz.sizeOf566
 v233:=Tryz.zeroValue566
 g17:=by kernel_rfl
 g18:=by kernel_rfl
 g19:=by kernel_rfl
 i0:=by kernel_rfl
 i2:=by kernel_rfl
 i3:=by kernel_rfl
 i4:=by kernel_rfl
 i5:=by kernel_rfl
 i9:=by kernel_rfl
 i20:=by kernel_rfl
 i37:=by kernel_rfl
 i46:=by kernel_rfl
 i51:=by kernel_rfl
 i53:=by kernel_rfl
 i171:=by kernel_rfl
 i173:=by kernel_rfl
 i212:=by kernel_rfl
 i232:=by kernel_rfl
 i233:=by kernel_rfl
 m17:=by kernel_rfl
 m18:=by kernel_rfl
 m19:=by kernel_rfl}
def Tryz.lays156_ren:Go.Shelf.Ren:=⟨fun | 156=> 43 | 165=> 103 | 166=> 102 | 169=> 74 | 240=> 106 | 241=> 175 | 276=> 182 | 277=> 277 | n=> n,fun | 31=> 24 | 9=> 9 | 3=> 3 | 4=> 4 | 0=> 0 | 20=> 20 | 72=> 192 | 76=> 195 | 70=> 190 | 37=> 189 | 75=> 194 | 127=> 221 | 164=> 300 | 5=> 5 | 80=> 115 | n=> n,fun | n=> n⟩
theorem Tryz.lays156:Go.Proofs.Lays.n156 Tryz.prog Tryz.lays156_ren:={
 mixed:=by kernel_rfl
 f156:=Tryz.func43.trans (congrArg some (by kernel_rfl))
 f165:=Tryz.func103.trans (congrArg some (by kernel_rfl))
 f166:=Tryz.func102.trans (congrArg some (by kernel_rfl))
 f169:=Tryz.func74.trans (congrArg some (by kernel_rfl))
 f240:=Tryz.func106.trans (congrArg some (by kernel_rfl))
 f241:=Tryz.func175.trans (congrArg some (by kernel_rfl))
 f276:=Tryz.func182.trans (congrArg some (by kernel_rfl))
 f277:=Tryz.func277.trans (congrArg some (by kernel_rfl))
 t0:=Tryz.underlying0
 a0:=Tryz.isAgg0
 z0:=Tryz.sizeOf0
 v0:=Tryz.zeroValue0
 t3:=Tryz.underlying3
 a3:=Tryz.isAgg3
 z3:=Tryz.sizeOf3
 v3:=Tryz.zeroValue3
 t4:=Tryz.underlying4
 a4:=Tryz.isAgg4
 z4:=Tryz.sizeOf4
 v4:=Tryz.zeroValue4
 t9:=Tryz.underlying9
 a9:=Tryz.isAgg9
 z9:=Tryz.sizeOf9
 v9:=Tryz.zeroValue9
 t20:=Tryz.underlying20
 a20:=Tryz.isAgg20
 z20:=Tryz.sizeOf20
 v20:=Tryz.zeroValue20
 t31:=Tryz.underlying24
 a31:=Tryz.isAgg24
 z31:=Tryz.sizeOf24
 v31:=Tryz.zeroValue24
 t37:=Tryz.underlying189
 a37:=Tryz.isAgg189
 z37:=Tryz.sizeOf189
 v37:=Tryz.zeroValue189
 t70:=Tryz.underlying190
 a70:=Tryz.isAgg190
 z70:=Tryz.sizeOf190
 v70:=Tryz.zeroValue190
 t72:=Tryz.underlying192
 a72:=Tryz.isAgg192
 z72:=Tryz.sizeOf192
 v72:=Tryz.zeroValue192
 t75:=Tryz.underlying194
 a75:=Tryz.isAgg194
 z75:=Tryz.sizeOf194
 v75:=Tryz.zeroValue194
 t76:=Tryz.underlying195
 a76:=Tryz.isAgg195
 z76:=Tryz.sizeOf195
 v76:=Tryz.zeroValue195
 t127:=Tryz.underlying221
 a127:=Tryz.isAgg221
 z127:=Tryz.sizeOf221
 v127:=Tryz.zeroValue221
 t164:=Tryz.underlying300
 a164:=Tryz.isAgg300
 z164:=Tryz.sizeOf300
 v164:=Tryz.zeroValue300}
def Tryz.laysCut_ren:Go.Shelf.Ren:=⟨fun | 145=> 503 | 220=> 514 | 219=> 518 | 217=> 357 | 225=> 520 | 224=> 521 | 267=> 522 | 266=> 421 | 314=> 523 | n=> n,fun | 9=> 9 | 4=> 4 | 59=> 574 | 3=> 3 | 5=> 5 | 46=> 225 | 146=> 586 | 51=> 311 | n=> n,fun | 1=> 0 | n=> n⟩
theorem Tryz.laysCut:Go.Proofs.Lays.n145 Tryz.prog Tryz.laysCut_ren:={
 mixed:=by kernel_rfl
 f145:=Tryz.func503.trans (congrArg some (by kernel_rfl))
 f217:=Tryz.func357.trans (congrArg some (by kernel_rfl))
 f219:=Tryz.func518.trans (congrArg some (by kernel_rfl))
 f220:=Tryz.func514.trans (congrArg some (by kernel_rfl))
 f224:=Tryz.func521.trans (congrArg some (by kernel_rfl))
 f225:=Tryz.func520.trans (congrArg some (by kernel_rfl))
 f266:=Tryz.func421.trans (congrArg some (by kernel_rfl))
 f267:=Tryz.func522.trans (congrArg some (by kernel_rfl))
 f314:=Tryz.func523.trans (congrArg some (by kernel_rfl))
 t3:=Tryz.underlying3
 a3:=Tryz.isAgg3
 z3:=Tryz.sizeOf3
 v3:=Tryz.zeroValue3
 t4:=Tryz.underlying4
 a4:=Tryz.isAgg4
 z4:=Tryz.sizeOf4
 v4:=Tryz.zeroValue4
 t5:=Tryz.underlying5
 a5:=Tryz.isAgg5
 z5:=Tryz.sizeOf5
 v5:=Tryz.zeroValue5
 t9:=Tryz.underlying9
 a9:=Tryz.isAgg9
 z9:=Tryz.sizeOf9
 v9:=Tryz.zeroValue9
 t46:=Tryz.underlying225
 a46:=Tryz.isAgg225
 z46:=Tryz.sizeOf225
 v46:=Tryz.zeroValue225
 t51:=Tryz.underlying311
 a51:=Tryz.isAgg311
 z51:=Tryz.sizeOf311
 v51:=Tryz.zeroValue311
 t59:=Tryz.underlying574
 a59:=Tryz.isAgg574
 z59:=Tryz.sizeOf574
 v59:=Tryz.zeroValue574
 t146:=Tryz.underlying586
 a146:=Tryz.isAgg586
 z146:=Tryz.sizeOf586
 v146:=Tryz.zeroValue586
 g1:=by kernel_rfl}
def Tryz.laysIdx_ren:Go.Shelf.Ren:=⟨fun | 217=> 357 | 266=> 421 | n=> n,fun | 9=> 9 | 5=> 5 | 3=> 3 | n=> n,fun | n=> n⟩
theorem Tryz.laysIdx:Go.Proofs.Lays.n217 Tryz.prog Tryz.laysIdx_ren:={
 mixed:=by kernel_rfl
 f217:=Tryz.func357.trans (congrArg some (by kernel_rfl))
 f266:=Tryz.func421.trans (congrArg some (by kernel_rfl))
 t3:=Tryz.underlying3
 a3:=Tryz.isAgg3
 z3:=Tryz.sizeOf3
 v3:=Tryz.zeroValue3
 t5:=Tryz.underlying5
 a5:=Tryz.isAgg5
 z5:=Tryz.sizeOf5
 v5:=Tryz.zeroValue5
 t9:=Tryz.underlying9
 a9:=Tryz.isAgg9
 z9:=Tryz.sizeOf9
 v9:=Tryz.zeroValue9}
def Tryz.laysAtoi_ren:Go.Shelf.Ren:=⟨fun | 172=> 248 | 244=> 358 | 245=> 359 | 247=> 422 | 279=> 423 | 280=> 424 | 281=> 425 | 282=> 426 | 287=> 471 | 316=> 472 | 171=> 104 | 205=> 473 | 321=> 493 | 322=> 494 | 243=> 176 | 246=> 278 | 283=> 370 | 284=> 371 | 285=> 372 | 286=> 373 | 129=> 193 | 317=> 428 | 318=> 429 | 319=> 430 | 320=> 431 | 337=> 474 | 338=> 475 | n=> n,fun | 9=> 9 | 3=> 3 | 75=> 194 | 76=> 195 | 4=> 4 | 5=> 5 | 167=> 504 | 37=> 189 | 0=> 0 | 85=> 505 | 2=> 2 | 168=> 507 | 53=> 313 | 175=> 542 | 46=> 225 | 210=> 545 | 127=> 221 | 145=> 565 | 143=> 563 | 21=> 21 | 171=> 458 | 173=> 460 | 212=> 511 | 51=> 311 | 20=> 20 | 213=> 512 | 232=> 111 | 233=> 566 | 80=> 115 | n=> n,fun | 15=> 2 | 16=> 3 | 17=> 1 | 18=> 4 | 19=> 5 | n=> n⟩
theorem Tryz.laysAtoi:Go.Proofs.Lays.n172 Tryz.prog Tryz.laysAtoi_ren:={
 mixed:=by kernel_rfl
 f129:=Tryz.func193.trans (congrArg some (by kernel_rfl))
 f171:=Tryz.func104.trans (congrArg some (by kernel_rfl))
 f172:=Tryz.func248.trans (congrArg some (by kernel_rfl))
 f205:=Tryz.func473.trans (congrArg some (by kernel_rfl))
 f243:=Tryz.func176.trans (congrArg some (by kernel_rfl))
 f244:=Tryz.func358.trans (congrArg some (by kernel_rfl))
 f245:=Tryz.func359.trans (congrArg some (by kernel_rfl))
 f246:=Tryz.func278.trans (congrArg some (by kernel_rfl))
 f247:=Tryz.func422.trans (congrArg some (by kernel_rfl))
 f279:=Tryz.func423.trans (congrArg some (by kernel_rfl))
 f280:=Tryz.func424.trans (congrArg some (by kernel_rfl))
 f281:=Tryz.func425.trans (congrArg some (by kernel_rfl))
 f282:=Tryz.func426.trans (congrArg some (by kernel_rfl))
 f283:=Tryz.func370.trans (congrArg some (by kernel_rfl))
 f284:=Tryz.func371.trans (congrArg some (by kernel_rfl))
 f285:=Tryz.func372.trans (congrArg some (by kernel_rfl))
 f286:=Tryz.func373.trans (congrArg some (by kernel_rfl))
 f287:=Tryz.func471.trans (congrArg some (by kernel_rfl))
 f316:=Tryz.func472.trans (congrArg some (by kernel_rfl))
 f317:=Tryz.func428.trans (congrArg some (by kernel_rfl))
 f318:=Tryz.func429.trans (congrArg some (by kernel_rfl))
 f319:=Tryz.func430.trans (congrArg some (by kernel_rfl))
 f320:=Tryz.func431.trans (congrArg some (by kernel_rfl))
 f321:=Tryz.func493.trans (congrArg some (by kernel_rfl))
 f322:=Tryz.func494.trans (congrArg some (by kernel_rfl))
 f337:=Tryz.func474.trans (congrArg some (by kernel_rfl))
 f338:=Tryz.func475.trans (congrArg some (by kernel_rfl))
 t0:=Tryz.underlying0
 a0:=Tryz.isAgg0
 z0:=Tryz.sizeOf0
 v0:=Tryz.zeroValue0
 t2:=Tryz.underlying2
 a2:=Tryz.isAgg2
 z2:=Tryz.sizeOf2
 v2:=Tryz.zeroValue2
 t3:=Tryz.underlying3
 a3:=Tryz.isAgg3
 z3:=Tryz.sizeOf3
 v3:=Tryz.zeroValue3
 t4:=Tryz.underlying4
 a4:=Tryz.isAgg4
 z4:=Tryz.sizeOf4
 v4:=Tryz.zeroValue4
 t5:=Tryz.underlying5
 a5:=Tryz.isAgg5
 z5:=Tryz.sizeOf5
 v5:=Tryz.zeroValue5
 t9:=Tryz.underlying9
 a9:=Tryz.isAgg9
 z9:=Tryz.sizeOf9
 v9:=Tryz.zeroValue9
 t20:=Tryz.underlying20
 a20:=Tryz.isAgg20
 z20:=Tryz.sizeOf20
 v20:=Tryz.zeroValue20
 t21:=Tryz.underlying21
 a21:=Tryz.isAgg21
 z21:=Tryz.sizeOf21
 v21:=Tryz.zeroValue21
 t37:=Tryz.underlying189
 a37:=Tryz.isAgg189
 z37:=Tryz.sizeOf189
 v37:=Tryz.zeroValue189
 t46:=Tryz.underlying225
 a46:=Tryz.isAgg225
 z46:=Tryz.sizeOf225
 v46:=Tryz.zeroValue225
 t51:=Tryz.underlying311
 a51:=Tryz.isAgg311
 z51:=Tryz.sizeOf311
 v51:=Tryz.zeroValue311
 t53:=Tryz.underlying313
 a53:=Tryz.isAgg313
 z53:=Tryz.sizeOf313
 v53:=Tryz.zeroValue313
 t75:=Tryz.underlying194
 a75:=Tryz.isAgg194
 z75:=Tryz.sizeOf194
 v75:=Tryz.zeroValue194
 t76:=Tryz.underlying195
 a76:=Tryz.isAgg195
 z76:=Tryz.sizeOf195
 v76:=Tryz.zeroValue195
 t85:=Tryz.underlying505
 a85:=Tryz.isAgg505
 z85:=Tryz.sizeOf505
 v85:=Tryz.zeroValue505
 t127:=Tryz.underlying221
 a127:=Tryz.isAgg221
 z127:=Tryz.sizeOf221
 v127:=Tryz.zeroValue221
 t143:=Tryz.underlying563
 a143:=Tryz.isAgg563
 z143:=Tryz.sizeOf563
 v143:=Tryz.zeroValue563
 t145:=Tryz.underlying565
 a145:=Tryz.isAgg565
 z145:=Tryz.sizeOf565
 v145:=Tryz.zeroValue565
 t167:=Tryz.underlying504
 a167:=Tryz.isAgg504
 z167:=Tryz.sizeOf504
 v167:=Tryz.zeroValue504
 t168:=Tryz.underlying507
 a168:=Tryz.isAgg507
 z168:=Tryz.sizeOf507
 v168:=Tryz.zeroValue507
 t171:=Tryz.underlying458
 a171:=Tryz.isAgg458
 z171:=Tryz.sizeOf458
 v171:=Tryz.zeroValue458
 t173:=Tryz.underlying460
 a173:=Tryz.isAgg460
 z173:=Tryz.sizeOf460
 v173:=Tryz.zeroValue460
 t175:=Tryz.underlying542
 a175:=Tryz.isAgg542
 z175:=Tryz.sizeOf542
 v175:=Tryz.zeroValue542
 t210:=Tryz.underlying545
 a210:=Tryz.isAgg545
 z210:=Tryz.sizeOf545
 v210:=Tryz.zeroValue545
 t212:=Tryz.underlying511
 a212:=Tryz.isAgg511
 z212:=Tryz.sizeOf511
 v212:=Tryz.zeroValue511
 t213:=Tryz.underlying512
 a213:=Tryz.isAgg512
 z213:=Tryz.sizeOf512
 t232:=Tryz.underlying111
 a232:=Tryz.isAgg111
 z232:=Tryz.sizeOf111
 v232:=Tryz.zeroValue111
 t233:=Tryz.underlying566
 a233:=Tryz.isAgg566
 z233:=Tryz.sizeOf566
 v233:=Tryz.zeroValue566
 g15:=by kernel_rfl
 g16:=by kernel_rfl
 g17:=by kernel_rfl
 g18:=by kernel_rfl
 g19:=by kernel_rfl}
end Go.Proofs

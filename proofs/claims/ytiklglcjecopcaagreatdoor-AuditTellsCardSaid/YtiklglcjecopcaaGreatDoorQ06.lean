/-
  Running code on constants: code and functions. Over any program.
  Running code on constants: functions of Go's library whose contracts are at hand: (*strings.Builder).copyCheck, strings.Join, strconv.Itoa. Over any program.
  DERIVED: THE SHELF's CONTRACTS AT THIS DUMP, IN PLAIN WORDS (tools/lay-plain.mjs out of 'YtiklglcjecopcaaGreatDoorShelf.lean', which tools/lay-shelf.mjs wrote): THE SAME DECLARATIONS UNDER THE SAME NAMES: 'import', 'namespace', 'open', 'def', 'theorem' AND NOTHING ELSE: no command of the shelf's: FOR A HAND-IN. Each laying: the table of numbers ('.._ren') and one theorem, a field a fact of the dump's own or the kernel's comparison; each contract: ONE APPLICATION.
  Running code on constants: the head of the statements of this seat: what is run, and that it answers true.
-/
import Derived.Test.YtiklglcjecopcaaGreatDoorQ05
import Derived.Shelf.Strings.OnBuilder
import Derived.Shelf.Strconv.Itoa3
import Derived.Shelf.LaysM
import Derived.Ground.NamesProg
import Derived.Test.YtiklglcjecopcaaGreatDoorProg
namespace Go.Proofs.YtiklglcjecopcaaGreatDoor.Ci
open Go.RowKit
def exOf:Ec→Exit
 | .normal=> .normal
 | .exit i=> .exit i
 | .ret=> .ret
theorem toRun_at {x:Option CSt} {e:Ec} {st:CSt} (h:toRun x= .at_ e st):e= .normal∧x=some st:=by
 cases x with
 | none=> cases h
 | some s=>
  injection h with h1 h2
  exact ⟨h1.symm,by rw [h2]⟩
theorem thenR_at {r:Run} {f:CSt→Run} {e:Ec} {st:CSt} (h:thenR r f= .at_ e st):(∃st1,r= .at_ .normal st1∧f st1= .at_ e st)∨(e≠ .normal∧r= .at_ e st):=by
 cases r with
 | no=> cases h
 | at_ e1 st1=>
  cases e1 with
  | normal=> exact Or.inl ⟨st1,rfl,h⟩
  | exit i=>
   injection (show Run.at_ (.exit i) st1= .at_ e st from h) with h1 h2
   subst h1 h2
   exact Or.inr ⟨by simp,rfl⟩
  | ret=>
   injection (show Run.at_ .ret st1= .at_ e st from h) with h1 h2
   subst h1 h2
   exact Or.inr ⟨by simp,rfl⟩
theorem dstB_ok {m:Nat}:∀{l:List Oper},dstB m l=true→∀o∈l,∀t,o.dst=some t→t < m
 | [],_,o,ho,_,_=> by cases ho
 | o::l,h,o',ho,t,ht=> by
  have h: @Option.rec Tmp (fun _=> Bool) (dstB m l) (fun d=> ifB (Nat.ble (Nat.succ d) m) (dstB m l) false) o.dst=true:=h
  cases hd:o.dst with
  | none=>
   rw [hd] at h
   rcases List.mem_cons.1 ho with rfl | ho
   ·rw [hd] at ht;cases ht
   ·exact dstB_ok h o' ho t ht
  | some d=>
   rw [hd] at h
   have h:ifB (Nat.ble (Nat.succ d) m) (dstB m l) false=true:=h
   cases hb:Nat.ble (Nat.succ d) m
   ·rw [hb] at h;cases h
   ·rw [hb] at h
    rcases List.mem_cons.1 ho with rfl | ho
    ·rw [hd] at ht
     injection ht with ht
     subst ht
     exact ble_le hb
    ·exact dstB_ok h o' ho t ht
theorem ifF_true {b x:Bool} (h:ifB b x false=true):b=true∧x=true:=by
 cases b
 ·cases h
 ·exact ⟨rfl,h⟩
section
variable {P : Program} {G : World → Prop} {C : Callee} {w0 : World} {nt m n : Nat}
theorem evC_wp (hm:P.follows .mixedOrders=true) (hC:CallOk P G C) (hG:G w0) (hnt:m≤nt):∀(c:Code) {st st':CSt} {e:Ec} {σ:Nm} {a:Act} {w:World} {Q:Exit→Act→World→Prop},dstC m c=true→Ok w0 nt st σ a w→evC P C n c st= .at_ e st'→
  (∀a' w',Goes w0 nt σ st.nx st' a' w'→Q (exOf e) a' w')→c.wp P Q a w:=by
 intro c
 induction c with
 | skip=>
  intro st st' e σ a w Q _ hok h hQ
  injection (show Run.at_ .normal st= .at_ e st' from h) with h1 h2
  subst h1 h2
  exact wp_skip (hQ a w (.self hok))
 | region id ops draw=>
  intro st st' e σ a w Q hd hok h hQ
  have hd:dstB m ops.toList=true:=hd
  have hdst:∀o∈ops.toList,∀t,o.dst=some t→t < nt:=fun o ho t ht=> Nat.lt_of_lt_of_le (dstB_ok hd o ho t ht) hnt
  obtain ⟨rfl,h1⟩:=toRun_at (show toRun (ifB draw (runD P C ops st) (runS P C ops.toList ops.toList st))= .at_ e st' from h)
  cases draw with
  | false=> exact wp_region_list (runS_wp hC hG ops.toList hok hdst h1 hQ)
  | true=> exact runD_wp hm hC hG (fun o ho=> hdst o (by simpa using ho)) hok h1 hQ
 | seq x y ihx ihy=>
  intro st st' e σ a w Q hd hok h hQ
  obtain ⟨d1,d2⟩:=ifF_true (show ifB (dstC m x) (dstC m y) false=true from hd)
  rcases thenR_at (show thenR (evC P C n x st) (evC P C n y)= .at_ e st' from h) with ⟨st1,h1,h2⟩ | ⟨hne,h1⟩
  ·refine wp_seq (ihx d1 hok h1 fun a1 w1 hg=> ?_)
   obtain ⟨σ1,k1,k2,k3,k4⟩:=hg
   exact ihy d2 k4 h2 fun a' w' hg'=> hQ a' w' (hg'.trans k1 k2 k3)
  ·refine wp_seq (ihx d1 hok h1 fun a1 w1 hg=> ?_)
   cases e with
   | normal=> exact absurd rfl hne
   | exit i=> exact hQ a1 w1 hg
   | ret=> exact hQ a1 w1 hg
 | cond c x y ihx ihy=>
  intro st st' e σ a w Q hd hok h hQ
  obtain ⟨d1,d2⟩:=ifF_true (show ifB (dstC m x) (dstC m y) false=true from hd)
  have h: @Option.rec Bool (fun _=> Run) .no (fun b=> ifB b (evC P C n x st) (evC P C n y st)) (ob (ev st.env c) fun v=> isBool v some)= .at_ e st':=h
  cases hb:(ob (ev st.env c) fun v=> isBool v some) with
  | none=> rw [hb] at h;cases h
  | some u=>
   rw [hb] at h
   obtain ⟨v,h1,h2⟩:=ob_some hb
   obtain ⟨b,rfl,h3⟩:=isBool_some h2
   injection h3 with h3
   subst h3
   have hv:=(hok.evs #[c] c (by simp) _ h1).val
   refine wp_cond hv ?_
   cases b
   ·exact ihy d2 hok h hQ
   ·exact ihx d1 hok h hQ
 | block id c ih=>
  intro st st' e σ a w Q hd hok h hQ
  have h:cBlock id (evC P C n c st)= .at_ e st':=h
  cases hr:evC P C n c st with
  | no=> rw [hr] at h;cases h
  | at_ e1 st1=>
   rw [hr] at h
   refine wp_block (ih hd hok hr fun a1 w1 hg=> ?_)
   cases e1 with
   | normal=>
    injection (show Run.at_ .normal st1= .at_ e st' from h) with h1 h2
    subst h1 h2
    exact hQ a1 w1 hg
   | ret=>
    injection (show Run.at_ .ret st1= .at_ e st' from h) with h1 h2
    subst h1 h2
    exact hQ a1 w1 hg
   | exit i=>
    have h:ifB (Nat.beq i id) (.at_ .normal st1) (.at_ (.exit i) st1)=Run.at_ e st':=h
    show if i=id then _ else _
    cases hb:Nat.beq i id
    ·rw [hb] at h
     injection (show Run.at_ (.exit i) st1= .at_ e st' from h) with h1 h2
     subst h1 h2
     rw [if_neg (fun e=> by rw [e] at hb;simp at hb)]
     exact hQ a1 w1 hg
    ·rw [hb] at h
     injection (show Run.at_ .normal st1= .at_ e st' from h) with h1 h2
     subst h1 h2
     rw [if_pos (beq_eq' hb)]
     exact hQ a1 w1 hg
 | loop c ih=>
  intro st st' e σ a w Q hd hok h hQ
  have h:iterC (evC P C n c) n st= .at_ e st':=h
  refine wp_loop_ghost (fun k a w=> ∃st1 σ1,Ok w0 nt st1 σ1 a w∧iterC (evC P C n c) k st1= .at_ e st'∧∀a' w',Goes w0 nt σ1 st1.nx st' a' w'→Q (exOf e) a' w') n ⟨st,σ,hok,h,hQ⟩ ?_
  rintro k a w ⟨st1,σ1,hok1,h1,hQ1⟩
  cases k with
  | zero=> cases h1
  | succ k=>
   rcases thenR_at (show thenR (evC P C n c st1) (iterC (evC P C n c) k)= .at_ e st' from h1) with ⟨st2,h2,h3⟩ | ⟨hne,h2⟩
   ·refine ih hd hok1 h2 fun a2 w2 hg=> ?_
    obtain ⟨σ2,k1,k2,k3,k4⟩:=hg
    exact ⟨k,Nat.lt_succ_self k,st2,σ2,k4,h3,fun a' w' hg'=> hQ1 a' w' (hg'.trans k1 k2 k3)⟩
   ·refine ih hd hok1 h2 fun a2 w2 hg=> ?_
    cases e with
    | normal=> exact absurd rfl hne
    | exit i=> exact hQ1 a2 w2 hg
    | ret=> exact hQ1 a2 w2 hg
 | exit id=>
  intro st st' e σ a w Q _ hok h hQ
  injection (show Run.at_ (.exit id) st= .at_ e st' from h) with h1 h2
  subst h1 h2
  exact wp_exit (hQ a w (.self hok))
 | ret=>
  intro st st' e σ a w Q _ hok h hQ
  injection (show Run.at_ .ret st= .at_ e st' from h) with h1 h2
  subst h1 h2
  exact wp_ret (hQ a w (.self hok))
 | _=>
  intro st st' e σ a w Q _ hok h hQ
  cases h
def resR (tmps:Array Value):ResultVar→Sem Value
 | .tmp t=> pure (tmps.getD t undef)
 | .cell a t=> do loadVar t (←asAddr (tmps.getD a undef))
theorem res1_ok {st:CSt} {σ:Nm} {a:Act} {w:World} (hok:Ok w0 nt st σ a w) {x:ResultVar} {v:CV} (h:res1 P st x=some v):∃y,(resR a.tmps x).run P w= .ok y w∧VR σ v y:=by
 cases x with
 | tmp t=>
  obtain ⟨y,h1,h2⟩:=hok.env t v h
  refine ⟨y,?_,h2⟩
  show (pure (a.tmps.getD t undef):Sem Value).run P w=_
  rw [Array.getD_eq_getD_getElem?,h1]
  rfl
 | cell t ty=>
  obtain ⟨p,h1,h2⟩:=ob_some (show ob (st.env.get t) _=some v from h)
  obtain ⟨l,o,rfl,h3⟩:=isP_some h2
  obtain ⟨cs,h4,h5⟩:=ob_some h3
  obtain ⟨y,h6,h7⟩:=hok.env t _ h1
  obtain ⟨c,h8,rfl⟩:=h7.pv
  obtain ⟨all,vals,T,vs,g1,g2,g3,g4,g5,g6,g7,g8⟩:=hok.r.cells h8 h4
  obtain ⟨z,k1,k2,_⟩:=ld_load (b:=c.blk) (q:=c.off + o) g6 g7 (fun j u hu=> by rw [Nat.add_assoc];exact g8 j u hu) h5
  refine ⟨z,?_,k2⟩
  have k1:(Instr.loadAt ty (.pointer (some ⟨c.blk,c.off + o,none⟩))).run P w= .ok z w:=k1
  simp only [Instr.loadAt,Instr.sureAddr,Sem.run_bind,Sem.run_pure,Result.andThen_ok] at k1
  have:a.tmps.getD t undef= .pointer (some ⟨c.blk,c.off + o,none⟩):=by
   rw [Array.getD_eq_getD_getElem?,h6]
   rfl
  simp only [resR,this,asAddr,Sem.run_bind,Sem.run_pure,Result.andThen_ok,k1]
theorem resC_ok {st:CSt} {σ:Nm} {a:Act} {w:World} (hok:Ok w0 nt st σ a w):∀(xs:List ResultVar) {vs:List CV},resC P st xs=some vs→∃ys,(xs.mapM (resR a.tmps)).run P w= .ok ys w∧VRL σ vs ys
 | [],vs,h=> by
  injection (show some []=some vs from h) with h
  subst h
  exact ⟨[],rfl,.nil σ⟩
 | x::xs,vs,h=> by
  obtain ⟨v,h1,h2⟩:=ob_some (show ob (res1 P st x) _=some vs from h)
  obtain ⟨vs',h3,h4⟩:=ob_some h2
  injection h4 with h4
  subst h4
  obtain ⟨y,k1,k2⟩:=res1_ok hok h1
  obtain ⟨ys,k3,k4⟩:=resC_ok hok xs h3
  refine ⟨y::ys,?_,.cons k2 k4⟩
  rw [List.mapM_cons]
  simp only [Sem.run_bind,k1,Result.andThen_ok,k3,Sem.run_pure]
theorem tupC_ok {σ:Nm} {vs:List CV} {ys:List Value} (h:VRL σ vs ys):VR σ (tupC vs) (if hsz:ys.toArray.size=1 then ys.toArray[0] else .tuple ys.toArray):=by
 have hl:=h.1
 match vs,h,hl with
 | [],h,hl=>
  have:=h.nil_inv
  subst this
  exact .of_tup h
 | [v],h,hl=>
  obtain ⟨y,ys',rfl,h1,h2⟩:=h.cons_inv
  have:=h2.nil_inv
  subst this
  exact h1
 | v::v'::vs',h,hl=>
  have hne:¬ys.toArray.size=1:=by
   simp at hl ⊢
   omega
  rw [dif_neg hne]
  exact .of_tup h
theorem envOf_get:∀(l:List CV) (i:Nat) (E:Tr CV) (t:Nat),(envOf l i E).get t=if i≤t∧t < i + l.length then l[t - i]? else E.get t
 | [],i,E,t=> by
  show E.get t=_
  rw [if_neg (by simp)]
 | v::l,i,E,t=> by
  show (envOf l (i + 1) (E.put i v)).get t=_
  rw [envOf_get l (i + 1)]
  by_cases h1:i + 1≤t∧t < i + 1 + l.length
  ·rw [if_pos h1,if_pos (by simp;omega)]
   have:t - i=(t - (i + 1)) + 1:=by omega
   rw [this,List.getElem?_cons_succ]
  ·rw [if_neg h1,get_put]
   by_cases h2:t=i
   ·subst h2
    rw [if_pos rfl,if_pos (by simp),Nat.sub_self]
    rfl
   ·rw [if_neg h2,if_neg (by simp;omega)]
theorem callB_ok (hm:P.follows .mixedOrders=true) (hC:CallOk P G C):CallOk P G fun f args H nx=> callB P C n f args H nx:=by
 intro f args H nx v H' nx' h w0 σ w vals hG hr hL
 obtain ⟨q,h1,h2⟩:=oR_ok (show oR (bodyOf P f) _= .ok v H' nx' from h)
 obtain ⟨fn,h3,h4⟩:=ob_some h1
 obtain ⟨c,h5,h6⟩:=ob_some h4
 obtain ⟨h7,h8⟩:=ifO_some h6
 injection h8 with h8
 subst h8
 obtain ⟨h9,h10⟩:=and_true h7
 have hname:(fn.name== "runtime.NumGoroutine")=false:=by
  cases hq:(fn.name== "runtime.NumGoroutine")
  ·rfl
  ·rw [hq] at h9;cases h9
 refine ⟨?_,?_⟩
 ·have hne:¬fn.name= "runtime.NumGoroutine" :=by
   intro e
   rw [e] at hname
   simp at hname
  simp [callFunc,program,Sem.run,h3,hne,h5]
 have h2: @Run.rec (fun _=> Res) .no (fun e st=> @Ec.rec (fun _=> Res) (endC P fn.results.toList st) (fun _=> .no) (endC P fn.results.toList st) e) (evC P C n c ⟨envOf args 0 .e,H,nx⟩)= .ok v H' nx':=h2
 cases hr2:evC P C n c ⟨envOf args 0 .e,H,nx⟩ with
 | no=> rw [hr2] at h2;cases h2
 | at_ e st'=>
  rw [hr2] at h2
  have hlen:vals.size=args.length:=by have:=hL.1;simpa using this
  generalize hnt:(vals ++ Array.replicate (fn.ntmps - vals.size) undef).size=nt
  have hle:fn.ntmps≤nt:=by
   rw [←hnt]
   simp
   omega
  have hok:Ok w0 nt ⟨envOf args 0 .e,H,nx⟩ σ {tmps:=vals ++ Array.replicate (fn.ntmps - vals.size) undef,defers:= []} w:=by
   refine ⟨hr,fun t x hx=> ?_,hnt,rfl⟩
   have hx:(envOf args 0 .e).get t=some x:=hx
   rw [envOf_get] at hx
   split at hx
   ·rename_i ht
    obtain ⟨y,k1,k2⟩:=hL.get hx
    refine ⟨y,?_,k2⟩
    show (vals ++ Array.replicate (fn.ntmps - vals.size) undef)[t]? =some y
    rw [Array.getElem?_append_left (by omega)]
    simpa using k1
   ·rw [get_e] at hx
    cases hx
  have fin:∀a' w',Goes w0 nt σ nx st' a' w'→endC P fn.results.toList st'= .ok v H' nx'→a'.defers= []∧∃y,(results fn a'.tmps).run P w'= .ok y w'∧∃x,Ending.returned y= .returned x∧After w0 σ nx v H' nx' x w':=by
   rintro a' w' ⟨σ',k1,k2,k3,k4⟩ he
   obtain ⟨vs,g1,g2⟩:=oR_ok he
   obtain ⟨rfl,rfl,rfl⟩:=ok_inj g2
   obtain ⟨ys,g3,g4⟩:=resC_ok k4 _ g1
   refine ⟨k4.defers,_,?_,_,rfl,σ',k1,k2,k4.r,k3,tupC_ok g4⟩
   have e:results fn a'.tmps=(do let vs←fn.results.mapM (resR a'.tmps);pure (if h:vs.size=1 then vs[0] else .tuple vs)):=rfl
   rw [e,Array.mapM_eq_mapM_toList]
   simp only [Sem.run_bind,Sem.run_map,g3,Result.andThen_ok,Sem.run_pure]
  refine calls_of_wp h3 h5 (evC_wp hm hC hG hle c h10 hok hr2 fun a' w' hg=> ?_)
  cases e with
  | normal=> exact fin a' w' hg h2
  | ret=> exact fin a' w' hg h2
  | exit i=> cases h2
def ExtOk (P:Program) (G:World→Prop) (ext:FuncId→List CV→Tr Blk→Nat→Option Res):Prop:=∀(f:FuncId) (args:List CV) (H:Tr Blk) (nx:Nat) (v:CV) (H':Tr Blk) (nx':Nat),ext f args H nx=some (.ok v H' nx')→∀(w0:World) (σ:Nm) (w:World) (vals:Array Value),G w0→R w0 σ H nx w→VRL σ args vals.toList→
 (callFunc f vals).run P w= .ok (.enter f vals) w∧Calls P f vals w fun e w'=> ∃x,e= .returned x∧After w0 σ nx v H' nx' x w'
theorem rc_ok (hm:P.follows .mixedOrders=true) {ext:FuncId→List CV→Tr Blk→Nat→Option Res} (hE:ExtOk P G ext) (k:Nat):∀n,CallOk P G (rc P ext k n)
 | 0=> .none
 | n + 1=> by
  intro f args H nx v H' nx' h
  have h: @Option.rec Res (fun _=> Res) (callB P (rc P ext k n) k f args H nx) (fun r=> r) (ext f args H nx)= .ok v H' nx':=h
  cases he:ext f args H nx with
  | none=>
   rw [he] at h
   exact callB_ok hm (rc_ok hm hE k n) f args H nx v H' nx' h
  | some r=>
   rw [he] at h
   have h:r= .ok v H' nx':=h
   subst h
   exact hE f args H nx v H' nx' he
end
end Go.Proofs.YtiklglcjecopcaaGreatDoor.Ci
namespace Go.Proofs.YtiklglcjecopcaaGreatDoor.Ci
open Go.RowKit Go.Shelf
noncomputable def dig (f:Nat):Nat→List Nat→Option (List Nat):= @Nat.rec (fun _=> Nat→List Nat→Option (List Nat)) (fun _ _=> none) (fun _ ih n acc=> @Bool.rec (fun _=> Option (List Nat)) (ih (Nat.div n 10) (Nat.add 48 (Nat.mod n 10)::acc)) (some (Nat.add 48 n::acc)) (Nat.ble n 9)) f
noncomputable def itoaN (n:Int):Option (List Nat):= @Int.rec (fun _=> Option (List Nat)) (fun n=> ifO (Nat.ble n 9223372036854775807) (dig 25 n [])) (fun n=> ifO (Nat.ble n 9223372036854775807) (ob (dig 25 (Nat.succ n) []) fun bs=> some (45::bs))) n
noncomputable def xItoa (h:Tr Blk) (nx:Nat) (args:List CV):Option Res:=match args with
 | [.v y]=> (match y with
  | .int k n=> ifO (kEq k .i64) (ob (itoaN n) fun bs=> some (.ok (.t bs) h nx))
  | _=> none)
 | _=> none
theorem dig_ok:∀(f n:Nat) (acc r:List Nat),dig f n acc=some r→r=(Lib.decDigits n).map UInt8.toNat ++ acc
 | 0,n,acc,r,h=> by cases h
 | f + 1,n,acc,r,h=> by
  have h: @Bool.rec (fun _=> Option (List Nat)) (dig f (Nat.div n 10) (Nat.add 48 (Nat.mod n 10)::acc)) (some (Nat.add 48 n::acc)) (Nat.ble n 9)=some r:=h
  have hn:∀m,m≤9→(UInt8.ofNat (48 + m)).toNat=48 + m:=fun m hm=> by simp;omega
  rw [Lib.decDigits]
  cases hb:Nat.ble n 9
  ·rw [hb] at h
   have hlt:¬n < 10:=by
    intro hlt
    have:=Nat.ble_eq_true_of_le (show n≤9 by omega)
    rw [hb] at this
    cases this
   rw [dif_neg hlt,dig_ok f _ _ _ h]
   simp only [List.map_append,List.map_cons,List.map_nil,List.append_assoc,List.cons_append,List.nil_append]
   rw [hn (n % 10) (by omega)]
   first | done | rfl
  ·rw [hb] at h
   have hb:=ble_le hb
   rw [dif_pos (by omega)]
   injection h with h
   rw [←h]
   simp only [List.map_cons,List.map_nil,List.cons_append,List.nil_append]
   rw [hn n hb]
   first | done | rfl
theorem itoaN_ok {n:Int} {bs:List Nat} (h:itoaN n=some bs):bs=(Lib.itoa n).map UInt8.toNat∧ -9223372036854775808≤n∧n≤9223372036854775807:=by
 cases n with
 | ofNat n=>
  obtain ⟨h1,h2⟩:=ifO_some (show ifO (Nat.ble n 9223372036854775807) (dig 25 n [])=some bs from h)
  have h1:=ble_le h1
  refine ⟨?_,by show (-9223372036854775808:Int)≤(n:Int);omega,by show (n:Int)≤9223372036854775807;omega⟩
  rw [dig_ok _ _ _ _ h2]
  unfold Lib.itoa
  rw [if_neg (by simp)]
  simp
 | negSucc n=>
  obtain ⟨h1,h2⟩:=ifO_some (show ifO (Nat.ble n 9223372036854775807) (ob (dig 25 (Nat.succ n) []) fun bs=> some (45::bs))=some bs from h)
  obtain ⟨r,h3,h4⟩:=ob_some h2
  injection h4 with h4
  have h1:=ble_le h1
  refine ⟨?_,by omega,by omega⟩
  rw [←h4,dig_ok _ _ _ _ h3]
  unfold Lib.itoa
  rw [if_pos (by omega)]
  simp
theorem bytes_of {l:List UInt8} (σ:Nm):VR σ (.t (l.map UInt8.toNat)) (.string ⟨l.toArray⟩):=by
 have e:strV (l.map UInt8.toNat)= .string ⟨l.toArray⟩:=by
  unfold strV
  rw [List.map_map]
  have:(UInt8.ofNat∘UInt8.toNat)=id:=by
   funext b
   simp
  rw [this,List.map_id]
 rw [←e]
 refine .t _ fun b hb=> ?_
 obtain ⟨u,_,rfl⟩:=List.mem_map.1 hb
 exact u.toNat_lt
noncomputable def isT {β:Type} (x:CV) (f:List Nat→Option β):Option β:=match x with
 | .t bs=> f bs
 | _=> none
theorem isT_some {β:Type} {x:CV} {f:List Nat→Option β} {r:β} (h:isT x f=some r):∃bs,x= .t bs∧f bs=some r:=by
 cases x <;> first | exact ⟨_,rfl,h⟩ | cases h
noncomputable def strsL (l:List CV):Option (List (List Nat)):= @List.rec CV (fun _=> Option (List (List Nat))) (some []) (fun c _ ih=> isT c fun bs=> ob ih fun r=> some (bs::r)) l
noncomputable def joinT (sep:List Nat) (l:List (List Nat)):List Nat:= @List.rec (List Nat) (fun _=> List Nat) [] (fun x _ ih=> app sep (app x ih)) l
noncomputable def joinN (sep:List Nat) (l:List (List Nat)):List Nat:=match l with
 | []=> []
 | x::l=> app x (joinT sep l)
noncomputable def xJoin2 (h:Tr Blk) (nx l o n:Nat) (sep:List Nat):Option Res:=ob (cellsAt h l o) fun cs=> ob (strsL (takeN n cs)) fun xs=> ifO (Bool.and (Nat.beq (len xs) n) (Bool.and (Nat.ble n 1000000) (Nat.ble (len (joinN sep xs)) 1000000))) (some (.ok (.t (joinN sep xs)) h nx))
noncomputable def xJoin (h:Tr Blk) (nx:Nat) (args:List CV):Option Res:=match args with
 | [a,.t sep]=> (match a with
  | .v y=> ifO (isNilS y) (some (.ok (.t []) h nx))
  | .s l o n _=> @Bool.rec (fun _=> Option Res) (xJoin2 h nx l o n sep) (some (.ok (.t []) h nx)) (Nat.beq n 0)
  | _=> none)
 | _=> none
theorem strsL_ok {σ:Nm}:∀{cs:List CV} {vs:List Value} {xs:List (List Nat)},VRL σ cs vs→strsL cs=some xs→vs=xs.map strV∧∀x∈xs,∀b∈x,b < 256
 | [],vs,xs,hr,h=> by
  injection (show some []=some xs from h) with h
  subst h
  exact ⟨hr.nil_inv,fun x hx=> by cases hx⟩
 | c::cs,vs,xs,hr,h=> by
  obtain ⟨v,vs',rfl,h1,h2⟩:=hr.cons_inv
  obtain ⟨bs,rfl,h5⟩:=isT_some (show isT c (fun bs=> ob (strsL cs) fun r=> some (bs::r))=some xs from h)
  obtain ⟨r,h3,h4⟩:=ob_some h5
  injection h4 with h4
  subst h4
  obtain ⟨k1,k2⟩:=strsL_ok h2 h3
  cases h1 with
  | t _ hb=>
   refine ⟨by rw [k1];rfl,fun x hx=> ?_⟩
   rcases List.mem_cons.1 hx with rfl | hx
   ·exact hb
   ·exact k2 x hx
theorem joinT_ok (sep:List Nat):∀l:List (List Nat),(joinT sep l).map UInt8.ofNat=Lib.joinTail (sep.map UInt8.ofNat) (l.map fun x=> x.map UInt8.ofNat)
 | []=> rfl
 | x::l=> by
  show (app sep (app x (joinT sep l))).map UInt8.ofNat=_
  rw [app_eq,app_eq,List.map_append,List.map_append,joinT_ok sep l]
  simp [Lib.joinTail]
theorem joinN_ok (sep:List Nat) (l:List (List Nat)):(joinN sep l).map UInt8.ofNat=Lib.join (l.map fun x=> x.map UInt8.ofNat) (sep.map UInt8.ofNat):=by
 cases l with
 | nil=> rfl
 | cons x l=>
  show (app x (joinT sep l)).map UInt8.ofNat=_
  rw [app_eq,List.map_append,joinT_ok,List.map_cons,Lib.join_cons]
theorem joinT_lt {sep:List Nat} (hs:∀b∈sep,b < 256):∀{l:List (List Nat)},(∀x∈l,∀b∈x,b < 256)→∀b∈joinT sep l,b < 256
 | [],_,b,hb=> by cases hb
 | x::l,h,b,hb=> by
  have hb:b∈app sep (app x (joinT sep l)):=hb
  rw [app_eq,app_eq] at hb
  rcases List.mem_append.1 hb with hb | hb
  ·exact hs b hb
  ·rcases List.mem_append.1 hb with hb | hb
   ·exact h x (by simp) b hb
   ·exact joinT_lt hs (fun y hy=> h y (by simp [hy])) b hb
theorem joinN_lt {sep:List Nat} (hs:∀b∈sep,b < 256) {l:List (List Nat)} (h:∀x∈l,∀b∈x,b < 256):∀b∈joinN sep l,b < 256:=by
 cases l with
 | nil=> intro b hb;cases hb
 | cons x l=>
  intro b hb
  have hb:b∈app x (joinT sep l):=hb
  rw [app_eq] at hb
  rcases List.mem_append.1 hb with hb | hb
  ·exact h x (by simp) b hb
  ·exact joinT_lt hs (fun y hy=> h y (by simp [hy])) b hb
noncomputable def xCopy2 (h:Tr Blk) (nx l:Nat) (k:Kd) (cs:List CV):Option Res:=match cs with
 | [c0,c1]=> (match c0 with
  | .v y=> ifO (isNilP y) (some (.ok (.tup []) (h.put l (.cl k [.p l 0,c1])) nx))
  | .p l' o'=> ifO (Bool.and (Nat.beq l l') (Nat.beq o' 0)) (some (.ok (.tup []) h nx))
  | _=> none)
 | _=> none
def kdWhole (t:TypeId):Kd→Bool
 | .whole e=> Nat.beq e t
 | _=> false
noncomputable def xCopy (Tb:TypeId) (h:Tr Blk) (nx:Nat) (args:List CV):Option Res:=match args with
 | [.p l o]=> ifO (Bool.and (Nat.beq o 0) (kdWhole Tb (kOf h l))) (ob (cellsOf h l) fun cs=> xCopy2 h nx l (kOf h l) cs)
 | _=> none
theorem kept_after {P:Program} {f:FuncId} {vals:Array Value} {w w0:World} {σ:Nm} {H:Tr Blk} {nx:Nat} {v:CV} {x:Value} (hr:R w0 σ H nx w) (hv:VR σ v x) (h:Calls P f vals w fun e w'=> e= .returned x∧Below w.heap.size w w'):Calls P f vals w fun e w'=> ∃x,e= .returned x∧After w0 σ nx v H nx x w':=
 h.mono fun _ _ ⟨he,hb⟩=> ⟨x,he,.same (hr.keep hb) hv⟩
section
variable {P : Program} {ρ : Ren} {G : World → Prop}
theorem itoa_ext (L:LaysM.n171 P ρ) (htab:∀w0 w,G w0→Below w0.heap.size w0 w→Lib.TabIs P w "internal/strconv.uint64pow10" .u64 Lib.pow10Tab) {args:List CV} {H:Tr Blk} {nx:Nat} {v:CV} {H':Tr Blk} {nx':Nat} (h:xItoa H nx args=some (.ok v H' nx')) {w0 w:World} {σ:Nm} {vals:Array Value} (hG:G w0) (hr:R w0 σ H nx w) (hL:VRL σ args vals.toList):
  Calls P (ρ.f 171) vals w fun e w'=> ∃x,e= .returned x∧After w0 σ nx v H' nx' x w':=by
 unfold xItoa at h
 split at h
 ·rename_i y
  split at h
  ·rename_i k n
   obtain ⟨h1,h2⟩:=ifO_some h
   obtain ⟨bs,h3,h4⟩:=ob_some h2
   injection h4 with h4
   obtain ⟨rfl,rfl,rfl⟩:=ok_inj h4
   have h1:=kEq_eq h1
   subst h1
   obtain ⟨rfl,k1,k2⟩:=itoaN_ok h3
   obtain ⟨x,r,e1,hx,hL2⟩:=hL.cons_inv
   have e2:=hL2.nil_inv
   subst e2
   have hv:vals= #[x]:=Array.ext' (by simpa using e1)
   rw [hv,hx.val]
   refine kept_after hr (bytes_of σ) ((Any.strconv_Itoa L n k1 k2 w (htab w0 w hG hr.below)).mono ?_)
   rintro e w' ⟨he,k,os,rfl⟩
   refine ⟨he,rfl,rfl,rfl,?_,fun b hb=> ?_⟩
   ·show w.heap.size≤((w.drewN k).heap ++ os).size
    rw [Array.size_append]
    exact Nat.le_add_right _ _
   ·show ((w.drewN k).heap ++ os)[b]? =w.heap[b]?
    rw [Array.getElem?_append_left (xs:=(w.drewN k).heap) hb]
    rfl
  ·cases h
 ·cases h
theorem join_ext (L:Lays.n156 P ρ) (X:Builder.Extra P ρ) {args:List CV} {H:Tr Blk} {nx:Nat} {v:CV} {H':Tr Blk} {nx':Nat} (h:xJoin H nx args=some (.ok v H' nx')) {w0 w:World} {σ:Nm} {vals:Array Value} (hr:R w0 σ H nx w) (hL:VRL σ args vals.toList):
  Calls P (ρ.f 156) vals w fun e w'=> ∃x,e= .returned x∧After w0 σ nx v H' nx' x w':=by
 unfold xJoin at h
 split at h
 ·rename_i a sep
  obtain ⟨va,r1,e1,ha,hL2⟩:=hL.cons_inv
  obtain ⟨vb,r2,e2,hb,hL3⟩:=hL2.cons_inv
  have e3:=hL3.nil_inv
  subst e3 e2
  have hv:vals= #[va,vb]:=Array.ext' (by simpa using e1)
  rw [hv]
  cases hb with
  | t _ hsep=>
   have none_:∀(A:Option Addr) (c:Nat),va= .slice A 0 c→v= .t []→H'=H→nx'=nx→Calls P (ρ.f 156) #[va,strV sep] w fun e w'=> ∃x,e= .returned x∧After w0 σ nx v H' nx' x w':=by
    rintro A c rfl rfl rfl rfl
    refine (Any.strings_Join_none L X A c ⟨(sep.map UInt8.ofNat).toArray⟩ w).mono ?_
    rintro e w' ⟨he,rfl⟩
    exact ⟨_,he,.same hr (.t [] fun b hb=> by cases hb)⟩
   split at h
   ·rename_i y
    obtain ⟨h1,h2⟩:=ifO_some h
    injection h2 with h2
    obtain ⟨rfl,rfl,rfl⟩:=ok_inj h2
    exact none_ none 0 (by rw [ha.val,isNilS_eq h1]) rfl rfl rfl
   ·rename_i l o n c
    obtain ⟨lc,hl,A,cap,rfl,q2,q3,_,_⟩:=ha.sv
    cases hn:Nat.beq n 0
    ·rw [hn] at h
     obtain ⟨cs,h1,h2⟩:=ob_some (show xJoin2 H nx l o n sep=some (.ok v H' nx') from h)
     obtain ⟨xs,h3,h4⟩:=ob_some h2
     obtain ⟨h5,h6⟩:=ifO_some h4
     injection h6 with h6
     obtain ⟨rfl,rfl,rfl⟩:=ok_inj h6
     obtain ⟨m1,m2⟩:=and_true h5
     obtain ⟨m2,m3⟩:=and_true m2
     have m1:=beq_eq' m1
     have m2:=ble_le m2
     have m3:=ble_le m3
     rw [len_eq] at m1 m3
     have hpos:n≠0:=fun e=> by rw [e] at hn;cases hn
     obtain ⟨all,vals',T,us,g1,g2,g3,g4,g5,g6,g7,g8⟩:=hr.cells hl h1
     rw [takeN_eq] at h3
     obtain ⟨k1,k2⟩:=strsL_ok (g6.take n) h3
     rcases q3 with q3 | ⟨q3,_⟩
     ·subst q3
      have hb:∀x∈joinN sep xs,x < 256:=joinN_lt hsep k2
      have hj:Lib.join ((xs.map fun x=> (⟨(x.map UInt8.ofNat).toArray⟩:ByteArray)).map (·.data.toList)) (⟨(sep.map UInt8.ofNat).toArray⟩:ByteArray).data.toList=(joinN sep xs).map UInt8.ofNat:=by
       rw [joinN_ok]
       congr 1
       simp
      have:=Any.strings_Join L X lc.blk (lc.off + o) cap (xs.map fun x=> (⟨(x.map UInt8.ofNat).toArray⟩:ByteArray)) ⟨(sep.map UInt8.ofNat).toArray⟩ w (fun j x hx=> by
       rw [List.getElem?_map] at hx
       cases hq:xs[j]? with
       | none=> rw [hq] at hx;cases hx
       | some y=>
        rw [hq] at hx
        injection hx with hx
        have hu:(us.take n)[j]? =some (strV y):=by rw [k1,List.getElem?_map,hq];rfl
        rw [List.getElem?_take] at hu
        split at hu
        ·rw [Nat.add_assoc,g8 j _ hu,←hx]
         rfl
        ·cases hu) ((hr.lo l lc hl).2) (by simp;omega) (by simp;omega) (by rw [hj];simp;omega)
      rw [hj] at this
      have hlen:(xs.map fun x=> (⟨(x.map UInt8.ofNat).toArray⟩:ByteArray)).length=n:=by simp [m1]
      rw [hlen] at this
      exact kept_after hr (.t _ hb) this
     ·exact absurd q3 hpos
    ·rw [hn] at h
     injection (show some (Res.ok (.t []) H nx)=some (.ok v H' nx') from h) with h
     obtain ⟨rfl,rfl,rfl⟩:=ok_inj h
     have hn:=beq_eq' hn
     subst hn
     exact none_ (some A) cap rfl rfl rfl rfl
   ·cases h
 ·cases h
theorem over_one {α:Type} (cs:List α) (v:α) (h:0 < cs.length):over cs 0 [v]=cs.set 0 v:=by
 cases cs with
 | nil=> simp at h
 | cons x l=> simp [over]
theorem copy_ext (L:Lays.n240 P ρ) (X:Builder.X72 P ρ) {args:List CV} {H:Tr Blk} {nx:Nat} {v:CV} {H':Tr Blk} {nx':Nat} (h:xCopy (ρ.t 72) H nx args=some (.ok v H' nx')) {w0 w:World} {σ:Nm} {vals:Array Value} (hr:R w0 σ H nx w) (hL:VRL σ args vals.toList):
  Calls P (ρ.f 240) vals w fun e w'=> ∃x,e= .returned x∧After w0 σ nx v H' nx' x w':=by
 unfold xCopy at h
 split at h
 ·rename_i l o
  obtain ⟨h1,h2⟩:=ifO_some h
  obtain ⟨m1,m2⟩:=and_true h1
  have m1:=beq_eq' m1
  subst m1
  obtain ⟨cs,h3,h4⟩:=ob_some h2
  obtain ⟨kd,hH⟩:=cellsOf_some h3
  rw [kOf_eq hH] at m2 h4
  obtain ⟨x,r,e1,hx,hL2⟩:=hL.cons_inv
  have e2:=hL2.nil_inv
  subst e2
  have hv:vals= #[x]:=Array.ext' (by simpa using e1)
  obtain ⟨c,hl,rfl⟩:=hx.pv
  obtain ⟨cur,T,g1,g2,g3,gk,g4⟩:=hr.blk l c _ hl hH
  cases kd with
  | any=> cases m2
  | of t=> cases m2
  | whole t=>
   obtain ⟨q1,q2,q3⟩:=gk
   have m2:=beq_eq' (show Nat.beq t (ρ.t 72)=true from m2)
   rw [m2] at q1
   unfold xCopy2 at h4
   split at h4
   ·rename_i c0 c1
    have hsz:cur.size=2:=by
     have:c.room=2:=q3
     omega
    have hcell:∀j,w.cell? ⟨c.blk,j,none⟩=cur[j]? :=fun j=> cell_of_row _ _ _ cur T (0,0) g1
    obtain ⟨u0,a1,a2,_⟩:=g4 0 c0 rfl
    rw [q2] at a1
    rw [hv,q2]
    cases c0 with
    | v y=>
     obtain ⟨h5,h6⟩:=ifO_some (show ifO (isNilP y) _=some (Res.ok v H' nx') from h4)
     injection h6 with h6
     obtain ⟨rfl,rfl,rfl⟩:=ok_inj h6
     have hy:y= .pointer none:=by
      unfold isNilP at h5
      split at h5
      ·rfl
      ·cases h5
     have h0:w.cell? ⟨c.blk,0,none⟩=some (.pointer none):=by rw [hcell];rw [show cur[0]? =some u0 from a1,a2.val,hy]
     refine (Any.Builder_copyCheck_fresh L X c.blk w h0 (by simp [World.shape?,g1,hsz,q1]) (frozen_of_row w c.blk 0 cur T g1)).mono ?_
     rintro e w' ⟨he,rfl⟩
     refine ⟨_,he,.same ?_ (.unit σ)⟩
     have hup:=row_upd (o:=0) (ns:= [.p l 0]) (us:= [.pointer (some ⟨c.blk,0,none⟩)]) hr hl hH g1 (.cons (by have:=VR.p (σ:=σ) (l:=l) (c:=c) 0 hl;rw [q2] at this;exact this) (.nil σ)) (fun x hx=> by rw [List.mem_singleton.1 hx];rfl) (by simp)
     rw [setCl_eq hH,wrt_eq _ _ _ (by simp),over_one _ _ (by simp)] at hup
     rw [setCell_eq_setRow w c.blk 0 cur T (0,0) _ g1]
     have e5:(over cur.toList (c.off + 0) [Value.pointer (some ⟨c.blk,0,none⟩)]).toArray=cur.setIfInBounds 0 (.pointer (some ⟨c.blk,0,none⟩)):=by
      rw [q2,Nat.add_zero,over_one _ _ (by simp;omega)]
      apply Array.ext'
      simp
     rw [e5] at hup
     exact hup
    | p l' o'=>
     obtain ⟨h5,h6⟩:=ifO_some (show ifO (Bool.and (Nat.beq l l') (Nat.beq o' 0)) _=some (Res.ok v H' nx') from h4)
     injection h6 with h6
     obtain ⟨rfl,rfl,rfl⟩:=ok_inj h6
     obtain ⟨n1,n2⟩:=and_true h5
     have n1:=beq_eq' n1
     have n2:=beq_eq' n2
     subst n1 n2
     obtain ⟨c',hl',hu⟩:=a2.pv
     rw [hl] at hl'
     injection hl' with hl'
     subst hl'
     have h0:w.cell? ⟨c.blk,0,none⟩=some (.pointer (some ⟨c.blk,0,none⟩)):=by rw [hcell];rw [show cur[0]? =some u0 from a1,hu,q2]
     refine (Any.Builder_copyCheck_used L X c.blk w h0).mono ?_
     rintro e w' ⟨he,rfl⟩
     exact ⟨_,he,.same hr (.unit σ)⟩
    | _=> cases h4
   ·cases h4
 ·cases h
end
end Go.Proofs.YtiklglcjecopcaaGreatDoor.Ci
namespace Go.Proofs
open Go.Shelf
def Tryz.laysItoa_ren:Go.Shelf.Ren:=⟨fun | 171=> 108 | 243=> 186 | 246=> 303 | 283=> 394 | 284=> 395 | 285=> 396 | 286=> 397 | 129=> 205 | 317=> 459 | 318=> 460 | 319=> 461 | 320=> 462 | 337=> 505 | 338=> 506 | n=> n,fun | 3=> 3 | 9=> 9 | 2=> 2 | 4=> 4 | 171=> 465 | 0=> 0 | 53=> 295 | 37=> 191 | 5=> 5 | 173=> 467 | 212=> 515 | 51=> 293 | 20=> 20 | 213=> 516 | 46=> 207 | 232=> 565 | 233=> 566 | n=> n,fun | 17=> 1 | 18=> 4 | 19=> 5 | n=> n⟩
theorem Tryz.laysItoa:Go.Proofs.LaysM.n171 Tryz.prog Tryz.laysItoa_ren:={
 mixed:=by kernel_rfl
 f129:=Tryz.func205.trans (congrArg some (by kernel_rfl))
 f171:=Tryz.func108.trans (congrArg some (by kernel_rfl))
 f243:=Tryz.func186.trans (congrArg some (by kernel_rfl))
 f246:=Tryz.func303.trans (congrArg some (by kernel_rfl))
 f283:=Tryz.func394.trans (congrArg some (by kernel_rfl))
 f284:=Tryz.func395.trans (congrArg some (by kernel_rfl))
 f285:=Tryz.func396.trans (congrArg some (by kernel_rfl))
 f286:=Tryz.func397.trans (congrArg some (by kernel_rfl))
 f317:=Tryz.func459.trans (congrArg some (by kernel_rfl))
 f318:=Tryz.func460.trans (congrArg some (by kernel_rfl))
 f319:=Tryz.func461.trans (congrArg some (by kernel_rfl))
 f320:=Tryz.func462.trans (congrArg some (by kernel_rfl))
 f337:=Tryz.func505.trans (congrArg some (by kernel_rfl))
 f338:=Tryz.func506.trans (congrArg some (by kernel_rfl))
 t0:=Tryz.underlying0
 a0:=Tryz.isAgg0
 z0:=Tryz.sizeOf0
 v0:=Tryz.zeroValue0
 t2:=Tryz.underlying2
 a2:=Tryz.isAgg2
 z2:=Tryz.sizeOf2
 v2:=Tryz.zeroValue2
 t3:=Tryz.underlying3
 a3:=Tryz.isAgg3
 z3:=Tryz.sizeOf3
 v3:=Tryz.zeroValue3
 t4:=Tryz.underlying4
 a4:=Tryz.isAgg4
 z4:=Tryz.sizeOf4
 v4:=Tryz.zeroValue4
 t5:=Tryz.underlying5
 a5:=Tryz.isAgg5
 z5:=Tryz.sizeOf5
 v5:=Tryz.zeroValue5
 t9:=Tryz.underlying9
 a9:=Tryz.isAgg9
 z9:=Tryz.sizeOf9
 v9:=Tryz.zeroValue9
 t20:=Tryz.underlying20
 a20:=Tryz.isAgg20
 z20:=Tryz.sizeOf20
 v20:=Tryz.zeroValue20
 t37:=Tryz.underlying191
 a37:=Tryz.isAgg191
 z37:=Tryz.sizeOf191
 v37:=Tryz.zeroValue191
 t46:=Tryz.underlying207
 a46:=Tryz.isAgg207
 z46:=Tryz.sizeOf207
 v46:=Tryz.zeroValue207
 t51:=Tryz.underlying293
 a51:=Tryz.isAgg293
 z51:=Tryz.sizeOf293
 v51:=Tryz.zeroValue293
 t53:=Tryz.underlying295
 a53:=Tryz.isAgg295
 z53:=Tryz.sizeOf295
 v53:=Tryz.zeroValue295
 t171:=Tryz.underlying465
 a171:=Tryz.isAgg465
 z171:=Tryz.sizeOf465
 v171:=Tryz.zeroValue465
 t173:=Tryz.underlying467
 a173:=Tryz.isAgg467
 z173:=Tryz.sizeOf467
 v173:=Tryz.zeroValue467
 t212:=Tryz.underlying515
 a212:=Tryz.isAgg515
 z212:=Tryz.sizeOf515
 v212:=Tryz.zeroValue515
 t213:=Tryz.underlying516
 a213:=Tryz.isAgg516
 z213:=Tryz.sizeOf516
 t232:=Tryz.underlying565
 a232:=Tryz.isAgg565
 z232:=Tryz.sizeOf565
 v232:=Tryz.zeroValue565
 t233:=Tryz.underlying566
 a233:=Tryz.isAgg566
 z233:=Tryz.sizeOf566
 v233:=Tryz.zeroValue566
 g17:=by kernel_rfl
 g18:=by kernel_rfl
 g19:=by kernel_rfl
 i0:=by kernel_rfl
 i2:=by kernel_rfl
 i3:=by kernel_rfl
 i4:=by kernel_rfl
 i5:=by kernel_rfl
 i9:=by kernel_rfl
 i20:=by kernel_rfl
 i37:=by kernel_rfl
 i46:=by kernel_rfl
 i51:=by kernel_rfl
 i53:=by kernel_rfl
 i171:=by kernel_rfl
 i173:=by kernel_rfl
 i212:=by kernel_rfl
 i232:=by kernel_rfl
 i233:=by kernel_rfl
 m17:=by kernel_rfl
 m18:=by kernel_rfl
 m19:=by kernel_rfl}
def Tryz.lays156_ren:Go.Shelf.Ren:=⟨fun | 156=> 40 | 165=> 107 | 166=> 105 | 169=> 106 | 240=> 184 | 241=> 185 | 276=> 301 | 277=> 302 | n=> n,fun | 31=> 71 | 9=> 9 | 3=> 3 | 4=> 4 | 0=> 0 | 20=> 20 | 72=> 193 | 76=> 196 | 70=> 190 | 37=> 191 | 75=> 195 | 127=> 278 | 164=> 380 | 5=> 5 | 80=> 186 | n=> n,fun | n=> n⟩
theorem Tryz.lays156:Go.Proofs.Lays.n156 Tryz.prog Tryz.lays156_ren:={
 mixed:=by kernel_rfl
 f156:=Tryz.func40.trans (congrArg some (by kernel_rfl))
 f165:=Tryz.func107.trans (congrArg some (by kernel_rfl))
 f166:=Tryz.func105.trans (congrArg some (by kernel_rfl))
 f169:=Tryz.func106.trans (congrArg some (by kernel_rfl))
 f240:=Tryz.func184.trans (congrArg some (by kernel_rfl))
 f241:=Tryz.func185.trans (congrArg some (by kernel_rfl))
 f276:=Tryz.func301.trans (congrArg some (by kernel_rfl))
 f277:=Tryz.func302.trans (congrArg some (by kernel_rfl))
 t0:=Tryz.underlying0
 a0:=Tryz.isAgg0
 z0:=Tryz.sizeOf0
 v0:=Tryz.zeroValue0
 t3:=Tryz.underlying3
 a3:=Tryz.isAgg3
 z3:=Tryz.sizeOf3
 v3:=Tryz.zeroValue3
 t4:=Tryz.underlying4
 a4:=Tryz.isAgg4
 z4:=Tryz.sizeOf4
 v4:=Tryz.zeroValue4
 t9:=Tryz.underlying9
 a9:=Tryz.isAgg9
 z9:=Tryz.sizeOf9
 v9:=Tryz.zeroValue9
 t20:=Tryz.underlying20
 a20:=Tryz.isAgg20
 z20:=Tryz.sizeOf20
 v20:=Tryz.zeroValue20
 t31:=Tryz.underlying71
 a31:=Tryz.isAgg71
 z31:=Tryz.sizeOf71
 v31:=Tryz.zeroValue71
 t37:=Tryz.underlying191
 a37:=Tryz.isAgg191
 z37:=Tryz.sizeOf191
 v37:=Tryz.zeroValue191
 t70:=Tryz.underlying190
 a70:=Tryz.isAgg190
 z70:=Tryz.sizeOf190
 v70:=Tryz.zeroValue190
 t72:=Tryz.underlying193
 a72:=Tryz.isAgg193
 z72:=Tryz.sizeOf193
 v72:=Tryz.zeroValue193
 t75:=Tryz.underlying195
 a75:=Tryz.isAgg195
 z75:=Tryz.sizeOf195
 v75:=Tryz.zeroValue195
 t76:=Tryz.underlying196
 a76:=Tryz.isAgg196
 z76:=Tryz.sizeOf196
 v76:=Tryz.zeroValue196
 t127:=Tryz.underlying278
 a127:=Tryz.isAgg278
 z127:=Tryz.sizeOf278
 v127:=Tryz.zeroValue278
 t164:=Tryz.underlying380
 a164:=Tryz.isAgg380
 z164:=Tryz.sizeOf380
 v164:=Tryz.zeroValue380}
end Go.Proofs
namespace Go.Proofs.YtiklglcjecopcaaGreatDoor.Ci
open Go.RowKit Go.Shelf
theorem lays240:Lays.n240 Tryz.prog Tryz.lays156_ren:={
 mixed:=Tryz.lays156.mixed
 f240:=Tryz.lays156.f240
 f276:=Tryz.lays156.f276
 t0:=Tryz.lays156.t0
 a0:=Tryz.lays156.a0
 z0:=Tryz.lays156.z0
 v0:=Tryz.lays156.v0
 t4:=Tryz.lays156.t4
 a4:=Tryz.lays156.a4
 z4:=Tryz.lays156.z4
 v4:=Tryz.lays156.v4
 t9:=Tryz.lays156.t9
 a9:=Tryz.lays156.a9
 z9:=Tryz.lays156.z9
 v9:=Tryz.lays156.v9
 t20:=Tryz.lays156.t20
 a20:=Tryz.lays156.a20
 z20:=Tryz.lays156.z20
 v20:=Tryz.lays156.v20
 t70:=Tryz.lays156.t70
 a70:=Tryz.lays156.a70
 z70:=Tryz.lays156.z70
 v70:=Tryz.lays156.v70
 t72:=Tryz.lays156.t72
 a72:=Tryz.lays156.a72
 z72:=Tryz.lays156.z72
 v72:=Tryz.lays156.v72
 t164:=Tryz.lays156.t164
 a164:=Tryz.lays156.a164
 z164:=Tryz.lays156.z164
 v164:=Tryz.lays156.v164
 }
theorem builderX:Builder.Extra Tryz.prog Tryz.lays156_ren:={
 sizeBuilder:=by kernel_rfl
 liesBuilder:=by kernel_rfl
 t5:=Tryz.underlying5
 a5:=Tryz.isAgg5
 z5:=Tryz.sizeOf5
 v5:=Tryz.zeroValue5
 infoByte:=by kernel_rfl
 cellsByte:=by kernel_rfl
 sizeByte:=by kernel_rfl
 neB5:=by decide
 }
abbrev Ext:=FuncId→List CV→Tr Blk→Nat→Option Res
noncomputable def extL (more:Ext):Ext:=fun f args h nx=> ifB (Nat.beq f 184) (xCopy 193 h nx args) (ifB (Nat.beq f 108) (xItoa h nx args) (ifB (Nat.beq f 40) (xJoin h nx args) (more f args h nx)))
theorem ifB_cases {α:Type} {b:Bool} {x y r:α} (h:ifB b x y=r):(b=true∧x=r)∨(b=false∧y=r):=by
 cases b
 ·exact Or.inr ⟨rfl,h⟩
 ·exact Or.inl ⟨rfl,h⟩
theorem extL_ok {G:World→Prop} (htab:∀w0 w,G w0→Below w0.heap.size w0 w→Lib.TabIs Tryz.prog w "internal/strconv.uint64pow10" .u64 Lib.pow10Tab) {more:Ext} (hm:ExtOk Tryz.prog G more):ExtOk Tryz.prog G (extL more):=by
 intro f args H nx v H' nx' h w0 σ w vals hG hr hL
 rcases ifB_cases (show ifB (Nat.beq f 184) (xCopy 193 H nx args) _=_ from h) with ⟨e,h1⟩ | ⟨_,h1⟩
 ·have e:=beq_eq' e
  subst e
  exact ⟨Tryz.call184 vals w,copy_ext (ρ:=Tryz.lays156_ren) lays240 builderX.toX72 h1 hr hL⟩
 rcases ifB_cases h1 with ⟨e,h2⟩ | ⟨_,h2⟩
 ·have e:=beq_eq' e
  subst e
  exact ⟨Tryz.call108 vals w,itoa_ext (ρ:=Tryz.laysItoa_ren) Tryz.laysItoa htab h2 hG hr hL⟩
 rcases ifB_cases h2 with ⟨e,h3⟩ | ⟨_,h3⟩
 ·have e:=beq_eq' e
  subst e
  exact ⟨Tryz.call40 vals w,join_ext (ρ:=Tryz.lays156_ren) Tryz.lays156 builderX h3 hr hL⟩
 ·exact hm f args H nx v H' nx' h3 w0 σ w vals hG hr hL
theorem mixed:Tryz.prog.follows .mixedOrders=true:=Tryz.lays156.mixed
end Go.Proofs.YtiklglcjecopcaaGreatDoor.Ci

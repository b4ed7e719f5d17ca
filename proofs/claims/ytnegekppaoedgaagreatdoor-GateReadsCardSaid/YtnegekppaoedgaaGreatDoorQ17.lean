/-
Running code on constants: the head of the law, run by the kernel.
-/
import Derived.Test.YtnegekppaoedgaaGreatDoorCW0
import Derived.Test.YtnegekppaoedgaaGreatDoorCW1
import Derived.Test.YtnegekppaoedgaaGreatDoorCW2
import Derived.Test.YtnegekppaoedgaaGreatDoorCW3
import Derived.Test.YtnegekppaoedgaaGreatDoorCW4
import Derived.Test.YtnegekppaoedgaaGreatDoorCW5
import Derived.Test.YtnegekppaoedgaaGreatDoorCW6
import Derived.Test.YtnegekppaoedgaaGreatDoorCW7
import Derived.Test.YtnegekppaoedgaaGreatDoorCW8
import Derived.Test.YtnegekppaoedgaaGreatDoorCW9
import Derived.Test.YtnegekppaoedgaaGreatDoorCW10
import Derived.Test.YtnegekppaoedgaaGreatDoorCW11
import Derived.Test.YtnegekppaoedgaaGreatDoorQGZ
import Derived.Test.YtnegekppaoedgaaGreatDoorWR
set_option linter.all false
namespace Go.Proofs.YtnegekppaoedgaaGreatDoor
namespace Ci
open Go.RowKit Go.Shelf
variable [fE]
noncomputable def cuts:List cu:= [zX,zY,zZ,Aa,Ac,Ad,Ae,Af,Ag,Ah,qG,qH]
theorem ahz:∀m∈cuts,m.Ok Tryz.prog GB:=by
 intro m hm
 simp only [cuts,List.mem_cons,List.not_mem_nil,or_false] at hm
 rcases hm with rfl | rfl | rfl | rfl | rfl | rfl | rfl | rfl | rfl | rfl | rfl | rfl
 ·exact aee
 ·exact aeg
 ·exact aei
 ·exact aek
 ·exact aem
 ·exact aeo
 ·exact aer
 ·exact aeu
 ·exact aew
 ·exact aey
 ·exact Zb
 ·exact Zg
noncomputable def aoV:Ext:=orX (Wy (fun f=> (Bool.or (Nat.beq f 33) (Nat.beq f 35))) (xB cuts)) ext1
theorem ahA:iP Tryz.prog GB aoV:=yY (Fa (acN WA ahz)) gI
theorem adS:D9 (rc Tryz.prog aoV 100000 60 4 [] .e 0)=true:=by kernel_rfl
theorem YP:Says 4:=agd ahA adS
end Ci
section
open Go.RowKit
theorem ajl (a:ak):∃r,pO a=some r∧(r=true→a.Raw.Text.size≤200∧a.Raw.Files.length≤6∧a.Up.length≤20):=by
 unfold pO
 by_cases h1:(a.Raw.Text.size:Int)≤200
 ·by_cases h2:(a.Raw.Files.length:Int)≤6
  ·rw [decide_eq_true h1,decide_eq_true h2]
   exact ⟨_,rfl,fun h=> by have:=of_decide_eq_true h;omega⟩
  ·rw [decide_eq_true h1,decide_eq_false h2]
   exact ⟨false,rfl,fun h=> by cases h⟩
 ·rw [decide_eq_false h1]
  exact ⟨false,rfl,fun h=> by cases h⟩
theorem YQ (l:List Int) (hl:l.length≤maxLen):nK l l=some true:=by
 unfold maxLen at hl
 unfold nK
 rw [show ((l.length:Int) !=(l.length:Int))=false by simp,cond_false]
 rw [tZ l (fun _=> true) false (fun i x h0 hi hx=> ?_) ?_]
 ·rw [show l.all (fun _=> true)=true by simp]
  rfl
 ·unfold lF
  rw [decide_eq_false (by omega)]
  rfl
 ·have hw:IntKind.i64.wrap (i + 1)=i + 1:=wrap64 (by omega) (by omega)
  unfold lF
  rw [decide_eq_true hi,cond_true,qE h0,hx,Option.bind_some,Option.bind_some,hw,show (x !=x)=false by simp]
  rfl
theorem Ic (a:ak) (hl:a.Raw.Files.length≤maxLen) (hu:a.Up.length≤maxLen):nM a a=some true:=by
 have hu':=hu
 unfold maxLen at hu'
 have hloop:iY (jD a a) 0=some (.inl ():Unit⊕Bool):=by
  rw [tZ a.Up (fun _=> true) false (fun i x h0 hi hx=> ?_) ?_]
  ·rw [show a.Up.all (fun _=> true)=true by simp]
   rfl
  ·unfold jD
   rw [decide_eq_false (by omega)]
   rfl
  ·have hw:IntKind.i64.wrap (i + 1)=i + 1:=wrap64 (by omega) (by omega)
   unfold jD
   rw [decide_eq_true hi,cond_true,qE h0,hx,Option.bind_some,Option.bind_some,hw,show (!(x==x))=false by simp]
   rfl
 unfold nM
 simp only [bne_self_eq_false,cond_false,beq_self_eq_true,Bool.not_true,YQ _ hl,Option.bind_some,hloop,Bool.and_true,cond_true]
 rfl
theorem ajt {n:Int} (h:0≤n∧n≤1999):pR n=some (n % 12):=by
 unfold pR oH
 rw [decide_eq_true (show (0:Int)≤n from h.1),cond_true,decide_eq_true (show n < 2000 by omega),Option.bind_some,Bool.not_true,cond_false,Int.tmod_eq_emod_of_nonneg h.1]
theorem adT {A:Nat→Prop} {W:World} {a:ak} {x:Ci.qM} (h:qC A W a x):Ci.xs x.F=bW a (x.f 14) (x.f 34):=by
 obtain ⟨hz,hs,h1,h2,_,_,_,_⟩:=h
 obtain ⟨z,s,fa,fn,fc,fl,ua,un,uc,ul,b1,b2,e1,e2,e3⟩:=x
 simp only at hz hs h1 h2
 subst hz hs h1 h2
 rfl
open Ci in
def Held [fE] (Pk:Nat→Prop) (σ:Ci.Nm) (m:List (Nat×aP)) (nx:Nat) (w:World):Prop:=∃b:Base,b.w=w∧GB b∧R b σ (fC m .e) nx w∧∀k,Pk k→b.F k
structure YR (Pk:Nat→Prop) (w w':World):Prop where
 os:w'.os=w.os
 tape:w'.tape=w.tape
 output:w'.output=w.output
 size:w.heap.size≤w'.heap.size
 block:∀k,Pk k→w'.heap[k]? =w.heap[k]?
theorem YR.trans {Pk:Nat→Prop} {u v w:World} (h:YR Pk u v) (k:YR Pk v w):YR Pk u w:=⟨k.os.trans h.os,k.tape.trans h.tape,k.output.trans h.output,Nat.le_trans h.size k.size,fun i hi=> (k.block i hi).trans (h.block i hi)⟩
theorem YR.sub {Pk Q:Nat→Prop} {w w':World} (h:YR Pk w w') (hq:∀k,Q k→Pk k):YR Q w w':=⟨h.os,h.tape,h.output,h.size,fun k hk=> h.block k (hq k hk)⟩
section
open Ci
variable [fE] {Pk : Nat → Prop} {σ : Ci.Nm} {m : List (Nat × aP)} {nx : Nat} {w w' : World}
theorem Held.start (hu:OkW w) (hg:GW w):Held (fun k=> k < w.heap.size) (fun _=> none) [] 0 w:=⟨Base.of w hu,rfl,GB.of hg,R.start w hu,fun _ h=> h⟩
theorem Held.sub {Q:Nat→Prop} (h:Held Pk σ m nx w) (hq:∀k,Q k→Pk k):Held Q σ m nx w:=by
 obtain ⟨b,h1,h2,h3,h4⟩:=h
 exact ⟨b,h1,h2,h3,fun k hk=> h4 k (hq k hk)⟩
theorem Held.next (h:Held Pk σ m nx w) (hb:Below w.heap.size w w'):Held (fun k=> Pk k∨(w.heap.size≤k∧k < w'.heap.size)) σ m nx w':=by
 obtain ⟨b,rfl,hg,hr,hP⟩:=h
 have hk:=hr.below.keep hb
 let b':Base:=⟨w',fun k=> b.F k∨(b.w.heap.size≤k∧k < w'.heap.size),fun k hk=> hk.elim (fun h=> Nat.lt_of_lt_of_le (b.lt k h) hb.size) fun h=> h.2,hk.okW.1,fun k hk=> .inl (b.fb k hk)⟩
 refine ⟨b',rfl,WA b b' w' hg hk rfl fun _ h=> .inl h,⟨⟨rfl,rfl,rfl,Nat.le_refl _,fun _ _=> rfl⟩,fun l c x h1 h2=> (hr.blk l c x h1 h2).mono (fun _ _ h=> h) (hb.block _ (hr.lo l c h1).2),fun l c h=> ⟨fun hF=> hF.elim (hr.lo l c h).1 fun e=> ?_,Nat.lt_of_lt_of_le (hr.lo l c h).2 hb.size⟩,hr.sep,hr.fresh⟩,fun k hk=> hk.elim (fun h=> .inl (hP k h)) .inr⟩
 have:=(hr.lo l c h).2
 omega
theorem Rl {H:Tr aP} (h:∀p∈m,H.get p.1=some p.2):∀l x,(fC m .e).get l=some x→H.get l=some x:=fun l x hx=> by
 rcases tX .e m l with ⟨p,hp,rfl,h4⟩ | ⟨_,h4⟩
 ·rw [h4] at hx
  rw [←hx]
  exact h p hp
 ·rw [h4] at hx
  cases hx
theorem Held.drop {m':List (Nat×aP)} (h:Held Pk σ m nx w) (hm:∀p∈m',(fC m .e).get p.1=some p.2):Held Pk σ m' nx w:=by
 obtain ⟨b,h1,h2,h3,h4⟩:=h
 exact ⟨b,h1,h2,h3.weak (Nat.le_refl _) fun l x hx=> ⟨x,Rl hm l x hx,fun _ h=> h⟩,h4⟩
theorem Held.call {mb:cu} (hm:mb.Ok Tryz.prog GB) (h:Held Pk σ mb.hs mb.nx w) {vals:Array Value} (hv:fU σ mb.args vals.toList):
  Calls Tryz.prog mb.f vals w fun e w'=> ∃x σ1,e= .returned x∧Held Pk σ1 mb.L mb.n w'∧VR σ1 mb.v x∧(∀l,l < mb.nx→σ1 l=σ l)∧YR Pk w w':=by
 obtain ⟨b,rfl,hg,hr,hP⟩:=h
 refine (hm.ok b σ b.w vals hg hr hv).2.mono ?_
 rintro e w' ⟨x,rfl,σ1,H1,_,hlow,hr1,_,hx,hL⟩
 refine ⟨x,σ1,rfl,?_,hx,hlow,⟨hr1.below.os,hr1.below.tape,hr1.below.output,hr1.below.size,fun k hk=> hr1.below.block k (hP k hk)⟩⟩
 have hr2:R b σ1 (fC mb.L .e) mb.n w':=hr1.weak (Nat.le_refl _) fun l x hx=> ⟨x,Rl hL l x hx,fun _ h=> h⟩
 exact ⟨⟨w',b.F,fun k h=> Nat.lt_of_lt_of_le (b.lt k h) hr1.below.size,hr1.below.okW.1,b.fb⟩,rfl,WA b _ w' hg hr1.below rfl fun _ h=> h,⟨⟨rfl,rfl,rfl,Nat.le_refl _,fun _ _=> rfl⟩,hr2.blk,hr2.lo,hr2.sep,hr2.fresh⟩,hP⟩
end
def StV (v:Value) (cs:Array Value):Prop:=v= .agg cs∧cs.size=13∧∀u∈cs.toList,u.oneCell'=true
open Ci in
theorem Xn [fE] {w:World} (hu:OkW w) (hg:GW w):Calls Tryz.prog 11 #[] w fun e w'=> ∃x σ1,e= .returned x∧Held (fun k=> k < w.heap.size) σ1 QI.L QI.n w'∧VR σ1 QI.v x∧YR (fun k=> k < w.heap.size) w w':=
 (Held.call akP (σ:=fun _=> none) (Held.start hu hg) (fU.nil _)).mono fun e w' h=> by
  obtain ⟨x,σ1,h1,h2,h3,_,h4⟩:=h
  exact ⟨x,σ1,h1,h2,h3,h4⟩
open Ci in
theorem YS [fE]:(fC WB.L .e).get (qN.hs.head (List.cons_ne_nil _ _)).1=some (qN.hs.head (List.cons_ne_nil _ _)).2:=by kernel_rfl
open Ci in
theorem Xo [fE] {Pk:Nat→Prop} {σ:Ci.Nm} {w:World} {x:Value} (h:Held Pk σ QI.L QI.n w) (hx:VR σ QI.v x):Calls Tryz.prog 10 #[x] w fun e w'=> ∃v n σ1 cs,e= .returned (.tuple #[v,.int .i64 n])∧StV v cs∧Held Pk σ1 qN.hs qN.nx w'∧VR σ1 rU v∧YR Pk w w':=by
 have h:Held Pk σ WB.hs WB.nx w:=h
 refine Calls.mono (f:=10) (Held.call akR h (vals:= #[x]) (.cons hx (.nil _))) ?_
 rintro e w' ⟨y,σ1,rfl,h1,h2,_,h3⟩
 have h2:VR σ1 (.bH [rU,.v (.int .i64 0)]) y:=h2
 obtain ⟨vs,rfl,hvs⟩:=h2.abX
 obtain ⟨y1,r,e1,k1,k2⟩:=hvs.cons_inv
 obtain ⟨y2,r2,e2,k3,k4⟩:=k2.cons_inv
 have:=k4.bg
 subst this e2
 obtain ⟨us,rfl,hus,hone⟩:=VR.Dw (show VR σ1 (.agg _) y1 from k1)
 refine ⟨.agg us,0,σ1,us,?_,⟨rfl,?_,hus.ones hone⟩,h1.drop ?_,k1,h3⟩
 ·congr 2
  apply Array.ext'
  rw [e1,k3.val]
 ·rw [←Array.length_toList,hus.1]
  rfl
 ·intro p hp
  have hp:p∈ [qN.hs.head (by exact List.cons_ne_nil _ _)]:=hp
  rw [List.mem_singleton.1 hp]
  exact YS
open Ci in
theorem Ii [fE] {Pk:Nat→Prop} {σ:Ci.Nm} {w:World} {v:Value} (h:Held Pk σ qN.hs qN.nx w) (hv:VR σ rU v):Calls Tryz.prog 11 #[] w fun e w'=> ∃x σ1,e= .returned x∧Held Pk σ1 qN.L qN.n w'∧VR σ1 qN.v x∧VR σ1 rU v∧YR Pk w w':=by
 refine Calls.mono (f:=11) (Held.call akT h (vals:= #[]) (fU.nil _)) ?_
 rintro e w' ⟨y,σ1,rfl,h1,h2,h4,h3⟩
 refine ⟨y,σ1,rfl,h1,h2,hv.names (K:=qN.S) (fun l c hl hc=> ?_) (by kernel_rfl),h3⟩
 rw [h4 l (by
  have hl:l∈ [qN.hs.head (by exact List.cons_ne_nil _ _) |>.1]:=hl
  rw [List.mem_singleton.1 hl]
  decide)]
 exact hc
theorem yj {A Pk:Nat→Prop} {a:ak} {x:Ci.qM} (hin:inR a) (hl:a.Raw.Files.length≤maxLen) (hup:a.Up.length≤maxLen) (hs:a.Raw.Text.size≤200):
  letI:=Ci.oM x.F x.ints
  ∀(σ:Ci.Nm) (w:World) (u v:Value) (_:Held Pk σ Ci.qN.L Ci.qN.n w) (_:qC A w a x) (_:Inv w) (_:∀k,A k→Pk k) (_:∀k,Tab k→Pk k) (_:Ci.VR σ Ci.qN.v u) (_:Ci.VR σ Ci.rU v),
   Calls Tryz.prog 12 #[u,v,.agg (bW a (x.f 14) (x.f 34))] w fun e w'=> ∃cs o' n,e= .returned (.tuple #[.agg cs,o',.int .i64 n])∧cs.size=13∧(∀u∈cs.toList,u.oneCell'=true)∧o'.oneCell'=true∧YR Pk w w'∧(¬gK a∨2≤a.Net∨(a.Kind=0∧2≤a.Raw.Account % 12)→o'= .slice none 0 0∧n=1):=by
 letI:=Ci.oM x.F x.ints
 intro σ w u v hh h hI hA hT hu hv
 obtain ⟨b,rfl,hg,hr,hP⟩:=hh
 have hR:Ci.R b σ Ci.Js Ci.take0 b.w:=hr
 have hvs:Ci.fU σ (Ci.app Ci.opn.args [Ci.rU]) [u,v]:= .cons hu (.cons hv (.nil _))
 have:=take_any hin hl hup hs b h hI (fun k hk=> hP k (hA k hk)) (fun k hk=> hP k (hT k hk)) hg σ b.w [u,v] hR hvs
 rw [adT h] at this
 refine Calls.mono (f:=12) this ?_
 rintro e w' ⟨cs,o',n,rfl,h1,h2,h3,hb,h4⟩
 exact ⟨cs,o',n,rfl,h1,h2,h3,⟨hb.os,hb.tape,hb.output,hb.size,fun k hk=> hb.block k (hP k hk)⟩,h4⟩
theorem RU {w:World} (h:Inv w):Calls Tryz.prog 4 #[] w fun e w'=> e= .returned (.bool true)∧Below w.heap.size w w':=by
 letI:=Ci.TM
 exact Ci.YP w ⟨trivial,Nat.zero_le _⟩ (Vr h)
end
section
open Go.RowKit Go.Shelf
def G5:Array Value:= #[.int .i64 0,o0,o0,o0,o0,o0,o0,o0,o0,o0,o0,o0,o0]
theorem adU:∃i,Tryz.prog.info? 57=some i∧i.zero=some (.agg G5)∧i.size=13:=⟨Tryz.t57,by kernel_rfl,by kernel_rfl,by kernel_rfl⟩
theorem J3:(Tryz.prog.info? 57).map (·.size)=some 13:=by kernel_rfl
theorem Xf:Tryz.prog.built 37 []=some (bW dF o0 o0):=by kernel_rfl
section
variable {ops : Array Oper} {rest : List Oper} {o : Oper} {a : Act} {W : World} {Q : Exit → Act → World → Prop}
theorem Xp (hg:o.guard=none) (ho:o.op= .alloc 57) (h:wpList Tryz.prog ops Q rest (a.put o.dst (.pointer (some ⟨W.heap.size,0,none⟩))) (W.alloc (.cells G5 57))):wpList Tryz.prog ops Q (o::rest) a W:=by
 refine Great.wpList_runTo hg _ rfl _ _ ?_ h
 obtain ⟨i,hi,hz,_⟩:=adU
 simp [execOp,ho,Instr.alloc,zeroValue,typeInfo,hi,hz,newVar,newRow,Value.cells]
theorem yu {K:Act→World→Prop} (ho:o.op= .alloc 57) (h:K (a.put o.dst (.pointer (some ⟨W.heap.size,0,none⟩))) (W.alloc (.cells G5 57))):o.wp Tryz.prog a W K Q:=by
 have hrun:(execOp a.eval o).run Tryz.prog W= .ok (.value (.pointer (some ⟨W.heap.size,0,none⟩))) (W.alloc (.cells G5 57)):=by
  obtain ⟨i,hi,hz,_⟩:=adU
  simp [execOp,ho,Instr.alloc,zeroValue,typeInfo,hi,hz,newVar,newRow,Value.cells]
 unfold Oper.wp
 rw [hrun]
 exact h
theorem Xm (hw:Region.wanted o (yielded ops a.tmps)=true) (ho:o.op= .build 37 #[]) (h:wpList Tryz.prog ops Q rest (a.put o.dst (.agg (bW dF o0 o0))) W):wpList Tryz.prog ops Q (o::rest) a W:=
 Va hw fun K hK=> by
  have hp:((#[]:Array (Nat×Operand)).map fun (i,x)=> (i,a.eval x)).toList= []:=by simp
  refine wp_build 37 #[] ho (by rw [hp,Xf];rfl) ?_
  rw [hp,Xf]
  exact hK _ _ h
theorem Bf {K:Act→World→Prop} {fid:FuncId} {args:Array Operand} {ts:Array TypeId} (ho:o.op= .call ⟨.value (.func fid),args,ts⟩) (hcf:∀(vs:Array Value) (w:World),(callFunc fid vs).run Tryz.prog w= .ok (.enter fid vs) w) {vals:Array Value} (hv:args.map a.eval=vals)
  {R:Ending→World→Prop} (hc:Calls Tryz.prog fid vals W R) (hR:∀e w',R e w'→∃v,e= .returned v∧K (a.put o.dst v) w'):o.wp Tryz.prog a W K Q:=by
 have hrun:(execOp a.eval o).run Tryz.prog W= .ok (.enter fid vals) W:=by
  unfold execOp
  simp only [ho]
  show (callFunc fid (#[] ++ args.map a.eval ++ #[])).run Tryz.prog W=_
  rw [hv,Array.empty_append,Array.append_empty]
  exact hcf _ _
 unfold Oper.wp
 rw [hrun]
 show Calls Tryz.prog _ _ W _
 refine hc.mono ?_
 intro e w' h
 obtain ⟨v,rfl,h2⟩:=hR e w' h
 exact h2
end
theorem alG {W:World} {b:Nat} {C:Array Value} (h:W.heap[b]? =some (.cells C 57 (0,0))) (hC:C.size=13):(Instr.loadAt 57 (.pointer (some ⟨b,0,none⟩))).run Tryz.prog W= .ok (.agg C) W:=by
 have hr:W.rangeAt b 0 C.toList:=fun j v hv=> by
  rw [cell_of_row _ _ _ C 57 (0,0) h,Nat.zero_add,←hv]
  simp
 have:=run_loadAt_mid W b 0 57 C.toList _ hr Tryz.underlying57 rfl (by rw [Array.length_toList,hC];kernel_rfl)
 simpa using this
theorem aaF {o:Oper} {a:Act} {W:World} (x:Operand) (ho:o.op= .load 57 x) {C:Array Value} {b:Nat} (hx:a.eval x= .pointer (some ⟨b,0,none⟩)) (h:W.heap[b]? =some (.cells C 57 (0,0))) (hC:C.size=13):(execOp a.eval o).run Tryz.prog W= .ok (.value (.agg C)) W:=by
 unfold execOp
 simp only [ho,hx,Sem.run_bind,alG h hC,Result.andThen_ok,Sem.run_pure]
theorem pV {C:Array Value} {cs:Array Value} (h:cs.size=C.size):KF C 0 cs.toList=cs:=by
 unfold KF
 rw [List.take_zero,List.nil_append,List.drop_eq_nil_of_le (by simp;omega),List.append_nil]
theorem l7 {W:World} (o:Obj) (D:Array Value):Below W.heap.size W ((W.alloc o).setRow W.heap.size D):=below_setRow (bC W o) (Nat.le_refl _) D
structure LX (w:World) (C:Array Value) (W:World):Prop where
 below:Below w.heap.size w W
 box:W.heap[w.heap.size]? =some (.cells C 37 (0,0))
structure LY (yb:Nat) (b:ak) (fv uv:Value) (W:World):Prop where
 box:W.heap[yb]? =some (.cells (bW b fv uv) 37 (0,0))
 rf:aV (fun k=> k < W.heap.size) W (.fz (b.Raw.Files.map (encI .i64))) fv
 ru:aV (fun k=> k < W.heap.size) W (.fz (b.Up.map jo)) uv
theorem sJ {W W':World} {x:D} {v:Value} (h:aV (fun k=> k < W.heap.size) W x v) (hb:Below W.heap.size W W'):aV (fun k=> k < W'.heap.size) W' x v:=h.mono (fun _ hk=> Nat.lt_of_lt_of_le hk hb.size) fun k hk=> hb.block k hk
section
variable {w W W' : World} {C cs : Array Value} {yb Ih : Nat} {b : ak} {fv uv : Value}
theorem LX.next (h:LX w C W) (hb:Below W.heap.size W W'):LX w C W':=⟨h.below.trans (hb.mono h.below.size),(hb.block _ (lt_of_block h.box)).trans h.box⟩
theorem LX.inv (h:LX w C W) (hI:Inv w):Inv W:=mP hI h.below
theorem LX.rel (h:LX w C W) {x:D} {v:Value} (hx:aV (fun k=> k < w.heap.size) w x v):aV (fun k=> k < W.heap.size) W x v:=sJ hx h.below
theorem LY.next (h:LY yb b fv uv W) (hb:Below W.heap.size W W'):LY yb b fv uv W':=⟨(hb.block _ (lt_of_block h.box)).trans h.box,sJ h.rf hb,sJ h.ru hb⟩
theorem LY.new (hf:aV (fun k=> k < W.heap.size) W (.fz (b.Raw.Files.map (encI .i64))) fv) (hu:aV (fun k=> k < W.heap.size) W (.fz (b.Up.map jo)) uv):LY W.heap.size b fv uv ((W.alloc (.cells (bW dF o0 o0) 37)).setRow W.heap.size (bW b fv uv)):=
 ⟨setRow_heap _ _ _ _ 37 (0,0) (heap_alloc_new W _),sJ hf (l7 _ _),sJ hu (l7 _ _)⟩
structure L2 (w:World) (C:Array Value) (Ih:Nat) (cs:Array Value) (W:World):Prop where
 x:LX w C W
 st:W.heap[Ih]? =some (.cells cs 57 (0,0))
 lo:w.heap.size < Ih
theorem L2.next (h:L2 w C Ih cs W) (hb:Below W.heap.size W W'):L2 w C Ih cs W':=⟨h.x.next hb,(hb.block _ (lt_of_block h.st)).trans h.st,h.lo⟩
theorem L2.fr {Pk:Nat→Prop} (h:L2 w C Ih cs W) (hf:YR Pk W W') (hP:∀k,k≤w.heap.size→Pk k) (hs:Pk Ih):L2 w C Ih cs W':=
 ⟨⟨⟨hf.os.trans h.x.below.os,hf.tape.trans h.x.below.tape,hf.output.trans h.x.below.output,Nat.le_trans h.x.below.size hf.size,fun k hk=> (hf.block k (hP k (Nat.le_of_lt hk))).trans (h.x.below.block k hk)⟩,(hf.block _ (hP _ (Nat.le_refl _))).trans h.x.box⟩,(hf.block _ hs).trans h.st,h.lo⟩
theorem L2.put (h:L2 w C Ih cs W) {g:Nat} (D:Array Value) (hg:Ih < g):L2 w C Ih cs (W.setRow g D):=by
 have hlo:=h.lo
 have ho:=Ob.setRow g D W
 exact ⟨⟨nO h.x.below ho (by omega),(ho.block _ (lt_of_block h.x.box) (by omega)).trans h.x.box⟩,(ho.block _ (lt_of_block h.st) (by omega)).trans h.st,hlo⟩
theorem L2.drew (h:L2 w C Ih cs W):L2 w C Ih cs W.drew:=⟨⟨⟨h.x.below.os,h.x.below.tape,h.x.below.output,h.x.below.size,h.x.below.block⟩,h.x.box⟩,h.st,h.lo⟩
end
theorem ajm {a:ak} {c:Bool} (hc:pO a=some c) {W:World} {fv uv:Value} (hI:Inv W) (hf:aV (fun b=> b < W.heap.size) W (.fz (a.Raw.Files.map (encI .i64))) fv) (hu:aV (fun b=> b < W.heap.size) W (.fz (a.Up.map jo)) uv):
  Calls Tryz.prog 5 #[.agg (bW a fv uv)] W fun e W'=> e= .returned (.bool c)∧Below W.heap.size W W':=xU (NK hc) hI (fun _ h=> h) (.cons (xY hf hu) (.nil _))
theorem Vq {a b:ak} {c:Bool} (hc:nM a b=some c) {W:World} {fv uv gv vv:Value} (hI:Inv W) (hf:aV (fun b=> b < W.heap.size) W (.fz (a.Raw.Files.map (encI .i64))) fv) (hu:aV (fun b=> b < W.heap.size) W (.fz (a.Up.map jo)) uv)
  (hg:aV (fun b=> b < W.heap.size) W (.fz (b.Raw.Files.map (encI .i64))) gv) (hv:aV (fun b=> b < W.heap.size) W (.fz (b.Up.map jo)) vv):
  Calls Tryz.prog 9 #[.agg (bW a fv uv),.agg (bW b gv vv)] W fun e W'=> e= .returned (.bool c)∧Below W.heap.size W W':=xU (Ia hc) hI (fun _ h=> h) (.cons (xY hf hu) (.cons (xY hg hv) (.nil _)))
theorem aju {n r:Int} (hc:pR n=some r) {W:World} (hI:Inv W):Calls Tryz.prog 13 #[.int .i64 n] W fun e W'=> e= .returned (.int .i64 r)∧Below W.heap.size W W':=by
 refine ((NM (dr:=False) hc).2 W (fun k=> k < W.heap.size) #[.int .i64 n] hI (fun _ h=> h) (.cons (.d (.v _ rfl)) (.nil _))).mono ?_
 rintro e W' ⟨v,S',bs,rfl,hb,_,hres,_,_⟩
 obtain ⟨b,_,h1⟩:=hres
 have hrel:aV S' W' (.v (.int .i64 r)) v:=h1.1
 rw [fG hrel]
 exact ⟨rfl,hb.toBelow⟩
theorem Bd {a:ak} (hr:gK a):readA (iH a)=a∧jQ (iH a)=0:=by
 have e:readB (iH a)=true:=by
  unfold readB
  rw [JW a hr]
  simp only [@decide_eq_true _ (Classical.propDecidable _) hr,beq_self_eq_true,JR,Bool.and_self]
 unfold readA jQ
 rw [e,JW a hr]
 exact ⟨rfl,rfl⟩
theorem Ie:readA []=dF∧jQ []=2:=by
 have e:readB []=false:=by
  unfold readB
  rw [adO]
  rfl
 unfold readA jQ
 rw [e]
 exact ⟨rfl,rfl⟩
theorem RV (t:List UInt8) (ht:t.length≤1000000):(jQ t=0∧gK (readA t)∧fO (readA t)=some true∧cZ (readA t)=some ⟨t.toArray⟩)∨(jQ t=2∧readA t=dF):=by
 cases hB:readB t with
 | false=> exact .inr (by unfold readA jQ;rw [hB];exact ⟨rfl,rfl⟩)
 | true=>
  left
  have eA:readA t=(nJ t).1:=by unfold readA;rw [hB];rfl
  have eE:jQ t=0:=by unfold jQ;rw [hB];rfl
  have h:=hB
  unfold readB at h
  rw [Bool.and_eq_true,Bool.and_eq_true] at h
  obtain ⟨_,h1,h2⟩:=h
  have hr:= @of_decide_eq_true _ (Classical.propDecidable _) h1
  have ht2:=eq_of_beq h2
  have hok:=Xg (rN (some t)).1 (zq _) (rN (some t)).2 (Nat.le_trans (vJ (some t)) ht)
  have e:jl (rN (some t)).1 (rN (some t)).2=nJ t:=rfl
  rw [e] at hok
  obtain ⟨hin,hfl,Xl⟩:=hok
  obtain ⟨c,hc,hcr⟩:=right_eq (nJ t).1 hin (by unfold maxLen;omega) (by unfold maxLen;omega)
  have hx:=(text_eq (nJ t).1 hin (by unfold maxLen;omega) (by unfold maxLen;omega)).1 hr
  rw [eA]
  rw [hcr.2 hr] at hc
  rw [ht2] at hx
  exact ⟨eE,hr,hc,hx⟩
end
end Go.Proofs.YtnegekppaoedgaaGreatDoor

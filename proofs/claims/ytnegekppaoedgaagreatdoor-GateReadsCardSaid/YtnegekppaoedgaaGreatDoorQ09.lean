/-
Running code on constants: what changes the memory, by the call of a builtin. Over any program.
-/
import Derived.Test.YtnegekppaoedgaaGreatDoorQ08
import Derived.Lib.UnsafeStr
import Derived.Tactics
import Derived.Deep.LoopGhost
import Derived.Orders
set_option linter.all false
namespace Go.Proofs.YtnegekppaoedgaaGreatDoor
namespace Ci
open Go.RowKit
variable [fE]
section
variable {P : Program} {σ : Nm} {E : Tr CV} {ρ : Operand → Value} {w : World} {w0 : Base} {H : Tr aP} {nx : Nat}
theorem R.gone {w':World} {l:Nat} {c:Loc} {b:aP} (h:R w0 σ H nx w) (hl:σ l=some c) (hH:H.get l=some b) (ho:w'.os=w.os) (ht:w'.tape=w.tape) (hp:w'.output=w.output) (hsz:w'.heap.size=w.heap.size)
  (hw:∀k,k≠c.blk→w'.heap[k]? =w.heap[k]?):R w0 σ (H.del l) nx w':=by
 have hlo:=h.lo l c hl
 have up:∀l1 b1,(H.del l).get l1=some b1→l1≠l∧H.get l1=some b1:=by
  intro l1 b1 g
  rw [AP] at g
  by_cases he:l1=l
  ·rw [if_pos he] at g;cases g
  ·rw [if_neg he] at g;exact ⟨he,g⟩
 refine ⟨⟨by rw [ho];exact h.below.os,by rw [ht];exact h.below.tape,by rw [hp];exact h.below.output,by rw [hsz];exact h.below.size,fun k hk=> by rw [hw k (fun e=> hlo.1 (e ▸ hk))];exact h.below.block k hk⟩,fun l' c' b2 hl' hb2=> ?_,fun l' c' hl'=> by rw [hsz];exact h.lo l' c' hl',fun l1 l2 c1 c2 b1 b2 h1 h2 g1 g2 e=> ?_,h.fresh⟩
 ·obtain ⟨he,hb2⟩:=up l' b2 hb2
  exact (h.blk l' c' b2 hl' hb2).mono (.refl σ) (hw _ fun e=> he (h.sep l' l c' c b2 b hl' hl hb2 hH e))
 ·exact h.sep l1 l2 c1 c2 _ _ h1 h2 (up l1 b1 g1).2 (up l2 b2 g2).2 e
theorem Tt {β:Type} {x:CV} {f:Nat→Option β} {r:β} (h:Il x f=some r):∃n,x= .v (.int .i64 (Int.ofNat n))∧f n=some r:=by
 obtain ⟨y,rfl,h1⟩:=rH h
 split at h1
 ·rename_i k n
  obtain ⟨h2,h3⟩:=aC h1
  rw [mZ h2]
  cases n with
  | ofNat n=> exact ⟨n,rfl,h3⟩
  | negSucc n=> cases h3
 ·cases h1
theorem aku (hs:R w0 σ H nx w) {ty:TypeId} {ts:Array TypeId} {a:CV} {va:Value} (ha:VR σ a va) {v:CV} {H':Tr aP} {nx':Nat} (h:abO a H nx= .ok v H' nx'):∃x,(Builtin.unsafeSliceData_ ts ty #[va]).run P w= .ok x w∧After w0 σ nx v H' nx' x w:=by
 unfold abO at h
 split at h
 ·rename_i y
  obtain ⟨h1,h2⟩:=ig h
  obtain ⟨rfl,rfl,rfl⟩:=bU h2
  rw [ha.val,mJ h1]
  exact ⟨_,Lib.run_unsafeSliceData_nil ..,.same hs (.v _ rfl)⟩
 ·rename_i l o n c
  obtain ⟨h1,h2⟩:=ig h
  obtain ⟨rfl,rfl,rfl⟩:=bU h2
  have h1:=aN h1
  obtain ⟨lc,hl,A,cap,rfl,e2,e3,_,_⟩:=ha.sv
  rcases e3 with e3 | ⟨e3,_⟩
  ·subst e3
   exact ⟨_,Lib.run_unsafeSliceData_row _ _ _ _ _ _ (by omega),.same hs (.p o hl)⟩
  ·omega
 ·cases h
theorem acd {c:CV} {b:Nat} (h:byN c=some b):c= .v (.int .u8 (Int.ofNat b))∧b < 256:=by
 unfold byN at h
 split at h
 ·rename_i y
  split at h
  ·rename_i k n
   obtain ⟨h1,h2⟩:=aC h
   rw [mZ h1]
   cases n with
   | ofNat n=>
    obtain ⟨h3,h4⟩:=aC (show fP (Nat.ble n 255) (some n)=some b from h2)
    injection h4 with h4
    subst h4
    exact ⟨rfl,Nat.lt_succ_of_le (aN h3)⟩
   | negSucc n=> cases h2
  ·cases h
 ·cases h
theorem Qi:∀{cs:List CV} {bs:List Nat},byL cs=some bs→bs.length=cs.length∧(∀b∈bs,b < 256)∧∀(j b:Nat),bs[j]? =some b→cs[j]? =some (.v (.int .u8 (Int.ofNat b)))
 | [],bs,h=> by
  injection (show some []=some bs from h) with h
  subst h
  exact ⟨rfl,(fun b hb=> by cases hb),fun j b hb=> by simp at hb⟩
 | c::cs,bs,h=> by
  obtain ⟨b,h1,h2⟩:=aj (show ob (byN c) _=some bs from h)
  obtain ⟨bs',h3,h4⟩:=aj h2
  injection h4 with h4
  subst h4
  obtain ⟨k1,k2,k3⟩:=Qi h3
  obtain ⟨q1,q2⟩:=acd h1
  refine ⟨by simp [k1],fun x hx=> ?_,fun j x hx=> ?_⟩
  ·rcases List.mem_cons.1 hx with rfl | hx
   ·exact q2
   ·exact k2 x hx
  ·cases j with
   | zero=>
    simp at hx ⊢
    rw [q1,hx]
    rfl
   | succ j=> simpa using k3 j x (by simpa using hx)
theorem xu (w:World) (a:Addr) (n k:Nat) (h:k≠a.block):(w.freeze a n).heap[k]? =w.heap[k]? :=by
 unfold World.freeze
 split
 ·rfl
 ·show (w.heap.modify a.block _)[k]? =_
  rw [Array.getElem?_modify,if_neg (Ne.symm h)]
theorem zO (w:World) (a:Addr) (n:Nat):(w.freeze a n).os=w.os∧(w.freeze a n).tape=w.tape∧(w.freeze a n).output=w.output∧(w.freeze a n).drawn=w.drawn∧(w.freeze a n).heap.size=w.heap.size:=by
 unfold World.freeze
 split
 ·exact ⟨rfl,rfl,rfl,rfl,rfl⟩
 ·exact ⟨rfl,rfl,rfl,rfl,by simp⟩
theorem afN {t T:TypeId} {c:Loc} {n:Nat} {k:Kd} (h:anJ t k=true) (hk:afq T c n k):T=t∧c.off=0:=by
 cases k with
 | any=> cases h
 | of e=>
  obtain ⟨h1,h2⟩:=hk
  exact ⟨h1.trans (ay h),h2⟩
 | whole e=>
  obtain ⟨h1,h2,_⟩:=hk
  exact ⟨h1.trans (ay h),h2⟩
theorem anY (hs:R w0 σ H nx w) {t it ty:TypeId} {a b:CV} {va vb:Value} (ha:VR σ a va) (hb:VR σ b vb) {v:CV} {H':Tr aP} {nx':Nat} (h:eStr P H nx t a b= .ok v H' nx'):∃x w',(Builtin.unsafeString_ #[t,it] ty #[va,vb]).run P w= .ok x w'∧After w0 σ nx v H' nx' x w':=by
 obtain ⟨e,h1,h2⟩:=fA h
 obtain ⟨n,h3,h4⟩:=fA h2
 obtain ⟨n',rfl,h5⟩:=Tt h3
 injection h5 with h5
 subst h5
 have hp:P.underlying t=some (.pointer e):=by
  obtain ⟨d,q1,q2⟩:=aj h1
  split at q2
  ·injection q2 with q2
   rw [←q2]
   exact q1
  ·cases q2
 rw [hb.val]
 split at h4
 ·rename_i q
  obtain ⟨h6,h7⟩:=ig h4
  obtain ⟨h8,h9⟩:=ig h7
  obtain ⟨rfl,rfl,rfl⟩:=bU h9
  have h8:=ay h8
  subst h8
  have hq:q= .pointer none:=by
   unfold Di at h6
   split at h6
   ·rfl
   ·cases h6
  rw [ha.val,hq]
  exact ⟨.string .empty,w,rfl,.same hs (.t [] fun b hb=> by cases hb)⟩
 ·rename_i l o
  obtain ⟨h6,h7⟩:=ig h4
  obtain ⟨k1,k2⟩:=and_true h6
  have k1:=aN k1
  have k2:=ay k2
  subst k2
  unfold aii at h7
  obtain ⟨h8,h9⟩:=ig h7
  obtain ⟨m1,m2⟩:=and_true h8
  obtain ⟨m2,m3⟩:=and_true m2
  have m2:=ay m2
  have m3:=aN m3
  obtain ⟨cs,h10,h11⟩:=fA h9
  obtain ⟨h12,h13⟩:=ig h11
  obtain ⟨bs,La,h15⟩:=fA h13
  obtain ⟨rfl,rfl,rfl⟩:=bU h15
  have h12:=aN h12
  rw [len_eq] at h12
  rw [kF] at La
  obtain ⟨kd,hH⟩:=ji h10
  rw [KZ hH] at m1
  obtain ⟨c,hl,hva⟩:=ha.pv
  obtain ⟨vals,T,g1,g2,g3,gk,g4⟩:=hs.blk l c _ hl hH
  obtain ⟨q1,q2⟩:=afN m1 gk
  subst q1
  obtain ⟨r1,r2,r3⟩:=Qi La
  have hbl:bs.length=n':=by rw [r1];simp;omega
  have hcl:∀j,w.cell? ⟨c.blk,j,none⟩=vals[j]? :=fun j=> cell_of_row _ _ _ vals T (0,0) g1
  have hrun:=Lib.run_unsafeString_row (P:=P) w t it ty T hp m2 c.blk vals.size (by simp [World.shape?,g1]) (bs.map UInt8.ofNat) (by intro e;have:=congrArg List.length e;simp at this;rw [this] at hbl;simp at hbl;omega) (by simp;omega) (by simp;omega) fun j x hx=> by
   rw [List.getElem?_map] at hx
   cases hbj:bs[j]? with
   | none=> rw [hbj] at hx;cases hx
   | some y=>
    rw [hbj] at hx
    injection hx with hx
    have hcj:=r3 j y hbj
    rw [List.getElem?_take] at hcj
    split at hcj
    ·obtain ⟨u,a1,a2,_⟩:=g4 j _ hcj
     rw [add_eq,Nat.zero_add,hcl]
     rw [q2,Nat.zero_add] at a1
     rw [a1,a2.val,←hx]
     have:=r2 y (List.mem_of_getElem? hbj)
     have e2:(UInt8.ofNat y).toNat=y:=by simp;omega
     rw [e2]
     rfl
    ·cases hcj
  have e1:va= .pointer (some ⟨c.blk,0,none⟩):=by rw [hva,q2]
  rw [e1]
  have e2:(Value.int .i64 (Int.ofNat n'))= .int .i64 ((bs.map UInt8.ofNat).length:Int):=by simp [hbl]
  rw [e2]
  obtain ⟨f1,f2,f3,_,f5⟩:=zO w ⟨c.blk,0,none⟩ (bs.map UInt8.ofNat).length
  exact ⟨_,_,hrun,.same (hs.gone hl hH f1 f2 f3 f5 fun k hk=> xu _ _ _ _ hk) (.t bs r2)⟩
 ·cases h4
theorem DI (zs:Array Value) (n:Nat):Builtin.zeroCells zs n=madeCells zs (n * zs.size):=rfl
theorem afO (hs:R w0 σ H nx w) {t ty:TypeId} {a:CV} {va:Value} (ha:VR σ a va) {ts:Array TypeId} (ht:ts[0]? =some t) {v:CV} {H':Tr aP} {nx':Nat} (h:abR P H nx t a= .ok v H' nx'):
  ∃x w',(Builtin.clear_ ts ty #[va]).run P w= .ok x w'∧After w0 σ nx v H' nx' x w':=by
 obtain ⟨e,h1,ha1⟩:=fA h
 obtain ⟨z,h2,ha2⟩:=fA ha1
 obtain ⟨z0,h3,ha3⟩:=fA ha2
 obtain ⟨h40,ha4⟩:=ig ha3
 clear h ha1 ha2 ha3
 have h:=ha4
 clear ha4
 obtain ⟨h4,h5⟩:=and_true h40
 have h4:=ay h4
 have h5:=aN h5
 rw [len_eq] at h4
 have hu:=jA h1
 unfold VT at h
 split at h
 ·rename_i y
  obtain ⟨h6,h7⟩:=ig h
  obtain ⟨rfl,rfl,rfl⟩:=bU h7
  refine ⟨.tuple #[],w,?_,.same hs (.unit σ)⟩
  rw [ha.val,mJ h6]
  simp [Builtin.clear_,ht,run_underlying hu]
 ·rename_i l o n c
  obtain ⟨lc,hl,A,cap,rfl,q2,q3,_,_⟩:=ha.sv
  cases hn:Nat.beq n 0
  ·rw [hn] at h
   have hpos:n≠0:=fun e=> by rw [e] at hn;cases hn
   obtain ⟨cs,h6,h7⟩:=fA (show oR (cellsOf H l) _=dG.ok v H' nx' from h)
   obtain ⟨h8,h9⟩:=ig h7
   have h8:o + n * z≤len cs:=aN h8
   rw [len_eq] at h8
   obtain ⟨rfl,rfl,rfl⟩:=bU h9
   obtain ⟨kd,hH⟩:=ji h6
   obtain ⟨vals,T,g1,g2,g3,gk,g4⟩:=hs.blk l lc _ hl hH
   obtain ⟨zv,z1,z2,z3⟩:=mG h3 σ w
   have hzs:zv.cells.size=z:=by have:=z2.1;simp at this;omega
   have hr:=DF z2 n
   rw [h4] at hr
   rw [←hzs,←DI] at hr
   have ait:=tK z3 n
   have hlen:(Aq z0 n).length=n * z:=by rw [xk,h4]
   have hA:A=⟨lc.blk,lc.off + o,none⟩:=q3.elim id fun h=> absurd h.1 hpos
   subst hA
   have hst:=run_storeCells_at P lc.blk (lc.off + o) T (Builtin.zeroCells zv.cells n).toList 0 vals w g1 (by
    have:=hr.1
    rw [hlen] at this
    rw [this]
    omega) (hr.ones ait)
   simp only [Nat.add_zero] at hst
   refine ⟨.tuple #[],_,?_,.same (xq hs (o:=o) hl hH g1 hr ait (by rw [hlen];exact h8)) (.unit σ)⟩
   obtain ⟨n',rfl⟩:∃n',n=n' + 1:=⟨n - 1,by omega⟩
   simp [Builtin.clear_,ht,run_underlying hu,z1,hst,over]
  ·rw [hn] at h
   have hn:=ay hn
   subst hn
   obtain ⟨rfl,rfl,rfl⟩:=bU (show dG.ok (.bH []) H nx=dG.ok v H' nx' from h)
   refine ⟨.tuple #[],w,?_,.same hs (.unit σ)⟩
   simp [Builtin.clear_,ht,run_underlying hu]
 ·cases h
theorem Tv {α:Type}:∀(i:Nat) (l:List α),rmv i l=l.eraseIdx i
 | 0,[]=> rfl
 | 0,_::_=> rfl
 | _ + 1,[]=> rfl
 | i + 1,x::l=> by
  show x::rmv i l=_
  rw [Tv i l,List.eraseIdx_cons_succ]
theorem anZ (hs:R w0 σ H nx w) {t ty:TypeId} {a b:CV} {va vb:Value} (ha:VR σ a va) (hb:VR σ b vb) {ts:Array TypeId} (ht:ts[0]? =some t) {v:CV} {H':Tr aP} {nx':Nat} (h:anK P H nx t a b= .ok v H' nx'):
  ∃x w',(Builtin.delete_ ts ty #[va,vb]).run P w= .ok x w'∧After w0 σ nx v H' nx' x w':=by
 obtain ⟨H1,h1,h2⟩:=fA h
 obtain ⟨rfl,rfl,rfl⟩:=bU h2
 obtain ⟨kt,et,hu,h3⟩:=wV h1
 obtain ⟨l,rfl,h4⟩:=wS h3
 obtain ⟨b0,h5,h6⟩:=aj h4
 obtain ⟨es,bs,ck,rfl,h6⟩:∃es bs ck,b0= .mp es bs ck∧(ob (Dl P kt (kD es) b es) fun r=> some (@Option.rec (Nat×Value) (fun _=> Tr aP) (H.put l (.mp es bs ck)) (fun q=> H.put l (.mp (rmv q.1 es) (rmv q.1 bs) ck)) r))=some H1:=by
  cases b0 with
  | cl=> cases h6
  | it=> cases h6
  | mu=> cases h6
  | mp es bs ck=> exact ⟨es,bs,ck,rfl,h6⟩
 obtain ⟨r,h7,h8⟩:=aj h6
 injection h8 with h8
 cases ha with
 | m hl=>
  rename_i lc
  obtain ⟨ents,g1,g2,gb,g3,g4⟩:=hs.blk l lc _ hl h5
  obtain ⟨f1,r',f2,f3,f4⟩:=Dz (ents:=ents.toList) hb (by simpa using g3) (fun j p e hp he=> (g4 j p e hp (by simpa using he)).1) h7 w
  have hE:ents.isEmpty=kD es:=by
   rw [Jg]
   cases es with
   | nil=>
    have:ents= #[]:=Array.eq_empty_of_size_eq_zero (by simpa using g3)
    rw [this]
    rfl
   | cons p r=>
    have:ents.isEmpty=false:=by
     rw [Array.isEmpty_eq_false_iff]
     intro e
     rw [e] at g3
     simp at g3
    rw [this]
    rfl
  have fin:∀(lN:Array MapEntry) (es':List (CV×CV)) (bs':List Nat),H1=H.put l (.mp es' bs' ck)→lN.toList.map (·.born)=bs'→MapKept.Stamped lN ck→lN.size=es'.length→
    (∀(j:Nat) (p:CV×CV) (e:MapEntry),es'[j]? =some p→lN[j]? =some e→VR σ p.1 e.key∧VR σ p.2 e.val)→After w0 σ nx (.bH []) H1 nx (.tuple #[]) {w with heap:=w.heap.setIfInBounds lc.blk (.map lN ck)}:=by
   intro lN es' bs' e1 e2 e3 e4 e5
   have hset:=MapKept.heap_set (o':= .map lN ck) g1
   rw [e1]
   exact .same (hs.upd hl h5 rfl rfl rfl (by simp) hset.2 ⟨lN,hset.1,e3,e2,e4,e5⟩) (.unit σ)
  cases r with
  | none=>
   have hr':r'=none:=by
    cases r' with
    | none=> rfl
    | some q=> cases f3
   subst hr'
   refine ⟨_,_,?_,fin ents es bs h8.symm gb g2 g3 g4⟩
   simp [Builtin.delete_,ht,run_underlying hu,MapKept.run_getObj_map g1,hE,f1,f2,MapKept.run_setObj_map _ g1,Result.andThen]
  | some q=>
   cases r' with
   | none=> cases f3
   | some q'=>
    obtain ⟨j,vv⟩:=q'
    have hj:j=q.1:=by simpa using f3
    subst hj
    have h8:H.put l (.mp (rmv q.1 es) (rmv q.1 bs) ck)=H1:=h8
    rw [Tv,Tv] at h8
    have hlt:q.1 < ents.size:=by
     obtain ⟨e,he,_⟩:=f4 q.1 vv rfl
     have:=(List.getElem?_eq_some_iff.1 he).1
     simpa using this
    have hel:(ents.eraseIdxIfInBounds q.1).toList=ents.toList.eraseIdx q.1:=by
     unfold Array.eraseIdxIfInBounds
     rw [dif_pos hlt,Array.toList_eraseIdx]
    refine ⟨_,_,?_,fin (ents.eraseIdxIfInBounds q.1) (es.eraseIdx q.1) (bs.eraseIdx q.1) h8.symm ?_ (MapKept.stamped_erase g2 q.1) ?_ fun j' p' e' hp he=> ?_⟩
    ·simp [Builtin.delete_,ht,run_underlying hu,MapKept.run_getObj_map g1,hE,f1,f2,MapKept.run_setObj_map _ g1,Result.andThen]
    ·rw [hel,←gb]
     apply List.ext_getElem?
     intro z
     rw [List.getElem?_map,List.getElem?_eraseIdx,List.getElem?_eraseIdx]
     split <;> rw [List.getElem?_map]
    ·have:(ents.eraseIdxIfInBounds q.1).size=(ents.toList.eraseIdx q.1).length:=by rw [←hel,Array.length_toList]
     rw [this,List.length_eraseIdx,List.length_eraseIdx,←g3]
     simp
    ·have he:(ents.toList.eraseIdx q.1)[j']? =some e':=by rw [←hel,Array.getElem?_toList];exact he
     rw [List.getElem?_eraseIdx] at hp he
     split at hp
     ·rename_i hlt'
      rw [if_pos hlt'] at he
      exact g4 j' p' e' hp (by simpa using he)
     ·rename_i hge
      rw [if_neg hge] at he
      exact g4 (j' + 1) p' e' hp (by simpa using he)
theorem afP (hs:R w0 σ H nx w) {t:TypeId} {x:Operand} (hev:yg σ E ρ #[x]) {v:CV} {H':Tr aP} {nx':Nat} (h:abP P E H nx t x= .ok v H' nx'):∃y w',(Instr.range t (ρ x)).run P w= .ok y w'∧After w0 σ nx v H' nx' y w':=by
 obtain ⟨_,h1,h2⟩:=fA h
 obtain ⟨kt,et,hu,_⟩:=wV h1
 obtain ⟨c,h3,h4⟩:=fA h2
 have hv:=hev x (by simp) _ h3
 have hn:=hs.none
 have fin:∀(o:Obj) (b:aP),H'=H.put nx b→nx'=nx + 1→v= .p nx 0→fH (um σ nx ⟨w.heap.size,0,0⟩) (w.alloc o) ⟨w.heap.size,0,0⟩ b→After w0 σ nx v H' nx' (.pointer (some ⟨w.heap.size,0,none⟩)) (w.alloc o):=by
  rintro o b rfl rfl rfl hb
  exact ⟨_,jg _ hn,fun l hl=> lu σ _ (by omega),hs.new hn (Nat.lt_succ_self _) (Nat.le_succ _) (dR _ _ _) (fun j hj=> dK _ _ hj) o hb,Nat.le_succ _,.p 0 (jS _ _ _)⟩
 unfold VQ at h4
 split at h4
 ·rename_i y
  obtain ⟨h5,h6⟩:=ig h4
  obtain ⟨rfl,rfl,rfl⟩:=bU h6
  have hy:y= .map none:=by
   unfold Dj at h5
   split at h5
   ·rfl
   ·cases h5
  refine ⟨_,_,?_,fin (.mapIter none 0 #[] 0) _ rfl rfl rfl ⟨rfl,rfl,rfl,rfl,heap_alloc_new w _⟩⟩
  rw [hv.val,hy]
  simp [Instr.range,run_underlying hu]
 ·rename_i l
  obtain ⟨b,h5,h6⟩:=fA h4
  obtain ⟨ck,h7,h8⟩:=fA h6
  obtain ⟨rfl,rfl,rfl⟩:=bU h8
  obtain ⟨es,bs,rfl⟩:∃es bs,b= .mp es bs ck:=by
   cases b with
   | cl=> cases h7
   | it=> cases h7
   | mu=> cases h7
   | mp es bs k=>
    injection (show some k=some ck from h7) with h7
    exact ⟨es,bs,by rw [h7]⟩
  generalize ρ x=vx at *
  cases hv with
  | m hl=>
   rename_i lc
   obtain ⟨ents,g1,g2,gb,g3,g4⟩:=hs.blk l lc _ hl h5
   have hne:l≠nx:=by have:=hs.fresh l lc hl;omega
   refine ⟨_,_,?_,fin (.mapIter (some lc.blk) ck #[] ck) _ rfl rfl rfl ⟨lc,by rw [lu σ _ hne];exact hl,rfl,heap_alloc_new w _⟩⟩
   simp [Instr.range,run_underlying hu,MapKept.run_getObj_map g1]
 ·cases h4
theorem DJ {seen:List Nat}:∀{es:List (CV×CV)} {ents:List MapEntry},ents.length=es.length→(lV seen es (ents.map (·.born))).map (fun p=> p.2.2)=(ents.filter fun e=> !seen.contains e.born).map (·.born)∧
  ∀p∈lV seen es (ents.map (·.born)),∃(j:Nat) (q:CV×CV) (e:MapEntry),es[j]? =some q∧ents[j]? =some e∧p=(q.1,q.2,e.born)
 | [],[],_=> ⟨rfl,fun p hp=> by cases hp⟩
 | [],_::_,h=> by simp at h
 | _::_,[],h=> by simp at h
 | q::es,e::ents,h=> by
  have hany:∀l:List Nat,afg e.born l=l.contains e.born:=by
   intro l
   induction l with
   | nil=> rfl
   | cons y l ih=>
    show bG (Nat.beq e.born y) true (afg e.born l)=_
    rw [List.contains_cons,ih]
    cases hb:Nat.beq e.born y
    ·have:(e.born==y)=false:=by
      cases hq:(e.born==y)
      ·rfl
      ·rw [eq_of_beq hq] at hb
       simp at hb
     rw [this]
     rfl
    ·have:(e.born==y)=true:=by
      rw [ay hb]
      simp
     rw [this]
     rfl
  obtain ⟨i1,i2⟩:=DJ (seen:=seen) (es:=es) (ents:=ents) (by simpa using h)
  have hq:lV seen (q::es) ((e::ents).map (·.born))=bG (afg e.born seen) (lV seen es (ents.map (·.born))) ((q.1,q.2,e.born)::lV seen es (ents.map (·.born))):=rfl
  have lift:∀p∈lV seen es (ents.map (·.born)),∃(j:Nat) (q':CV×CV) (e':MapEntry),(q::es)[j]? =some q'∧(e::ents)[j]? =some e'∧p=(q'.1,q'.2,e'.born):=fun p hp=> by
   obtain ⟨j,q',e',a1,a2,a3⟩:=i2 p hp
   exact ⟨j + 1,q',e',by simpa using a1,by simpa using a2,a3⟩
  rw [hq,List.filter_cons,hany]
  cases hb:seen.contains e.born
  ·refine ⟨?_,?_⟩
   ·show e.born::(lV seen es (ents.map (·.born))).map _=_
    rw [i1]
    simp
   ·intro p hp
    rcases List.mem_cons.1 hp with rfl | hp
    ·exact ⟨0,q,e,rfl,rfl,rfl⟩
    ·exact lift p hp
  ·exact ⟨by simpa using i1,lift⟩
theorem akv (hs:R w0 σ H nx w) {ty:TypeId} {x:Operand} {s:Bool} (hev:yg σ E ρ #[x]) {v:CV} {H':Tr aP} {nx':Nat} (h:abQ E H nx x s= .ok v H' nx'):∃y w',(Instr.next (ρ x) s ty).run P w= .ok y w'∧After w0 σ nx v H' nx' y w':=by
 unfold abQ at h
 cases s
 case true=> cases h
 obtain ⟨c,h1,h2⟩:=fA (show oR (ev E x) _= .ok v H' nx' from h)
 have hv:=hev x (by simp) _ h1
 cases hm:aij H nx c with
 | some r=>
  rw [hm] at h2
  have h2:r= .ok v H' nx':=h2
  subst h2
  obtain ⟨l,lc,m,d,since,seen,last,es,bs,ck,ents,rfl,hl,hmd,hval,hH,hoff,hit,hM,hg,hst,hb,hsz,hrel,h⟩:=KX hs hv hm
  obtain ⟨h3,h4⟩:=aC h
  obtain ⟨k1,k2⟩:=and_true h3
  have k1:=aN k1
  have k2:=aN k2
  have hold:∀e∈ents.toList,e.born < since:=fun e he=> Nat.lt_of_lt_of_le (hst.1 e he) k1
  obtain ⟨i1,i2⟩:=DJ (seen:=seen) (es:=es) (ents:=ents.toList) (by simpa using hsz)
  rw [hb] at i1 i2
  have hleft:((leftOf ents seen.toArray).toList).map (·.born)=(lV seen es bs).map fun p=> p.2.2:=by
   rw [i1]
   unfold leftOf
   simp
  rw [hval]
  have hlen:(leftOf ents seen.toArray).size=(lV seen es bs).length:=by
   have:=congrArg List.length hleft
   simpa using this
  rcases run_next_at (P:=P) w ty lc.blk d.blk since last seen.toArray ents ck hit hg hold k2 with ⟨n1,n2⟩ | ⟨e,n1,w1,n2,n3⟩
  ·have:lV seen es bs= []:=List.eq_nil_of_length_eq_zero (by omega)
   rw [this] at h4
   injection (show some (dG.ok (.bH [.v (.bool false)]) H nx)=some (.ok v H' nx') from h4) with h4
   obtain ⟨rfl,rfl,rfl⟩:=bU h4
   exact ⟨_,_,n2,.same hs (.mY (.cons (.v _ rfl) (.nil σ)))⟩
  ·unfold zH at h4
   split at h4
   ·rename_i hlf
    rw [hlf] at hlen
    have:(leftOf ents seen.toArray).toList= []:=List.eq_nil_of_length_eq_zero (by simpa using hlen)
    rw [this] at n1
    cases n1
   ·rename_i p hlf
    injection h4 with h4
    obtain ⟨rfl,rfl,rfl⟩:=bU h4
    obtain ⟨j,q,e',j1,j2,rfl⟩:=i2 p (by rw [hlf];exact List.mem_singleton.2 rfl)
    have hee:e.born=e'.born:=by
     rw [hlf] at hleft
     have hlen1:(leftOf ents seen.toArray).toList.length=1:=by simpa [hlf] using hlen
     obtain ⟨e0,he0⟩:=List.length_eq_one_iff.1 hlen1
     rw [he0] at n1 hleft
     rw [List.mem_singleton.1 n1]
     injection hleft
    have he:e∈ents.toList:=by
     unfold leftOf at n1
     simp at n1
     simpa using n1.1
    have hsame:e=e':=by
     obtain ⟨i,hi,rfl⟩:=List.getElem_of_mem he
     have hn:=hst.2.1
     have h1:(ents.toList.map (·.born))[i]? =some (ents.toList[i]).born:=by rw [List.getElem?_map,List.getElem?_eq_getElem hi];rfl
     have h2:(ents.toList.map (·.born))[j]? =some e'.born:=by rw [List.getElem?_map,j2];rfl
     rw [←hee] at h2
     have hij:=(List.getElem?_inj (by simpa using hi) hn).1 (h1.trans h2.symm)
     subst hij
     rw [List.getElem?_eq_getElem hi] at j2
     injection j2
    subst hsame
    obtain ⟨r1,r2⟩:=hrel j q e j1 (by simpa using j2)
    have hset:∀w2:World,w2.heap=w.heap→w2.os=w.os→w2.tape=w.tape→w2.output=w.output→R w0 σ (H.put l (.it (some m) since (app seen [e.born]) ck)) nx (ChangeMaps.setBlock w2 lc.blk (.mapIter (some d.blk) since (seen.toArray.push e.born) ck)):=by
     intro w2 q1 q2 q3 q4
     refine hs.upd hl hH (by exact q2) (by exact q3) (by exact q4) (by simp [ChangeMaps.setBlock,q1]) (fun k hk=> ?_) ⟨d,hmd,hoff,?_⟩
     ·simp only [ChangeMaps.setBlock,q1]
      rw [Array.getElem?_setIfInBounds_ne (Ne.symm hk)]
     ·have hlt:=(Array.getElem?_eq_some_iff.1 hit).1
      simp only [ChangeMaps.setBlock,q1]
      rw [Array.getElem?_setIfInBounds_self_of_lt hlt,kU]
      simp
    refine ⟨_,_,n3,.same ?_ (.mY (.cons (.v _ rfl) (.cons r1 (.cons r2 (.nil σ)))))⟩
    rcases n2 with rfl | rfl
    ·exact hset _ rfl rfl rfl rfl
    ·exact hset _ rfl rfl rfl rfl
   ·cases h4
 | none=>
  rw [hm] at h2
  obtain ⟨r,h3,h4⟩:=fA (show oR (aik H nx c) (fun r=> r)= .ok v H' nx' from h2)
  subst h4
  obtain ⟨l,o,rfl,h4⟩:=rG h3
  obtain ⟨ho,h5⟩:=aC h4
  have ho:=ay ho
  subst ho
  obtain ⟨b,h6,h7⟩:=aj h5
  cases b with
  | cl=> cases h7
  | mp=> cases h7
  | mu=> cases h7
  | it m since seen last=>
   obtain ⟨hm',h8⟩:=jK (show oC m _=some (dG.ok v H' nx') from h7)
   subst hm'
   injection h8 with h8
   obtain ⟨rfl,rfl,rfl⟩:=bU h8
   obtain ⟨lc,hl,hval⟩:=hv.pv
   obtain ⟨_,_,_,k4,k5⟩:=hs.blk l lc _ hl h6
   refine ⟨_,w,?_,.same hs (.mY (.cons (.v (.bool false) rfl) (.nil σ)))⟩
   rw [hval,k4]
   simp [Instr.next,getObj,Sem.run,k5,Result.andThen]
theorem an0 (hs:R w0 σ H nx w) {ty:TypeId} {v:CV} {H':Tr aP} {nx':Nat} {cb:Array Bool} {args:Array Operand} {ts:Array TypeId} {b:Builtin} (hev:yg σ E ρ args) (h:afj P E H nx b args ts= .ok v H' nx'):∃x w',(builtin b ts ty cb (args.map ρ)).run P w= .ok (.value x) w'∧After w0 σ nx v H' nx' x w':=by
 have ace:∀{α:Type} {l:List α} {f:α→α→dG},two l f= .ok v H' nx'→∃a b,l= [a,b]∧f a b= .ok v H' nx':=by
  intro α l f h
  unfold two at h
  split at h
  ·exact ⟨_,_,rfl,h⟩
  ·cases h
 have an1:∀{α:Type} {l:List α} {f:α→dG},one l f= .ok v H' nx'→∃a,l= [a]∧f a= .ok v H' nx':=by
  intro α l f h
  unfold one at h
  split at h
  ·exact ⟨_,rfl,h⟩
  ·cases h
 have Qj:∀{vs:List CV},Y5 E args.toList=some vs→fU σ vs (args.map ρ).toList:=fun h1=> by
  have:=tu (σ:=σ) (ρ:=ρ) args.toList (fun x hx=> hev x (by simpa using hx)) h1
  simpa using this
 unfold afj at h
 split at h
 ·obtain ⟨vs,h1,h2⟩:=fA h
  obtain ⟨a,c,rfl,h3⟩:=ace h2
  obtain ⟨t,u,hts,h4⟩:=ace h3
  obtain ⟨va,r1,e1,ha,hL2⟩:=(Qj h1).cons_inv
  obtain ⟨vb,r2,e2,hb,hL3⟩:=hL2.cons_inv
  have e3:=hL3.bg
  subst e3 e2
  have hargs:args.map ρ= #[va,vb]:=Array.ext' (by simpa using e1)
  have akw:ts= #[t,u]:=Array.ext' (by simpa using hts)
  rw [hargs,akw]
  obtain ⟨x,w',hr,ha'⟩:=afM (ty:=ty) hs ha hb h4
  exact ⟨x,w',by simp only [builtin,Sem.run_bind,hr,Result.andThen_ok];rfl,ha'⟩
 ·obtain ⟨vs,h1,h2⟩:=fA h
  obtain ⟨a,rfl,h3⟩:=an1 h2
  obtain ⟨va,r1,e1,ha,hL2⟩:=(Qj h1).cons_inv
  have e3:=hL2.bg
  subst e3
  have hargs:args.map ρ= #[va]:=Array.ext' (by simpa using e1)
  rw [hargs]
  obtain ⟨x,hr,ha'⟩:=aku (P:=P) (ty:=ty) (ts:=ts) hs ha h3
  exact ⟨x,w,by simp only [builtin,Sem.run_bind,hr,Result.andThen_ok];rfl,ha'⟩
 ·obtain ⟨vs,h1,h2⟩:=fA h
  obtain ⟨a,rfl,h3⟩:=an1 h2
  obtain ⟨t,hts,h4⟩:=fA h3
  obtain ⟨va,r1,e1,ha,hL2⟩:=(Qj h1).cons_inv
  have e3:=hL2.bg
  subst e3
  have hargs:args.map ρ= #[va]:=Array.ext' (by simpa using e1)
  rw [hargs]
  obtain ⟨x,w',hr,ha'⟩:=afO (P:=P) (ty:=ty) (ts:=ts) hs ha (by rw [iE] at hts;simpa using hts) h4
  exact ⟨x,w',by simp only [builtin,Sem.run_bind,hr,Result.andThen_ok];rfl,ha'⟩
 ·obtain ⟨vs,h1,h2⟩:=fA h
  obtain ⟨a,c,rfl,h3⟩:=ace h2
  obtain ⟨t,hts,h4⟩:=fA h3
  obtain ⟨va,r1,e1,ha,hL2⟩:=(Qj h1).cons_inv
  obtain ⟨vb,r2,e2,hb,hL3⟩:=hL2.cons_inv
  have e3:=hL3.bg
  subst e3 e2
  have hargs:args.map ρ= #[va,vb]:=Array.ext' (by simpa using e1)
  rw [hargs]
  obtain ⟨x,w',hr,ha'⟩:=anZ (P:=P) (ty:=ty) (ts:=ts) hs ha hb (by rw [iE] at hts;simpa using hts) h4
  exact ⟨x,w',by simp only [builtin,Sem.run_bind,hr,Result.andThen_ok];rfl,ha'⟩
 ·obtain ⟨vs,h1,h2⟩:=fA h
  obtain ⟨a,c,rfl,h3⟩:=ace h2
  obtain ⟨t,u,hts,h4⟩:=ace h3
  obtain ⟨va,r1,e1,ha,hL2⟩:=(Qj h1).cons_inv
  obtain ⟨vb,r2,e2,hb,hL3⟩:=hL2.cons_inv
  have e3:=hL3.bg
  subst e3 e2
  have hargs:args.map ρ= #[va,vb]:=Array.ext' (by simpa using e1)
  have akw:ts= #[t,u]:=Array.ext' (by simpa using hts)
  rw [hargs,akw]
  obtain ⟨x,w',hr,ha'⟩:=anY (P:=P) (ty:=ty) (it:=u) hs ha hb h4
  exact ⟨x,w',by simp only [builtin,Sem.run_bind,hr,Result.andThen_ok];rfl,ha'⟩
 ·cases h
end
end Ci
namespace Ci
open Go.RowKit
variable [fE]
def jq (P:Program) (G:Base→Prop) (C:Callee):Prop:=∀(f:FuncId) (args:List CV) (H:Tr aP) (nx:Nat) (v:CV) (H':Tr aP) (nx':Nat),C f args H nx= .ok v H' nx'→∀(w0:Base) (σ:Nm) (w:World) (vals:Array Value),G w0→R w0 σ H nx w→fU σ args vals.toList→
 (callFunc f vals).run P w= .ok (.enter f vals) w∧Calls P f vals w fun e w'=> ∃x,e= .returned x∧After w0 σ nx v H' nx' x w'
theorem jq.none {P:Program} {G:Base→Prop}:jq P G fun _ _ _ _=> .no:=fun f args H nx v H' nx' h=> by cases h
structure Ok (w0:Base) (nt:Nat) (st:dY) (σ:Nm) (a:Act) (w:World):Prop where
 r:R w0 σ st.h st.nx w
 env:bM σ st.env a.tmps
 size:a.tmps.size=nt
 defers:a.defers= []
theorem Ok.evs {w0:Base} {w:World} {nt:Nat} {st:dY} {σ:Nm} {a:Act} (h:Ok w0 nt st σ a w) (xs:Array Operand):yg σ st.env a.eval xs:=fun x _ c hc=> bI (fun t _ c hc=> h.env t c hc) hc
theorem yU {σ:Nm} {E:Tr CV} {a:Act} (h:bM σ E a.tmps) {d:Option Tmp} (hd:∀t,d=some t→t < a.tmps.size) {v:CV} {x:Value} (hv:VR σ v x):bM σ (aZ E d v) (a.put d x).tmps:=by
 cases d with
 | none=> exact h
 | some d=>
  intro t c hc
  have hc:(E.put d v).get t=some c:=hc
  rw [get_put] at hc
  show ∃v,(a.tmps.setIfInBounds d x)[t]? =some v∧_
  by_cases ht:t=d
  ·subst ht
   rw [if_pos rfl] at hc
   injection hc with hc
   subst hc
   exact ⟨x,by simp [hd t rfl],hv⟩
  ·rw [if_neg ht] at hc
   obtain ⟨y,h1,h2⟩:=h t c hc
   exact ⟨y,by rw [Array.getElem?_setIfInBounds_ne (Ne.symm ht)];exact h1,h2⟩
theorem iW (a:Act) (d:Option Tmp) (x:Value):(a.put d x).tmps.size=a.tmps.size:=by cases d <;> simp [Act.put]
theorem put_defers (a:Act) (d:Option Tmp) (x:Value):(a.put d x).defers=a.defers:=by cases d <;> rfl
theorem Ok.put {w0:Base} {w w':World} {nt:Nat} {st:dY} {σ σ':Nm} {a:Act} (h:Ok w0 nt st σ a w) {d:Option Tmp} (hd:∀t,d=some t→t < nt) (hle:Le σ σ') {v:CV} {x:Value} (hv:VR σ' v x) {H:Tr aP} {nx:Nat} (hr:R w0 σ' H nx w'):Ok w0 nt ⟨aZ st.env d v,H,nx⟩ σ' (a.put d x) w':=
 ⟨hr,yU (h.env.mono hle) (fun t ht=> by rw [h.size];exact hd t ht) hv,by rw [iW];exact h.size,by rw [put_defers];exact h.defers⟩
def aiu (w0:Base) (nt:Nat) (σ:Nm) (l nx:Nat) (k:Nat) (st':dY) (K:Act→World→Prop):Prop:=∀(σ':Nm) (a':Act) (w':World),Le σ σ'→(∀j,j < nx→(k=1→j≠l)→σ' j=σ j)→nx≤st'.nx→Ok w0 nt st' σ' a' w'→K a' w'
section
variable {P : Program} {G : Base → Prop} {C : Callee} {w0 : Base} {w : World} {nt : Nat} {st st' : dY} {σ : Nm} {a : Act} {o : Oper} {Q : Exit → Act → World → Prop} {K : Act → World → Prop}
theorem Qk {d:Option Tmp} {r:dG} (h:doE st d r=some st'):∃v H nx,r= .ok v H nx∧st'=⟨aZ st.env d v,H,nx⟩:=by
 cases r with
 | no=> cases h
 | ok v H nx=>
  injection h with h
  exact ⟨v,H,nx,rfl,h.symm⟩
theorem acf (hC:jq P G C) (hG:G w0) (hr:R w0 σ st.h st.nx w) (hev:yg σ st.env a.eval o.op.operands) {v:CV} {H':Tr aP} {nx':Nat} (h:exE P C st.env st.h st.nx o.op= .ok v H' nx')
  (hK:∀x w',After w0 σ st.nx v H' nx' x w'→K (a.put o.dst x) w'):o.wp P a w K Q:=by
 obtain ⟨dst,op,ty,pos,after,guard⟩:=o
 have skp:∀{s:Sem Unit},(∃w',s.run P w= .ok () w'∧After w0 σ st.nx v H' nx' undef w')→execOp a.eval ⟨dst,op,ty,pos,after,guard⟩=(do s;pure .skip)→Oper.wp P ⟨dst,op,ty,pos,after,guard⟩ a w K Q:=by
  rintro s ⟨w',h1,h2⟩ he
  refine Sv (w':=w') ?_ (hK _ _ h2)
  rw [he]
  simp only [Sem.run_bind,h1,Result.andThen_ok]
  rfl
 cases op with
 | store t x y=> exact skp (afI hr hev h) rfl
 | mapUpdate t m k x=> exact skp (aip hr hev h) rfl
 | insert t m k x=> exact skp (aip hr hev h) rfl
 | range t x=>
  obtain ⟨y,w',h1,h2⟩:=afP hr hev h
  exact iU (x:=y) (w':=w') (by show (do pure (.value (←Instr.range t (a.eval x))):Sem Next).run P w=_;simp only [Sem.run_bind,h1,Result.andThen_ok];rfl) (hK _ _ h2)
 | next x s=>
  obtain ⟨y,w',h1,h2⟩:=akv (P:=P) (ty:=ty) hr hev h
  exact iU (x:=y) (w':=w') (by show (do pure (.value (←Instr.next (a.eval x) s ty)):Sem Next).run P w=_;simp only [Sem.run_bind,h1,Result.andThen_ok];rfl) (hK _ _ h2)
 | call c=>
  obtain ⟨callee,args,ts⟩:=c
  cases callee with
  | builtin b=>
   obtain ⟨x,w',h1,h2⟩:=an0 (ty:=ty) (cb:=args.map fun | .const _=> true | _=> false) hr (fun x hx=> hev x (by simp [Op.operands,Call.operands,hx])) (show afj P st.env st.h st.nx b args ts= .ok v H' nx' from h)
   refine iU (x:=x) (w':=w') ?_ (hK _ _ h2)
   show (do invoke (←resolve a.eval ⟨.builtin b,args,ts⟩ ty).target _:Sem Next).run P w=_
   exact h1
  | value f=>
   obtain ⟨g,h1,h2⟩:=fA (show oR (ev st.env f) _= .ok v H' nx' from h)
   obtain ⟨xs,h3,h4⟩:=fA h2
   have hf:=hev f (by simp [Op.operands,Call.operands]) _ h1
   have hxs:=tu (σ:=σ) (ρ:=a.eval) args.toList (fun x hx=> hev x (by
    have:x∈args:=by simpa using hx
    simp [Op.operands,Call.operands,this])) h3
   unfold abN at h4
   split at h4
   ·rename_i fid fs cs
    obtain ⟨us,vs,e1,e2,e3⟩:=hf.fnL
    rw [kU,kU] at h4
    have hl:fU σ (fs ++ (xs ++ cs)) (us ++ args.map a.eval ++ vs).toList:=by
     have:=e2.append (hxs.append e3)
     simpa using this
    obtain ⟨k1,k2⟩:=hC _ _ _ _ _ _ _ h4 w0 σ w _ hG hr hl
    have hrun:(execOp a.eval ⟨dst,.call ⟨.value f,args,ts⟩,ty,pos,after,guard⟩).run P w= .ok (.enter fid (us ++ args.map a.eval ++ vs)) w:=by
     show (do let d←Deferred.ofValue (a.eval f) (args.map a.eval);invoke d.target d.args:Sem Next).run P w=_
     rw [e1]
     show (callFunc fid (us ++ args.map a.eval ++ vs)).run P w=_
     exact k1
    unfold Oper.wp
    rw [hrun]
    show Calls P _ _ w _
    refine Calls.mono k2 ?_
    rintro e w' ⟨x,rfl,h6⟩
    exact hK _ _ h6
   ·cases h4
  | invoke r m=> cases h
 | _=> cases h
theorem akx (hC:jq P G C) (hG:G w0) (hok:Ok w0 nt st σ a w) (hd:∀t,o.dst=some t→t < nt) {l:Nat} (hl:cls o.op=1→σ l=none∧l < st.nx) (h:ex1 P C o l st=some st') (hK:aiu w0 nt σ l st.nx (cls o.op) st' K):o.wp P a w K Q:=by
 unfold ex1 at h
 generalize hc:cls o.op=k at *
 match k,h,hl with
 | 0,h,_=>
  obtain ⟨v,h1,h2⟩:=aj (show doQ st o.dst (exQ P st.env st.h o.type o.op)=some st' from h)
  injection h2 with h2
  obtain ⟨u,h3,h4⟩:=ab7 (ρ:=a.eval) hok.r (hok.evs _) h1
  refine iU h3 (hK σ _ w (.refl σ) (fun _ _ _=> rfl) ?_ ?_)
  ·rw [←h2];exact Nat.le_refl _
  ·rw [←h2];exact hok.put hd (.refl σ) h4 hok.r
 | 1,h,hl=>
  obtain ⟨q,h1,h20⟩:=aj (show doA st o.dst l (exA P st.env o.op l)=some st' from h)
  obtain ⟨_,h2⟩:=jK h20
  injection h2 with h2
  obtain ⟨hn,hlt⟩:=hl rfl
  obtain ⟨v,b⟩:=q
  obtain ⟨obj,room,x,h3,h4⟩:=ab8 (σ:=σ) (ρ:=a.eval) (w:=w) (hok.evs _) h1
  obtain ⟨h5,h6⟩:=h4 (um σ l ⟨w.heap.size,0,room⟩) (jg _ hn) (jS _ _ _)
  have hr:=hok.r.new (H':=st.h.put l b) (nx':=st.nx) (room:=room) hn hlt (Nat.le_refl _) (dR _ _ _) (fun j hj=> dK _ _ hj) obj h5
  refine iU h3 (hK (um σ l ⟨w.heap.size,0,room⟩) (a.put o.dst x) (w.alloc obj) (jg _ hn) (fun j _ hj=> lu σ _ (hj rfl)) ?_ ?_)
  ·rw [←h2];exact Nat.le_refl _
  ·rw [←h2];exact hok.put hd (jg _ hn) h6 hr
 | k + 2,h,_=>
  obtain ⟨v,H,nx,h1,h2⟩:=Qk (show doE st o.dst (exE P C st.env st.h st.nx o.op)=some st' from h)
  refine acf hC hG hok.r (hok.evs _) h1 fun x w' hA=> ?_
  obtain ⟨σ',s1,s2,s3,s4,s5⟩:=hA
  refine hK σ' _ w' s1 (fun j hj _=> s2 j hj) ?_ ?_
  ·rw [h2];exact s4
  ·rw [h2];exact hok.put hd s1 s5 s3
def asB:Value→Option Bool
 | .bool c=> some c
 | _=> none
theorem acg {v:CV} {x:Value} {w b:Bool} (hv:VR σ v x) (h:wM w v=some b):b=(asB x==some w):=by
 unfold wM at h
 split at h
 ·rename_i y
  rw [hv.val]
  split at h
  ·injection h with h
   subst h
   rename_i c
   cases c <;> cases w <;> rfl
  ·cases h
 ·obtain ⟨vs,rfl,_⟩:=hv.abX
  injection h with h
  subst h
  rfl
 ·cases h
theorem Lj {ops:Array Oper} {E:Tr CV} (hE:∀t∈o.looksAt ops,∀c,E.get t=some c→∃v,a.tmps[t]? =some v∧VR σ c v) {b:Bool} (h:want ops.toList E o.guard=some b):Region.wanted o (yielded ops a.tmps)=b:=by
 unfold Region.wanted
 cases hg:o.guard with
 | none=>
  rw [hg] at h
  injection h
 | some g=>
  rw [hg] at h
  obtain ⟨j,wv⟩:=g
  obtain ⟨o',h1,h2⟩:=aj (show ob (nth ops.toList j) _=some b from h)
  obtain ⟨t,h3,h4⟩:=aj h2
  obtain ⟨v,h5,h6⟩:=aj h4
  rw [iE,Array.getElem?_toList] at h1
  obtain ⟨x,h7,h8⟩:=hE t (by
   unfold Oper.looksAt
   rw [hg]
   simp [h1,h3]) v h5
  rw [acg h8 h6]
  show (yielded ops a.tmps j==some wv)=_
  have:yielded ops a.tmps j=asB x:=by
   unfold yielded
   rw [h1]
   simp only [Option.bind_some,h3,h7]
   cases x <;> rfl
  rw [this]
theorem V9 (hC:jq P G C) (hG:G w0) {ops:Array Oper} (hok:Ok w0 nt st σ a w) (hd:∀t,o.dst=some t→t < nt) {l:Nat} (hl:cls o.op=1→σ l=none∧l < st.nx) (h:Hq P C ops.toList o l st=some st') (hK:aiu w0 nt σ l st.nx (cls o.op) st' K):
  if Region.wanted o (yielded ops a.tmps) then o.wp P a w K Q else K (a.put o.dst undef) w:=by
 obtain ⟨b,h1,h2⟩:=aj h
 rw [Lj (fun t _=> hok.env t) h1]
 cases b
 ·injection (show some (⟨aZ st.env o.dst (.bH []),st.h,st.nx⟩:dY)=some st' from h2) with h2
  rw [if_neg (by simp)]
  refine hK σ _ w (.refl σ) (fun _ _ _=> rfl) ?_ ?_
  ·rw [←h2];exact Nat.le_refl _
  ·rw [←h2];exact hok.put hd (.refl σ) (.unit σ) hok.r
 ·rw [if_pos rfl]
  exact akx hC hG hok hd hl h2 hK
def Goes (w0:Base) (nt:Nat) (σ:Nm) (nx:Nat) (st':dY) (a':Act) (w':World):Prop:=∃σ',Le σ σ'∧(∀j,j < nx→σ' j=σ j)∧nx≤st'.nx∧Ok w0 nt st' σ' a' w'
theorem Goes.trans {nx:Nat} {σ':Nm} {w':World} {a':Act} (h1:Le σ σ') (h2:∀j,j < nx→σ' j=σ j) {nx':Nat} (h3:nx≤nx') (h:Goes w0 nt σ' nx' st' a' w'):Goes w0 nt σ nx st' a' w':=by
 obtain ⟨τ,k1,k2,k3,k4⟩:=h
 exact ⟨τ,h1.trans k1,fun j hj=> by rw [k2 j (Nat.lt_of_lt_of_le hj h3),h2 j hj],Nat.le_trans h3 k3,k4⟩
theorem Goes.self (h:Ok w0 nt st σ a w):Goes w0 nt σ st.nx st a w:=⟨σ,.refl σ,fun _ _=> rfl,Nat.le_refl _,h⟩
theorem an2 {n:Nat} (h:Nat.beq n 1=false):n≠1:=by
 intro e
 rw [e] at h
 cases h
theorem aky (hC:jq P G C) (hG:G w0) {ops:Array Oper} (hok:Ok w0 nt st σ a w) (hd:∀t,o.dst=some t→t < nt) (h:exS P C ops.toList o st=some st') (hK:∀a' w',Goes w0 nt σ st.nx st' a' w'→K a' w'):
  if Region.wanted o (yielded ops a.tmps) then o.wp P a w K Q else K (a.put o.dst undef) w:=by
 unfold exS at h
 cases hb:Nat.beq (cls o.op) 1
 ·rw [hb] at h
  exact V9 hC hG hok hd (fun e=> absurd e (an2 hb)) (show Hq P C ops.toList o 0 st=some st' from h) fun σ' a' w' k1 k2 k3 k4=> hK a' w' ⟨σ',k1,fun j hj=> k2 j hj fun e=> absurd e (an2 hb),k3,k4⟩
 ·rw [hb] at h
  have hok':Ok w0 nt ⟨st.env,st.h,Nat.succ st.nx⟩ σ a w:=⟨hok.r.heap (Nat.le_succ _) fun l c _=> Or.inl rfl,hok.env,hok.size,hok.defers⟩
  exact V9 hC hG hok' hd (fun _=> ⟨hok.r.none,Nat.lt_succ_self _⟩) (show Hq P C ops.toList o st.nx ⟨st.env,st.h,Nat.succ st.nx⟩=some st' from h) fun σ' a' w' k1 k2 k3 k4=> hK a' w' ⟨σ',k1,fun j hj=> k2 j (Nat.lt_succ_of_lt hj) fun _=> Nat.ne_of_lt hj,Nat.le_trans (Nat.le_succ _) k3,k4⟩
theorem Wh (hC:jq P G C) (hG:G w0) {ops:Array Oper}:∀(l:List Oper) {st st':dY} {σ:Nm} {a:Act} {w:World},Ok w0 nt st σ a w→(∀o∈l,∀t,o.dst=some t→t < nt)→afk P C ops.toList l st=some st'→(∀a' w',Goes w0 nt σ st.nx st' a' w'→Q .normal a' w')→wpList P ops Q l a w
 | [],st,st',σ,a,w,hok,_,h,hQ=> by
  injection (show some st=some st' from h) with h
  subst h
  exact hQ a w (.self hok)
 | o::l,st,st',σ,a,w,hok,hd,h,hQ=> by
  obtain ⟨st1,h1,h2⟩:=aj (show ob (exS P C ops.toList o st) (afk P C ops.toList l)=some st' from h)
  refine wpList_step fun K hK=> aky hC hG hok (hd o (by simp)) h1 fun a' w' hg=> hK a' w' ?_
  obtain ⟨σ',k1,k2,k3,k4⟩:=hg
  exact Wh hC hG l k4 (fun o ho=> hd o (by simp [ho])) h2 fun a'' w'' h3=> hQ a'' w'' (h3.trans k1 k2 k3)
end
end Ci
namespace Ci
open Go.RowKit
variable [fE]
theorem oD (m i:Nat):gu m i=m.testBit i:=by
 rw [Nat.testBit_eq_decide_div_mod_eq]
 show Nat.beq ((m >>> i) % 2) 1=_
 rw [Nat.shiftRight_eq_div_pow]
 cases h:Nat.beq (m / 2 ^ i % 2) 1
 ·symm
  apply decide_eq_false
  intro e
  rw [e] at h
  cases h
 ·exact (decide_eq_true (ay h)).symm
theorem afQ {a b:Nat} (h:inB a b=true) {i:Nat} (hi:a.testBit i=true):b.testBit i=true:=by
 have h:a &&& b=a:=ay h
 rw [←h,Nat.testBit_and,Bool.and_eq_true] at hi
 exact hi.2
theorem or_bit (a b i:Nat):(Nat.lor a b).testBit i=(a.testBit i || b.testBit i):=Nat.testBit_or a b i
theorem Ll (j i:Nat):(Nat.pow 2 j).testBit i=decide (j=i):=Nat.testBit_two_pow
theorem afR {a i j:Nat}:(Nat.lor a (Nat.pow 2 i)).testBit j=true↔a.testBit j=true∨j=i:=by
 rw [or_bit,Ll,Bool.or_eq_true,decide_eq_true_iff]
 constructor
 ·rintro (h | h)
  ·exact Or.inl h
  ·exact Or.inr h.symm
 ·rintro (h | h)
  ·exact Or.inl h
  ·exact Or.inr h.symm
theorem rP (i:Nat):(0:Nat).testBit i=false:=Nat.zero_testBit i
theorem afS {n i:Nat}:(Nat.pred (Nat.pow 2 n)).testBit i=decide (i < n):=Nat.testBit_two_pow_sub_one n i
def Bef (l:List Oper) (b:Tr Nat):Prop:=∀i,∀j,(kL (b.get i)).testBit j=true→∃o,l[i]? =some o∧∃e∈o.after,Region.binds .any e=true∧(j=e.on∨(kL (b.get e.on)).testBit j=true)
theorem Ql {acc:Tr Nat}:∀(l:List Edge) {j:Nat},(PO acc l).testBit j=true→∃e∈l,Region.binds .any e=true∧(j=e.on∨(kL (acc.get e.on)).testBit j=true)
 | [],j,h=> by
  have h:(0:Nat).testBit j=true:=h
  rw [rP] at h
  cases h
 | e::l,j,h=> by
  have h:(bG (Region.binds .any e) (Nat.lor (Nat.lor (Nat.pow 2 e.on) (kL (acc.get e.on))) (PO acc l)) (PO acc l)).testBit j=true:=h
  have ih:(PO acc l).testBit j=true→∃e'∈e::l,Region.binds .any e'=true∧(j=e'.on∨(kL (acc.get e'.on)).testBit j=true):=fun h=> by
   obtain ⟨e',h1,h2⟩:=Ql l h
   exact ⟨e',List.mem_cons_of_mem _ h1,h2⟩
  cases hb:Region.binds .any e
  ·rw [hb] at h
   exact ih h
  ·rw [hb] at h
   have h:(Nat.lor (Nat.lor (Nat.pow 2 e.on) (kL (acc.get e.on))) (PO acc l)).testBit j=true:=h
   rw [or_bit,or_bit,Ll,Bool.or_eq_true,Bool.or_eq_true,decide_eq_true_iff] at h
   rcases h with (h | h) | h
   ·exact ⟨e,List.mem_cons_self ..,hb,Or.inl h.symm⟩
   ·exact ⟨e,List.mem_cons_self ..,hb,Or.inr h⟩
   ·exact ih h
theorem DK:∀(l:List Oper) (i:Nat) (t:Tr Nat) (k:Nat),k < i→(Hr l i t).get k=t.get k
 | [],i,t,k,h=> rfl
 | o::l,i,t,k,h=> by
  show (Hr l (i + 1) (t.put i (PO t o.after.toList))).get k=_
  rw [DK l (i + 1) _ k (Nat.lt_succ_of_lt h),dK _ _ (Nat.ne_of_lt h)]
theorem Qm:∀(l:List Oper) (i:Nat) (t:Tr Nat),(∀k,i≤k→t.get k=none)→∀(p j:Nat),i≤p→(kL ((Hr l i t).get p)).testBit j=true→
  ∃o,l[p - i]? =some o∧∃e∈o.after,Region.binds .any e=true∧(j=e.on∨(kL ((Hr l i t).get e.on)).testBit j=true)
 | [],i,t,ht,p,j,hp,h=> by
  have h:(kL (t.get p)).testBit j=true:=h
  rw [ht p hp] at h
  have h:(0:Nat).testBit j=true:=h
  rw [rP] at h
  cases h
 | o::l,i,t,ht,p,j,hp,h=> by
  have e0:Hr (o::l) i t=Hr l (i + 1) (t.put i (PO t o.after.toList)):=rfl
  by_cases hpi:p=i
  ·subst hpi
   rw [e0,DK l (p + 1) _ p (Nat.lt_succ_self _),dR] at h
   obtain ⟨e,h1,h2,h3⟩:=Ql o.after.toList h
   refine ⟨o,by simp,e,by simpa using h1,h2,?_⟩
   rcases h3 with h3 | h3
   ·exact Or.inl h3
   ·right
    rw [e0]
    by_cases hlt:e.on < p
    ·rw [DK l (p + 1) _ e.on (Nat.lt_succ_of_lt hlt),dK _ _ (Nat.ne_of_lt hlt)]
     exact h3
    ·rw [ht e.on (Nat.le_of_not_lt hlt)] at h3
     have h3:(0:Nat).testBit j=true:=h3
     rw [rP] at h3
     cases h3
  ·rw [e0] at h ⊢
   obtain ⟨o',h1,h2⟩:=Qm l (i + 1) _ (fun k hk=> by rw [dK _ _ (by omega)];exact ht k (by omega)) p j (by omega) h
   refine ⟨o',?_,h2⟩
   have:p - i=(p - (i + 1)) + 1:=by omega
   rw [this,List.getElem?_cons_succ]
   exact h1
theorem akz (l:List Oper):Bef l (Hr l 0 .e):=fun i j h=> by
 obtain ⟨o,h1,h2⟩:=Qm l 0 .e (fun k _=> rfl) i j (Nat.zero_le _) h
 exact ⟨o,by simpa using h1,h2⟩
theorem Bef.closed {l:List Oper} {b:Tr Nat} (h:Bef l b) {X:Nat→Prop} (hX:∀i,X i→∀j,(kL (b.get i)).testBit j=true→X j) {i:Nat} {o:Oper} (ho:l[i]? =some o) (hr:∀e∈o.after,Region.binds .any e=true→X e.on):∀j,(kL (b.get i)).testBit j=true→X j:=by
 intro j hj
 obtain ⟨o',h1,e,h2,h3,h4⟩:=h i j hj
 rw [ho] at h1
 injection h1 with h1
 subst h1
 rcases h4 with h4 | h4
 ·rw [h4];exact hr e h2 h3
 ·exact hX _ (hr e h2 h3) j h4
theorem Lm:∀(l:List Oper) (i:Nat) (t F:Tr Nat),Dn l i t=some F→(∀d x,t.get d=some x→F.get d=some x)∧∀(k:Nat) (o:Oper) (d:Tmp),l[k]? =some o→o.dst=some d→F.get d=some (i + k)
 | [],i,t,F,h=> by
  injection (show some t=some F from h) with h
  subst h
  exact ⟨fun d x h=> h,fun k o d h=> by simp at h⟩
 | o::l,i,t,F,h=> by
  cases hd:o.dst with
  | none=>
   have h:Dn l (i + 1) t=some F:=by
    have:Dn (o::l) i t= @Option.rec Tmp (fun _=> Option (Tr Nat)) (Dn l (i + 1) t) (fun d=> oC (t.get d) (Dn l (i + 1) (t.put d i))) o.dst:=rfl
    rw [this,hd] at h
    exact h
   obtain ⟨h1,h2⟩:=Lm l (i + 1) t F h
   refine ⟨h1,fun k o' d hk hd'=> ?_⟩
   cases k with
   | zero=>
    simp at hk
    subst hk
    rw [hd] at hd'
    cases hd'
   | succ k=>
    rw [h2 k o' d (by simpa using hk) hd']
    congr 1
    omega
  | some d=>
   have h:oC (t.get d) (Dn l (i + 1) (t.put d i))=some F:=by
    have:Dn (o::l) i t= @Option.rec Tmp (fun _=> Option (Tr Nat)) (Dn l (i + 1) t) (fun d=> oC (t.get d) (Dn l (i + 1) (t.put d i))) o.dst:=rfl
    rw [this,hd] at h
    exact h
   obtain ⟨h0,h⟩:=jK h
   obtain ⟨h1,h2⟩:=Lm l (i + 1) _ F h
   refine ⟨fun d' x hx=> h1 d' x ?_,fun k o' d' hk hd'=> ?_⟩
   ·by_cases he:d'=d
    ·subst he
     rw [h0] at hx
     cases hx
    ·rw [dK _ _ he]
     exact hx
   ·cases k with
    | zero=>
     simp at hk
     subst hk
     rw [hd] at hd'
     injection hd' with hd'
     subst hd'
     exact h1 _ _ (dR _ _ _)
    | succ k=>
     rw [h2 k o' d' (by simpa using hk) hd']
     congr 1
     omega
theorem Jh {D b:Tr Nat} {i:Nat} {late:Bool}:∀{l:List Tmp},oK D b i late l=true→∀t∈l,∀j,D.get t=some j→(kL (b.get i)).testBit j=true∨(late=true∧(kL (b.get j)).testBit i=true)
 | [],_,t,ht,_,_=> by cases ht
 | t::l,h,t',ht,j,hj=> by
  have h: @Option.rec Nat (fun _=> Bool) (oK D b i late l) (fun j=> bG (Bool.or (gu (kL (b.get i)) j) (Bool.and late (gu (kL (b.get j)) i))) (oK D b i late l) false) (D.get t)=true:=h
  rcases List.mem_cons.1 ht with rfl | ht
  ·rw [hj] at h
   cases hb:Bool.or (gu (kL (b.get i)) j) (Bool.and late (gu (kL (b.get j)) i))
   ·have h:bG (Bool.or (gu (kL (b.get i)) j) (Bool.and late (gu (kL (b.get j)) i))) (oK D b i late l) false=true:=h
    rw [hb] at h
    cases h
   ·have hb:(gu (kL (b.get i)) j || (late && gu (kL (b.get j)) i))=true:=hb
    rw [Bool.or_eq_true,Bool.and_eq_true,oD,oD] at hb
    exact hb
  ·have h2:oK D b i late l=true:=by
    cases hd:D.get t with
    | none=> rw [hd] at h;exact h
    | some j'=>
     rw [hd] at h
     have h:bG (Bool.or (gu (kL (b.get i)) j') (Bool.and late (gu (kL (b.get j')) i))) (oK D b i late l) false=true:=h
     cases hb:Bool.or (gu (kL (b.get i)) j') (Bool.and late (gu (kL (b.get j')) i))
     ·rw [hb] at h;cases h
     ·rw [hb] at h;exact h
   exact Jh h2 t' ht j hj
theorem ach {o:Oper} (h:wP o=true):¬(cls o.op=1∨vk o.op=true)∨cls o.op=2:=by
 have h:(Nat.beq (cls o.op) 2 || (Nat.beq (cls o.op) 0 && !(vk o.op)))=true:=h
 rw [Bool.or_eq_true,Bool.and_eq_true] at h
 rcases h with h | ⟨h1,h2⟩
 ·exact Or.inr (ay h)
 ·left
  have h1:=ay h1
  rintro (h | h)
  ·omega
  ·rw [h] at h2
   cases h2
theorem DL {ops:Array Oper} {D b:Tr Nat}:∀(l:List Oper) (i:Nat),KH ops D b l i=true→∀(k:Nat) (o:Oper),l[k]? =some o→oK D b (i + k) (wP o) (o.looksAt ops)=true
 | [],i,h,k,o,hk=> by simp at hk
 | o::l,i,h,k,o',hk=> by
  have h:bG (oK D b i (wP o) (o.looksAt ops)) (KH ops D b l (Nat.succ i)) false=true:=h
  cases hb:oK D b i (wP o) (o.looksAt ops)
  ·rw [hb] at h;cases h
  ·rw [hb] at h
   cases k with
   | zero=>
    simp at hk
    subst hk
    exact hb
   | succ k=>
    have:=DL l (i + 1) h k o' (by simpa using hk)
    rw [show i + (k + 1)=i + 1 + k by omega]
    exact this
theorem Qn {i:Nat}:∀(l:List Edge),zL i l=true→∀e∈l,Region.binds .any e=true→e.on < i
 | [],_,e,he,_=> by cases he
 | e::l,h,e',he,hb=> by
  have h:bG (Region.binds .any e) (bG (Nat.ble (Nat.succ e.on) i) (zL i l) false) (zL i l)=true:=h
  rcases List.mem_cons.1 he with rfl | he
  ·rw [hb] at h
   have h:bG (Nat.ble (Nat.succ e'.on) i) (zL i l) false=true:=h
   cases hc:Nat.ble (Nat.succ e'.on) i
   ·rw [hc] at h;cases h
   ·exact aN hc
  ·refine Qn l ?_ e' he hb
   cases hc:Region.binds .any e
   ·rw [hc] at h;exact h
   ·rw [hc] at h
    have h:bG (Nat.ble (Nat.succ e.on) i) (zL i l) false=true:=h
    cases hd:Nat.ble (Nat.succ e.on) i
    ·rw [hd] at h;cases h
    ·rw [hd] at h;exact h
theorem Ji:∀(l:List Oper) (i:Nat),backOk l i=true→∀(k:Nat) (o:Oper),l[k]? =some o→∀e∈o.after,Region.binds .any e=true→e.on < i + k
 | [],i,h,k,o,hk=> by simp at hk
 | o::l,i,h,k,o',hk=> by
  have h:bG (zL i o.after.toList) (backOk l (Nat.succ i)) false=true:=h
  cases hb:zL i o.after.toList
  ·rw [hb] at h;cases h
  ·rw [hb] at h
   cases k with
   | zero=>
    simp at hk
    subst hk
    exact fun e he=> Qn _ hb e (by simpa using he)
   | succ k=>
    have:=Ji l (i + 1) h k o' (by simpa using hk)
    rw [show i + (k + 1)=i + 1 + k by omega]
    exact this
theorem DN {b:Tr Nat} {e:Nat}:∀(l:List Oper) (i done:Nat),qo b e l i done=true→∀k,k < l.length→done.testBit (i + k)=true∨i + k=e∨(kL (b.get (i + k))).testBit e=true
 | [],i,done,h,k,hk=> by simp at hk
 | o::l,i,done,h,k,hk=> by
  have h:bG (Bool.or (gu done i) (Bool.or (Nat.beq i e) (gu (kL (b.get i)) e))) (qo b e l (Nat.succ i) done) false=true:=h
  cases hb:Bool.or (gu done i) (Bool.or (Nat.beq i e) (gu (kL (b.get i)) e))
  ·rw [hb] at h;cases h
  ·rw [hb] at h
   cases k with
   | zero=>
    have hb:(gu done i || (Nat.beq i e || gu (kL (b.get i)) e))=true:=hb
    rw [Bool.or_eq_true,Bool.or_eq_true,oD,oD] at hb
    rcases hb with hb | hb | hb
    ·exact Or.inl hb
    ·exact Or.inr (Or.inl (ay hb))
    ·exact Or.inr (Or.inr hb)
   | succ k=>
    have:=DN l (i + 1) done h k (by simpa using hk)
    rw [show i + (k + 1)=i + 1 + k by omega]
    exact this
theorem Qo:∀{l:List Nat} {i:Nat},(wO l).testBit i=true→i∈l
 | [],i,h=> by
  have h:(0:Nat).testBit i=true:=h
  rw [rP] at h
  cases h
 | j::l,i,h=> by
  have h:(Nat.lor (Nat.pow 2 j) (wO l)).testBit i=true:=h
  rw [or_bit,Ll,Bool.or_eq_true,decide_eq_true_iff] at h
  rcases h with h | h
  ·rw [h];exact List.mem_cons_self ..
  ·exact List.mem_cons_of_mem _ (Qo h)
theorem DR {m:Nat}:∀(l:List Oper) (i done rs:Nat),kE m l i done rs=true→∀(k:Nat) (o:Oper),l[k]? =some o→done.testBit (i + k)=true→cls o.op≠2→(cls o.op=1∨vk o.op=true)→m.testBit (i + k)=true∨rs.testBit (i + k)=true
 | [],i,done,rs,h,k,o,hk,_,_,_=> by simp at hk
 | o::l,i,done,rs,h,k,o',hk,h1,h2,h3=> by
  have h:bG (Bool.and (gu done i) (Bool.and (Bool.not (Nat.beq (cls o.op) 2)) (Bool.or (Nat.beq (cls o.op) 1) (vk o.op)))) (bG (Bool.or (gu m i) (gu rs i)) (kE m l (Nat.succ i) done rs) false) (kE m l (Nat.succ i) done rs)=true:=h
  have rest:kE m l (i + 1) done rs=true:=by
   cases hb:Bool.and (gu done i) (Bool.and (Bool.not (Nat.beq (cls o.op) 2)) (Bool.or (Nat.beq (cls o.op) 1) (vk o.op)))
   ·rw [hb] at h;exact h
   ·rw [hb] at h
    have h:bG (Bool.or (gu m i) (gu rs i)) (kE m l (Nat.succ i) done rs) false=true:=h
    cases hc:Bool.or (gu m i) (gu rs i)
    ·rw [hc] at h;cases h
    ·rw [hc] at h;exact h
  cases k with
  | zero=>
   simp at hk
   subst hk
   have hb:Bool.and (gu done i) (Bool.and (Bool.not (Nat.beq (cls o.op) 2)) (Bool.or (Nat.beq (cls o.op) 1) (vk o.op)))=true:=by
    have e1:gu done i=true:=by rw [oD];exact h1
    have e2:Nat.beq (cls o.op) 2=false:=by
     cases hq:Nat.beq (cls o.op) 2
     ·rfl
     ·exact absurd (ay hq) h2
    have e3:Bool.or (Nat.beq (cls o.op) 1) (vk o.op)=true:=by
     rcases h3 with h3 | h3
     ·rw [h3];rfl
     ·rw [h3];exact Bool.or_true _
    rw [e1,e2,e3]
    rfl
   rw [hb] at h
   have h:bG (Bool.or (gu m i) (gu rs i)) (kE m l (Nat.succ i) done rs) false=true:=h
   cases hc:Bool.or (gu m i) (gu rs i)
   ·rw [hc] at h;cases h
   ·have hc:(gu m i || gu rs i)=true:=hc
    rw [Bool.or_eq_true,oD,oD] at hc
    exact hc
  | succ k=>
   rw [show i + (k + 1)=i + 1 + k by omega] at h1 ⊢
   exact DR l (i + 1) done rs rest k o' (by simpa using hk) h1 h2 h3
theorem Tz {ops:List Oper} {b:Tr Nat} {i done:Nat} {k:Bool} (h:qOk ops b i done k=true):∃o,ops[i]? =some o∧(k=true↔cls o.op=2)∧done.testBit i=false∧∀j,(kL (b.get i)).testBit j=true→done.testBit j=true:=by
 have h: @Option.rec Oper (fun _=> Bool) false (fun o=> Bool.and (bG (Nat.beq (cls o.op) 2) k (Bool.not k)) (Bool.and (Bool.not (gu done i)) (inB (kL (b.get i)) done))) (nth ops i)=true:=h
 rw [iE] at h
 cases ho:ops[i]? with
 | none=> rw [ho] at h;cases h
 | some o=>
  rw [ho] at h
  obtain ⟨h1,h2⟩:=and_true h
  obtain ⟨h2,h3⟩:=and_true h2
  refine ⟨o,rfl,?_,?_,fun j hj=> afQ h3 hj⟩
  ·cases hb:Nat.beq (cls o.op) 2
   ·rw [hb] at h1
    cases k
    ·exact ⟨fun h=> (by cases h),fun e=> by rw [e] at hb;cases hb⟩
    ·cases h1
   ·rw [hb] at h1
    have h1:k=true:=h1
    exact ⟨fun _=> ay hb,fun _=> h1⟩
  ·rw [oD] at h2
   cases hb:done.testBit i
   ·rfl
   ·rw [hb] at h2;cases h2
end Ci
namespace Ci
open Go.RowKit
variable [fE]
theorem afT (b:Builtin):ake b=0∨ake b=2:=by cases b <;> first | exact Or.inl rfl | exact Or.inr rfl
theorem Jj (op:Op):cls op=0∨cls op=1∨cls op=2:=by
 cases op with
 | call c=>
  obtain ⟨callee,args,ts⟩:=c
  cases callee with
  | builtin b=>
   rcases afT b with h | h
   ·exact Or.inl h
   ·exact Or.inr (Or.inr h)
  | _=> exact Or.inr (Or.inr rfl)
 | _=> first | exact Or.inl rfl | exact Or.inr (Or.inl rfl) | exact Or.inr (Or.inr rfl)
theorem afU {P:Program} {E:Tr CV} {h h':Tr aP} {ty:TypeId} {op:Op} (hr:vk op=false):exQ P E h ty op=exQ P E h' ty op:=by
 cases op <;> first | rfl | cases hr
theorem yV {a b:Kd} (h:KE a b=true):a=b:=by
 cases a <;> cases b <;> first | rfl | (rw [ay h];done) | cases h
theorem TA {a b:aP} (h:tq a b=true):a=b:=by
 unfold tq at h
 split at h
 ·obtain ⟨h1,h2⟩:=and_true h
  rw [yV h1,o7 h2]
 ·rw [ay h]
 ·cases h
theorem TB {ops:Array Oper} {E E':Tr CV} {o:Oper} (h:∀t∈o.looksAt ops,E.get t=E'.get t):want ops.toList E o.guard=want ops.toList E' o.guard:=by
 cases hg:o.guard with
 | none=> rfl
 | some g=>
  show ob (nth ops.toList g.1) (fun o=> ob o.dst fun t=> ob (E.get t) (wM g.2))=ob (nth ops.toList g.1) (fun o=> ob o.dst fun t=> ob (E'.get t) (wM g.2))
  cases h1:nth ops.toList g.1 with
  | none=> rfl
  | some o'=>
   show ob o'.dst (fun t=> ob (E.get t) (wM g.2))=ob o'.dst (fun t=> ob (E'.get t) (wM g.2))
   cases h2:o'.dst with
   | none=> rfl
   | some t=>
    show ob (E.get t) (wM g.2)=ob (E'.get t) (wM g.2)
    rw [iE,Array.getElem?_toList] at h1
    rw [h t (by
     unfold Oper.looksAt
     rw [hg]
     simp [h1,h2])]
structure Pl (ops:Array Oper) (b:Tr Nat) (nt:Nat):Prop where
 uniq:∀(i j:Nat) (o o':Oper) (d:Tmp),ops[i]? =some o→ops[j]? =some o'→o.dst=some d→o'.dst=some d→i=j
 reads:∀(i:Nat) (o:Oper),ops[i]? =some o→∀t∈o.looksAt ops,∀(j:Nat) (o':Oper),ops[j]? =some o'→o'.dst=some t→(kL (b.get i)).testBit j=true∨(wP o=true∧(kL (b.get j)).testBit i=true)
 back:∀(i:Nat) (o:Oper),ops[i]? =some o→∀e∈o.after,Region.binds .any e=true→e.on < i
 bef:Bef ops.toList b
 dst:∀(i:Nat) (o:Oper),ops[i]? =some o→∀t,o.dst=some t→t < nt
def Early (ops:Array Oper) (b:Tr Nat) (i:Nat) (t:Tmp):Prop:=∀(j:Nat) (o':Oper),ops[j]? =some o'→o'.dst=some t→(kL (b.get i)).testBit j=true
def Late (ops:Array Oper) (b:Tr Nat) (i:Nat) (t:Tmp):Prop:=∀(j:Nat) (o':Oper),ops[j]? =some o'→o'.dst=some t→(kL (b.get j)).testBit i=true
theorem Pl.kind {ops:Array Oper} {b:Tr Nat} {nt:Nat} (hpl:Pl ops b nt) {i:Nat} {o:Oper} (hi:ops[i]? =some o) {t:Tmp} (ht:t∈o.looksAt ops):Early ops b i t∨(wP o=true∧Late ops b i t):=by
 by_cases h:Early ops b i t
 ·exact Or.inl h
 ·right
  unfold Early at h
  have:∃(j:Nat) (o':Oper),ops[j]? =some o'∧o'.dst=some t∧¬(kL (b.get i)).testBit j=true:=by
   by_cases hq:∃(j:Nat) (o':Oper),ops[j]? =some o'∧o'.dst=some t∧¬(kL (b.get i)).testBit j=true
   ·exact hq
   ·exact absurd (fun j o' hj hd=> Classical.byContradiction fun hn=> hq ⟨j,o',hj,hd,hn⟩) h
  obtain ⟨j,o',hj,hd,hn⟩:=this
  rcases hpl.reads i o hi t ht j o' hj hd with e | ⟨e1,e2⟩
  ·exact absurd e hn
  ·refine ⟨e1,fun k o2 hk hd2=> ?_⟩
   rw [hpl.uniq k j o2 o' t hk hj hd2 hd]
   exact e2
def Src (ops:Array Oper) (b:Tr Nat) (E0:Tr CV) (st:dY) (i:Nat) (o:Oper) (E:Tr CV) (t:Tmp):Prop:=(E.get t=st.env.get t∧Early ops b i t)∨(wP o=true∧E.get t=E0.get t∧Late ops b i t)
def Yc (P:Program) (ops:Array Oper) (b:Tr Nat) (E0:Tr CV) (base:Nat) (st:dY) (i:Nat) (o:Oper):Prop:=∃(E:Tr CV) (h:Tr aP),(∀l c,h.get l=some c→st.h.get l=some c)∧(∀t∈o.looksAt ops,Src ops b E0 st i o E t)∧∃u,want ops.toList E o.guard=some u∧
 ((u=false∧∀d,o.dst=some d→st.env.get d=some (.bH []))∨
  (u=true∧((cls o.op=0∧∃v,exQ P E h o.type o.op=some v∧∀d,o.dst=some d→st.env.get d=some v)∨
   (cls o.op=1∧∃v blk,exA P E o.op (base + i)=some (v,blk)∧st.h.get (base + i)=some blk∧∀d,o.dst=some d→st.env.get d=some v))))
theorem Src.step {ops:Array Oper} {b:Tr Nat} {E0:Tr CV} {st st':dY} {i:Nat} {o:Oper} {E:Tr CV} {t:Tmp} (h:Src ops b E0 st i o E t) (he:Early ops b i t→st'.env.get t=st.env.get t):Src ops b E0 st' i o E t:=by
 rcases h with ⟨h1,h2⟩ | h
 ·exact Or.inl ⟨by rw [he h2];exact h1,h2⟩
 ·exact Or.inr h
theorem Yc.step {P:Program} {ops:Array Oper} {b:Tr Nat} {E0:Tr CV} {base:Nat} {st st':dY} {i:Nat} {o:Oper} (hp:Yc P ops b E0 base st i o) (hh:∀l c,st.h.get l=some c→st'.h.get l=some c) (he:∀t∈o.looksAt ops,Early ops b i t→st'.env.get t=st.env.get t) (hd:∀d,o.dst=some d→st'.env.get d=st.env.get d):Yc P ops b E0 base st' i o:=by
 obtain ⟨E,h,h1,h2,u,h3,h4⟩:=hp
 refine ⟨E,h,fun l c hc=> hh l c (h1 l c hc),fun t ht=> (h2 t ht).step (he t ht),u,h3,?_⟩
 rcases h4 with ⟨h5,h6⟩ | ⟨h5,h6⟩
 ·exact Or.inl ⟨h5,fun d hd'=> by rw [hd d hd'];exact h6 d hd'⟩
 ·refine Or.inr ⟨h5,?_⟩
  rcases h6 with ⟨h7,v,h8,h9⟩ | ⟨h7,v,blk,h8,h9,h10⟩
  ·exact Or.inl ⟨h7,v,h8,fun d hd'=> by rw [hd d hd'];exact h9 d hd'⟩
  ·exact Or.inr ⟨h7,v,blk,h8,hh _ _ h9,fun d hd'=> by rw [hd d hd'];exact h10 d hd'⟩
structure Inv (P:Program) (ops:Array Oper) (b:Tr Nat) (E0:Tr CV) (base:Nat) (w0:Base) (nt:Nat) (σ0:Nm) (st:dY) (D X:Nat→Prop) (σ:Nm) (a:Act) (w:World):Prop where
 r:R w0 σ st.h st.nx w
 le:Le σ0 σ
 low:∀j,j < base→σ j=σ0 j
 room:base + ops.size≤st.nx
 size:a.tmps.size=nt
 defers:a.defers= []
 env:∀t c,st.env.get t=some c→(∀i o,ops[i]? =some o→o.dst=some t→X i)→∃v,a.tmps[t]? =some v∧VR σ c v
 aci:∀t c,E0.get t=some c→(∀i o,ops[i]? =some o→o.dst=some t→¬X i)→∃v,a.tmps[t]? =some v∧VR σ c v
 acj:∀t,(∀i o,ops[i]? =some o→o.dst=some t→¬D i)→st.env.get t=E0.get t
 sub:∀i,X i→D i
 eff:∀i o,ops[i]? =some o→D i→cls o.op=2→X i
 cD:∀i,D i→∀j,(kL (b.get i)).testBit j=true→D j
 cX:∀i,X i→∀j,(kL (b.get i)).testBit j=true→X j
 lab:∀i o,ops[i]? =some o→cls o.op=1→¬X i→σ (base + i)=none
 pend:∀i o,ops[i]? =some o→D i→¬X i→Yc P ops b E0 base st i o
section
variable {P : Program} {G : Base → Prop} {C : Callee} {ops : Array Oper} {b : Tr Nat} {E0 : Tr CV} {base nt : Nat} {w0 : Base} {w : World} {σ0 σ : Nm} {st st' : dY} {D X : Nat → Prop} {a : Act} {o : Oper} {i : Nat} {Q : Exit → Act → World → Prop} {K : Act → World → Prop}
theorem kG {E:Tr CV} {d:Option Tmp} {v:CV} {t:Tmp} (h:d≠some t):(aZ E d v).get t=E.get t:=by
 cases d with
 | none=> rfl
 | some d=> exact dK _ _ fun e=> h (by rw [e])
theorem tN {E:Tr CV} {d:Option Tmp} {v:CV} {t:Tmp} (h:d=some t):(aZ E d v).get t=some v:=by
 subst h
 exact dR _ _ _
theorem Pl.fresh (hpl:Pl ops b nt) {D:Nat→Prop} {i j:Nat} {o o':Oper} (hi:ops[i]? =some o) (hj:ops[j]? =some o') (hc:∀k,(kL (b.get j)).testBit k=true→D k) (hD:¬D i):(∀t∈o'.looksAt ops,Early ops b j t→o.dst≠some t)∧(i≠j→∀d,o'.dst=some d→o.dst≠some d):=
 ⟨fun t _ he e=> hD (hc i (he i o hi e)),fun hne d hd e=> hne (hpl.uniq i j o o' d hi hj e hd)⟩
theorem Inv.plan (hpl:Pl ops b nt) (h:Inv P ops b E0 base w0 nt σ0 st D X σ a w) (hi:ops[i]? =some o) (hk:cls o.op≠2) (hD:¬D i) (hb:∀j,(kL (b.get i)).testBit j=true→D j) (hr:Hq P C ops.toList o (base + i) st=some st'):
  Inv P ops b E0 base w0 nt σ0 st' (fun j=> D j∨j=i) X σ a w:=by
 have hX:¬X i:=fun e=> hD (h.sub i e)
 obtain ⟨u,h1,h2⟩:=aj hr
 have key:∃v,(∀t,st'.env.get t=(aZ st.env o.dst v).get t)∧st'.nx=st.nx∧(∀l c,st.h.get l=some c→st'.h.get l=some c)∧(∀l,st'.h.get l=st.h.get l∨(l=base + i∧cls o.op=1))∧Yc P ops b E0 base st' i o:=by
  have hself:=hpl.fresh hi hi hb hD
  have src:∀(st2:dY) (v:CV),st2.env=aZ st.env o.dst v→∀t∈o.looksAt ops,Src ops b E0 st2 i o st.env t:=fun st2 v he t ht=> by
   rcases hpl.kind hi ht with e | ⟨e1,e2⟩
   ·refine Or.inl ⟨?_,e⟩
    rw [he]
    exact (kG (hself.1 t ht e)).symm
   ·exact Or.inr ⟨e1,h.acj t fun j o' hj hd e=> hD (h.cD j e i (e2 j o' hj hd)),e2⟩
  cases u
  ·injection (show some (⟨aZ st.env o.dst (.bH []),st.h,st.nx⟩:dY)=some st' from h2) with h2
   subst h2
   exact ⟨.bH [],fun t=> rfl,rfl,fun _ _ h=> h,fun _=> Or.inl rfl,st.env,st.h,fun _ _ h=> h,src _ _ rfl,false,h1,Or.inl ⟨rfl,fun d hd=> tN hd⟩⟩
  ·have h3:ex1 P C o (base + i) st=some st':=h2
   unfold ex1 at h3
   rcases Jj o.op with e | e | e
   ·rw [e] at h3
    obtain ⟨v,h4,h5⟩:=aj (show doQ st o.dst (exQ P st.env st.h o.type o.op)=some st' from h3)
    injection h5 with h5
    subst h5
    exact ⟨v,fun t=> rfl,rfl,fun _ _ h=> h,fun _=> Or.inl rfl,st.env,st.h,fun _ _ h=> h,src _ _ rfl,true,h1,Or.inr ⟨rfl,Or.inl ⟨e,v,h4,fun d hd=> tN hd⟩⟩⟩
   ·rw [e] at h3
    obtain ⟨q,h4,h5⟩:=aj (show doA st o.dst (base + i) (exA P st.env o.op (base + i))=some st' from h3)
    obtain ⟨h6,h7⟩:=jK h5
    injection h7 with h7
    subst h7
    refine ⟨q.1,fun t=> rfl,rfl,fun l c hl=> ?_,fun l=> ?_,st.env,st.h,fun l c hl=> ?_,src _ _ rfl,true,h1,Or.inr ⟨rfl,Or.inr ⟨e,q.1,q.2,h4,dR _ _ _,fun d hd=> tN hd⟩⟩⟩
    ·by_cases hl':l=base + i
     ·rw [hl',h6] at hl;cases hl
     ·show (st.h.put (base + i) q.2).get l=_
      rw [dK _ _ hl'];exact hl
    ·by_cases hl':l=base + i
     ·exact Or.inr ⟨hl',e⟩
     ·exact Or.inl (dK _ _ hl')
    ·by_cases hl':l=base + i
     ·rw [hl',h6] at hl;cases hl
     ·show (st.h.put (base + i) q.2).get l=_
      rw [dK _ _ hl'];exact hl
   ·exact absurd e hk
 obtain ⟨v,e1,e2,e3,e4,e5⟩:=key
 refine ⟨h.r.heap (by rw [e2];exact Nat.le_refl _) fun l c hl=> ?_,h.le,h.low,by rw [e2];exact h.room,h.size,h.defers,fun t c hc hw=> ?_,h.aci,fun t hw=> ?_,fun j hj=> Or.inl (h.sub j hj),fun j o' hj hd hc=> ?_,fun j hj k hk'=> ?_,h.cX,h.lab,fun j o' hj hd hx=> ?_⟩
 ·rcases e4 l with e | ⟨e,ec⟩
  ·exact Or.inl e
  ·rw [e,h.lab i o hi ec hX] at hl
   cases hl
 ·rw [e1] at hc
  by_cases ht:o.dst=some t
  ·exact absurd (hw i o hi ht) hX
  ·rw [kG ht] at hc
   exact h.env t c hc hw
 ·rw [e1,kG fun e=> hw i o hi e (Or.inr rfl)]
  exact h.acj t fun j o' hj hd e=> hw j o' hj hd (Or.inl e)
 ·rcases hd with hd | hd
  ·exact h.eff j o' hj hd hc
  ·subst hd
   rw [hi] at hj
   injection hj with hj
   subst hj
   exact absurd hc hk
 ·rcases hj with hj | hj
  ·exact Or.inl (h.cD j hj k hk')
  ·subst hj
   exact Or.inl (hb k hk')
 ·by_cases hji:j=i
  ·subst hji
   rw [hi] at hj
   injection hj with hj
   subst hj
   exact e5
  ·have hd:D j:=by
    rcases hd with hd | hd
    ·exact hd
    ·exact absurd hd hji
   obtain ⟨f1,f2⟩:=hpl.fresh hi hj (h.cD j hd) hD
   exact (h.pend j o' hj hd hx).step e3 (fun t ht he=> by rw [e1];exact kG (f1 t ht he)) fun d hd'=> by rw [e1];exact kG (f2 (fun e=> hji e.symm) d hd')
theorem Inv.come (hpl:Pl ops b nt) (h:Inv P ops b E0 base w0 nt σ0 st D X σ a w) (hi:ops[i]? =some o) (hD:D i) (hX:¬X i) (hb:∀j,(kL (b.get i)).testBit j=true→X j)
  (hK:∀σ' a' w',Inv P ops b E0 base w0 nt σ0 st D (fun j=> X j∨j=i) σ' a' w'→K a' w'):if Region.wanted o (yielded ops a.tmps) then o.wp P a w K Q else K (a.put o.dst undef) w:=by
 obtain ⟨E,h0,p1,p2,u,p3,p4⟩:=h.pend i o hi hD hX
 have hlook:∀t∈o.looksAt ops,∀c,E.get t=some c→∃v,a.tmps[t]? =some v∧VR σ c v:=fun t ht c hc=> by
  rcases p2 t ht with ⟨e1,e2⟩ | ⟨_,e2,e3⟩
  ·exact h.env t c (by rw [←e1];exact hc) fun j o' hj hd=> hb j (e2 j o' hj hd)
  ·exact h.aci t c (by rw [←e2];exact hc) fun j o' hj hd e=> hX (h.cX j e i (e3 j o' hj hd))
 have hev:yg σ E a.eval o.op.operands:=fun x hx c hc=> bI (fun t ht c hc=> hlook t (by
  subst ht
  unfold Oper.looksAt
  exact List.mem_append_left _ (List.mem_filterMap.2 ⟨.tmp t,by simpa using hx,rfl⟩)) c hc) hc
 have hr0:R w0 σ h0 st.nx w:=h.r.heap (Nat.le_refl _) fun l c _=> by
  cases hl:h0.get l with
  | none=> exact Or.inr rfl
  | some c'=> exact Or.inl (p1 l c' hl).symm
 have fin:∀(σ':Nm) (x:Value) (w':World) (v:CV),Le σ σ'→R w0 σ' st.h st.nx w'→(∀j,j≠base + i→σ' j=σ j)→(cls o.op≠1→σ' (base + i)=σ (base + i))→VR σ' v x→(∀d,o.dst=some d→st.env.get d=some v)→K (a.put o.dst x) w':=by
  intro σ' x w' v hle hr hne hne2 hv hd
  refine hK σ' _ w' ⟨hr,h.le.trans hle,fun j hj=> by rw [hne j (by omega)];exact h.low j hj,h.room,by rw [iW];exact h.size,by rw [put_defers];exact h.defers,fun t c hc hw=> ?_,fun t c hc hw=> ?_,h.acj,fun j hj=> ?_,fun j o' hj hdj hc=> Or.inl (h.eff j o' hj hdj hc),h.cD,fun j hj k hk=> ?_,fun j o' hj hc hx=> ?_,fun j o' hj hdj hx=> h.pend j o' hj hdj fun e=> hx (Or.inl e)⟩
  ·by_cases ht:o.dst=some t
   ·rw [hd t ht] at hc
    injection hc with hc
    subst hc
    refine ⟨x,?_,hv⟩
    rw [ht]
    have:t < a.tmps.size:=by rw [h.size];exact hpl.dst i o hi t ht
    simp [Act.put,this]
   ·obtain ⟨y,y1,y2⟩:=h.env t c hc fun j o' hj hdj=> by
     rcases hw j o' hj hdj with e | e
     ·exact e
     ·subst e
      rw [hi] at hj
      injection hj with hj
      subst hj
      exact absurd hdj ht
    refine ⟨y,?_,y2.mono hle⟩
    cases hdst:o.dst with
    | none=> exact y1
    | some d=>
     have:d≠t:=fun e=> ht (by rw [hdst,e])
     simp only [Act.put]
     rw [Array.getElem?_setIfInBounds_ne this]
     exact y1
  ·obtain ⟨y,y1,y2⟩:=h.aci t c hc fun j o' hj hdj e=> hw j o' hj hdj (Or.inl e)
   refine ⟨y,?_,y2.mono hle⟩
   cases hdst:o.dst with
   | none=> exact y1
   | some d=>
    have:d≠t:=fun e=> hw i o hi (by rw [hdst,e]) (Or.inr rfl)
    simp only [Act.put]
    rw [Array.getElem?_setIfInBounds_ne this]
    exact y1
  ·rcases hj with hj | hj
   ·exact h.sub j hj
   ·rw [hj];exact hD
  ·rcases hj with hj | hj
   ·exact Or.inl (h.cX j hj k hk)
   ·subst hj
    exact Or.inl (hb k hk)
  ·have hji:j≠i:=fun e=> hx (Or.inr e)
   rw [hne (base + j) (by omega)]
   exact h.lab j o' hj hc fun e=> hx (Or.inl e)
 rw [Lj hlook p3]
 rcases p4 with ⟨rfl,p5⟩ | ⟨rfl,p5⟩
 ·rw [if_neg (by simp)]
  exact fin σ undef w (.bH []) (.refl σ) h.r (fun _ _=> rfl) (fun _=> rfl) (.unit σ) p5
 ·rw [if_pos rfl]
  rcases p5 with ⟨e,v,p6,p7⟩ | ⟨e,v,blk,p6,p7,p8⟩
  ·obtain ⟨x,q1,q2⟩:=ab7 (ρ:=a.eval) hr0 hev p6
   exact iU q1 (fin σ x w v (.refl σ) h.r (fun _ _=> rfl) (fun _=> rfl) q2 p7)
  ·obtain ⟨obj,room,x,q1,q2⟩:=ab8 (σ:=σ) (ρ:=a.eval) (w:=w) hev p6
   have hn:=h.lab i o hi e hX
   obtain ⟨q3,q4⟩:=q2 (um σ (base + i) ⟨w.heap.size,0,room⟩) (jg _ hn) (jS _ _ _)
   have hlt:base + i < st.nx:=by
    have h1:=h.room
    have h2:=(Array.getElem?_eq_some_iff.1 hi).1
    omega
   have hr:=h.r.new (H':=st.h) (nx':=st.nx) (room:=room) hn hlt (Nat.le_refl _) p7 (fun _ _=> rfl) obj q3
   exact iU q1 (fin (um σ (base + i) ⟨w.heap.size,0,room⟩) x (w.alloc obj) v (jg _ hn) hr (fun j hj=> lu σ _ hj) (fun hne=> absurd e hne) q4 p8)
theorem DT {P:Program} {ops:List Oper} {base:Nat} {st:dY}:∀{rs:List Nat},again P ops base st rs=true→∀i∈rs,∃o,ops[i]? =some o∧∃u,want ops st.env o.guard=some u∧(u=true→qp P o (base + i) st=true)
 | [],_,i,hi=> by cases hi
 | j::rs,h,i,hi=> by
  have h: @Option.rec Oper (fun _=> Bool) false (fun o=> @Option.rec Bool (fun _=> Bool) false (fun w=> bG w (bG (qp P o (Nat.add base j) st) (again P ops base st rs) false) (again P ops base st rs)) (want ops st.env o.guard)) (nth ops j)=true:=h
  rw [iE] at h
  cases ho:ops[j]? with
  | none=> rw [ho] at h;cases h
  | some o=>
   rw [ho] at h
   have h: @Option.rec Bool (fun _=> Bool) false (fun w=> bG w (bG (qp P o (Nat.add base j) st) (again P ops base st rs) false) (again P ops base st rs)) (want ops st.env o.guard)=true:=h
   cases hw:want ops st.env o.guard with
   | none=> rw [hw] at h;cases h
   | some u=>
    rw [hw] at h
    have h:bG u (bG (qp P o (Nat.add base j) st) (again P ops base st rs) false) (again P ops base st rs)=true:=h
    cases u
    ·rcases List.mem_cons.1 hi with rfl | hi
     ·exact ⟨o,ho,false,hw,fun e=> by cases e⟩
     ·exact DT h i hi
    ·have h:bG (qp P o (Nat.add base j) st) (again P ops base st rs) false=true:=h
     cases hb:qp P o (Nat.add base j) st
     ·rw [hb] at h;cases h
     ·rw [hb] at h
      rcases List.mem_cons.1 hi with rfl | hi
      ·exact ⟨o,ho,true,hw,fun _=> hb⟩
      ·exact DT h i hi
theorem Qp {o:Oper} {i:Nat} (hw:∃u,want ops.toList st.env o.guard=some u∧(u=true→qp P o (base + i) st=true)∧(u=false→∀d,o.dst=some d→st.env.get d=some (.bH []))) (hk:cls o.op≠2) (hE:∀t∈o.looksAt ops,Early ops b i t):Yc P ops b E0 base st i o:=by
 obtain ⟨u,h1,h2,h3⟩:=hw
 refine ⟨st.env,st.h,fun _ _ h=> h,fun t ht=> Or.inl ⟨rfl,hE t ht⟩,u,h1,?_⟩
 cases u
 ·exact Or.inl ⟨rfl,h3 rfl⟩
 ·refine Or.inr ⟨rfl,?_⟩
  have h2:=h2 rfl
  unfold qp at h2
  rcases Jj o.op with e | e | e
  ·rw [e] at h2
   have h2: @Option.rec CV (fun _=> Bool) false (fun v=> @Option.rec Tmp (fun _=> Bool) true (fun d=> @Option.rec CV (fun _=> Bool) false (same v) (st.env.get d)) o.dst) (exQ P st.env st.h o.type o.op)=true:=h2
   cases hq:exQ P st.env st.h o.type o.op with
   | none=> rw [hq] at h2;cases h2
   | some v=>
    rw [hq] at h2
    have h2: @Option.rec Tmp (fun _=> Bool) true (fun d=> @Option.rec CV (fun _=> Bool) false (same v) (st.env.get d)) o.dst=true:=h2
    refine Or.inl ⟨e,v,rfl,fun d hd=> ?_⟩
    rw [hd] at h2
    have h2: @Option.rec CV (fun _=> Bool) false (same v) (st.env.get d)=true:=h2
    cases hg:st.env.get d with
    | none=> rw [hg] at h2;cases h2
    | some c=>
     rw [hg] at h2
     rw [same_eq (show same v c=true from h2)]
  ·rw [e] at h2
   have h2: @Option.rec (CV×aP) (fun _=> Bool) false (fun q=> Bool.and (@Option.rec aP (fun _=> Bool) false (tq q.2) (st.h.get (base + i))) (@Option.rec Tmp (fun _=> Bool) true (fun d=> @Option.rec CV (fun _=> Bool) false (same q.1) (st.env.get d)) o.dst)) (exA P st.env o.op (base + i))=true:=h2
   cases hq:exA P st.env o.op (base + i) with
   | none=> rw [hq] at h2;cases h2
   | some q=>
    rw [hq] at h2
    obtain ⟨k1,k2⟩:=and_true (show Bool.and (@Option.rec aP (fun _=> Bool) false (tq q.2) (st.h.get (base + i))) (@Option.rec Tmp (fun _=> Bool) true (fun d=> @Option.rec CV (fun _=> Bool) false (same q.1) (st.env.get d)) o.dst)=true from h2)
    refine Or.inr ⟨e,q.1,q.2,rfl,?_,fun d hd=> ?_⟩
    ·cases hg:st.h.get (base + i) with
     | none=> rw [hg] at k1;cases k1
     | some c=>
      rw [hg] at k1
      rw [TA (show tq q.2 c=true from k1)]
    ·rw [hd] at k2
     have k2: @Option.rec CV (fun _=> Bool) false (same q.1) (st.env.get d)=true:=k2
     cases hg:st.env.get d with
     | none=> rw [hg] at k2;cases k2
     | some c=>
      rw [hg] at k2
      rw [same_eq (show same q.1 c=true from k2)]
  ·exact absurd e hk
theorem Inv.effect (hC:jq P G C) (hG:G w0) (hpl:Pl ops b nt) (h:Inv P ops b E0 base w0 nt σ0 st D X σ a w) (hi:ops[i]? =some o) (hk:cls o.op=2) (hD:¬D i) (hb:∀j,(kL (b.get i)).testBit j=true→X j) (hr:Hq P C ops.toList o (base + i) st=some st') {rs:List Nat} (ha:again P ops.toList base st' rs=true)
  (hag:∀j o',ops[j]? =some o'→D j→¬X j→(cls o'.op=1∨vk o'.op=true)→j∈rs)
  (hK:∀σ' a' w',Inv P ops b E0 base w0 nt σ0 st' (fun j=> D j∨j=i) (fun j=> X j∨j=i) σ' a' w'→K a' w'):if Region.wanted o (yielded ops a.tmps) then o.wp P a w K Q else K (a.put o.dst undef) w:=by
 have hX:¬X i:=fun e=> hD (h.sub i e)
 have hlook:∀t∈o.looksAt ops,∀c,st.env.get t=some c→∃v,a.tmps[t]? =some v∧VR σ c v:=fun t ht c hc=> by
  rcases hpl.kind hi ht with e | ⟨_,e⟩
  ·exact h.env t c hc fun j o' hj hd=> hb j (e j o' hj hd)
  ·have hnd:∀j o',ops[j]? =some o'→o'.dst=some t→¬D j:=fun j o' hj hd e'=> hD (h.cD j e' i (e j o' hj hd))
   exact h.aci t c (by rw [←h.acj t hnd];exact hc) fun j o' hj hd e'=> hnd j o' hj hd (h.sub j e')
 have hev:yg σ st.env a.eval o.op.operands:=fun x hx c hc=> bI (fun t ht c hc=> hlook t (by
  subst ht
  unfold Oper.looksAt
  exact List.mem_append_left _ (List.mem_filterMap.2 ⟨.tmp t,by simpa using hx,rfl⟩)) c hc) hc
 obtain ⟨u,h1,h2⟩:=aj hr
 have fin:∀(σ':Nm) (x:Value) (w':World) (v:CV) (H':Tr aP) (nx':Nat),st'=⟨aZ st.env o.dst v,H',nx'⟩→Le σ σ'→(∀j,j < st.nx→σ' j=σ j)→R w0 σ' H' nx' w'→st.nx≤nx'→VR σ' v x→K (a.put o.dst x) w':=by
  intro σ' x w' v H' nx' hst hle hlow hr' hnx hv
  subst hst
  have hroom:=h.room
  refine hK σ' _ w' ⟨hr',h.le.trans hle,fun j hj=> by rw [hlow j (by omega)];exact h.low j hj,Nat.le_trans hroom hnx,by rw [iW];exact h.size,by rw [put_defers];exact h.defers,fun t c hc hw=> ?_,fun t c hc hw=> ?_,fun t hw=> ?_,fun j hj=> ?_,fun j o' hj hdj hc=> ?_,fun j hj k hk'=> ?_,fun j hj k hk'=> ?_,fun j o' hj hc hx=> ?_,fun j o' hj hdj hx=> ?_⟩
  ·have hc:(aZ st.env o.dst v).get t=some c:=hc
   by_cases ht:o.dst=some t
   ·rw [tN ht] at hc
    injection hc with hc
    subst hc
    refine ⟨x,?_,hv⟩
    rw [ht]
    have:t < a.tmps.size:=by rw [h.size];exact hpl.dst i o hi t ht
    simp [Act.put,this]
   ·rw [kG ht] at hc
    obtain ⟨y,y1,y2⟩:=h.env t c hc fun j o' hj hdj=> by
     rcases hw j o' hj hdj with e | e
     ·exact e
     ·subst e
      rw [hi] at hj
      injection hj with hj
      subst hj
      exact absurd hdj ht
    refine ⟨y,?_,y2.mono hle⟩
    cases hdst:o.dst with
    | none=> exact y1
    | some d=>
     have:d≠t:=fun e=> ht (by rw [hdst,e])
     simp only [Act.put]
     rw [Array.getElem?_setIfInBounds_ne this]
     exact y1
  ·obtain ⟨y,y1,y2⟩:=h.aci t c hc fun j o' hj hdj e=> hw j o' hj hdj (Or.inl e)
   refine ⟨y,?_,y2.mono hle⟩
   cases hdst:o.dst with
   | none=> exact y1
   | some d=>
    have:d≠t:=fun e=> hw i o hi (by rw [hdst,e]) (Or.inr rfl)
    simp only [Act.put]
    rw [Array.getElem?_setIfInBounds_ne this]
    exact y1
  ·show (aZ st.env o.dst v).get t=E0.get t
   rw [kG fun e=> hw i o hi e (Or.inr rfl)]
   exact h.acj t fun j o' hj hd e=> hw j o' hj hd (Or.inl e)
  ·rcases hj with hj | hj
   ·exact Or.inl (h.sub j hj)
   ·exact Or.inr hj
  ·rcases hdj with hdj | hdj
   ·exact Or.inl (h.eff j o' hj hdj hc)
   ·exact Or.inr hdj
  ·rcases hj with hj | hj
   ·exact Or.inl (h.cD j hj k hk')
   ·subst hj
    exact Or.inl (h.sub k (hb k hk'))
  ·rcases hj with hj | hj
   ·exact Or.inl (h.cX j hj k hk')
   ·subst hj
    exact Or.inl (hb k hk')
  ·have hjs:=(Array.getElem?_eq_some_iff.1 hj).1
   rw [hlow (base + j) (by omega)]
   exact h.lab j o' hj hc fun e=> hx (Or.inl e)
  ·have hji:j≠i:=fun e=> hx (Or.inr e)
   have hd0:D j:=by
    rcases hdj with e | e
    ·exact e
    ·exact absurd e hji
   have hx0:¬X j:=fun e=> hx (Or.inl e)
   have hkj:cls o'.op≠2:=fun e=> hx0 (h.eff j o' hj hd0 e)
   obtain ⟨f1,f2⟩:=hpl.fresh hi hj (h.cD j hd0) hD
   have g1:∀t∈o'.looksAt ops,Early ops b j t→(aZ st.env o.dst v).get t=st.env.get t:=fun t ht he=> kG (f1 t ht he)
   have g2:∀d,o'.dst=some d→(aZ st.env o.dst v).get d=st.env.get d:=fun d hd=> kG (f2 (fun e=> hji e.symm) d hd)
   obtain ⟨E,m,p1,p2,u',p3,p4⟩:=h.pend j o' hj hd0 hx0
   by_cases hin:cls o'.op=1∨vk o'.op=true
   ·have hnl:¬wP o'=true:=fun e=> by
     rcases ach e with e | e
     ·exact e hin
     ·exact hkj e
    have hE:∀t∈o'.looksAt ops,Early ops b j t:=fun t ht=> by
     rcases hpl.kind hj ht with e | ⟨e,_⟩
     ·exact e
     ·exact absurd e hnl
    have hwc:want ops.toList E o'.guard=want ops.toList (aZ st.env o.dst v) o'.guard:=TB fun t ht=> by
     rcases p2 t ht with ⟨e1,e2⟩ | ⟨e1,_⟩
     ·rw [e1,g1 t ht e2]
     ·exact absurd e1 hnl
    obtain ⟨o2,k1,u2,k2,k3⟩:=DT ha j (hag j o' hj hd0 hx0 hin)
    rw [Array.getElem?_toList,hj] at k1
    injection k1 with k1
    subst k1
    refine Qp ⟨u2,k2,k3,fun hu d hd=> ?_⟩ hkj hE
    subst hu
    have hu':u'=false:=by
     have:some u'=some false:=by rw [←p3,hwc];exact k2
     injection this
    rcases p4 with ⟨_,p5⟩ | ⟨p5,_⟩
    ·exact (g2 d hd).trans (p5 d hd)
    ·rw [hu'] at p5;cases p5
   ·have hrd:vk o'.op=false:=by
     cases hq:vk o'.op
     ·rfl
     ·exact absurd (Or.inr hq) hin
    refine ⟨E,.e,(fun l c hl=> by rw [Jb] at hl;cases hl),fun t ht=> (p2 t ht).step (g1 t ht),u',p3,?_⟩
    rcases p4 with ⟨p5,p6⟩ | ⟨p5,p6⟩
    ·exact Or.inl ⟨p5,fun d hd=> (g2 d hd).trans (p6 d hd)⟩
    ·rcases p6 with ⟨p7,v',p8,p9⟩ | ⟨p7,_⟩
     ·exact Or.inr ⟨p5,Or.inl ⟨p7,v',by rw [←p8];exact afU hrd,fun d hd=> (g2 d hd).trans (p9 d hd)⟩⟩
     ·exact absurd (Or.inl p7) hin
 rw [Lj hlook h1]
 cases u
 ·injection (show some (⟨aZ st.env o.dst (.bH []),st.h,st.nx⟩:dY)=some st' from h2) with h2
  rw [if_neg (by simp)]
  exact fin σ undef w (.bH []) st.h st.nx h2.symm (.refl σ) (fun _ _=> rfl) h.r (Nat.le_refl _) (.unit σ)
 ·rw [if_pos rfl]
  have h3:ex1 P C o (base + i) st=some st':=h2
  unfold ex1 at h3
  rw [hk] at h3
  obtain ⟨v,H,nx,h4,h5⟩:=Qk (show doE st o.dst (exE P C st.env st.h st.nx o.op)=some st' from h3)
  refine acf hC hG h.r hev h4 fun x w' hA=> ?_
  obtain ⟨σ',s1,s2,s3,s4,s5⟩:=hA
  exact fin σ' x w' v H nx h5 s1 s2 s3 s4 s5
end
end Ci
end Go.Proofs.YtnegekppaoedgaaGreatDoor

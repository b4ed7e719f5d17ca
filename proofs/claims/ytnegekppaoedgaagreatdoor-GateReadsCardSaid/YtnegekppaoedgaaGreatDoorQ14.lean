/-
Numbers in texts: what is written is read.
-/
import Derived.Lib.Bytealg
import Derived.Lib.AtoiAll
import Derived.Lib.BufferWrite
import Derived.Lib.BufferMore
import Derived.Test.YtnegekppaoedgaaGreatDoorQ13
import Derived.OrdersHeld
import Derived.Deep.RegionHeld3
import Derived.Outline
import Derived.Shelf.Small.Wraps
set_option linter.all false
noncomputable section
namespace Go.Proofs.YtnegekppaoedgaaGreatDoor
open Go.Lib
theorem JQ:∀(l r:List UInt8) (a:Nat),parseUint10 a (l ++ r)=match parseUint10 a l with
  | .ok b=> parseUint10 b r
  | x=> x
 | [],r,a=> rfl
 | c::l,r,a=> by
  simp only [List.cons_append,parseUint10]
  split
  ·split
   ·rfl
   ·split
    ·rfl
    ·exact JQ l r _
  ·rfl
theorem A8 (k:Nat) (h:k < 10):(UInt8.ofNat (48 + k)).toNat=48 + k:=by
 rw [UInt8.toNat_ofNat']
 omega
theorem adA (u:Nat):u < 9223372036854775809→parseUint10 0 (decDigits u)= .ok u:=by
 induction u using Nat.strongRecOn with
 | _ u ih=>
  intro hu
  by_cases h:u < 10
  ·rw [decDigits,dif_pos h]
   simp only [parseUint10]
   rw [A8 u h,if_pos (by omega),if_neg (by omega),if_neg (by omega)]
   congr 1
   omega
  ·rw [decDigits,dif_neg h,JQ,ih (u / 10) (by omega) (by omega)]
   simp only [parseUint10]
   rw [A8 _ (Nat.mod_lt _ (by omega)),if_pos (by omega),if_neg (by omega),if_neg (by omega)]
   congr 1
   omega
theorem zn (u:Nat):∀b∈decDigits u,48≤b.toNat∧b.toNat≤57:=by
 induction u using Nat.strongRecOn with
 | _ u ih=>
  intro b hb
  by_cases h:u < 10
  ·rw [decDigits,dif_pos h] at hb
   rw [List.mem_singleton.1 hb,A8 u h]
   omega
  ·rw [decDigits,dif_neg h] at hb
   rcases List.mem_append.1 hb with hb | hb
   ·exact ih (u / 10) (by omega) b hb
   ·rw [List.mem_singleton.1 hb,A8 _ (Nat.mod_lt _ (by omega))]
    omega
theorem adB (u:Nat):decDigits u≠ []:=by
 rw [decDigits]
 split <;> simp
theorem YL {n:Int} {b:UInt8} (h:b∈itoa n):b.toNat=45∨(48≤b.toNat∧b.toNat≤57):=by
 unfold itoa at h
 split at h
 ·rcases List.mem_cons.1 h with rfl | h
  ·exact .inl rfl
  ·exact .inr (zn _ b h)
 ·exact .inr (zn _ b h)
theorem YM (n:Int) (h0: -9223372036854775808≤n) (h1:n≤9223372036854775807):atoiAll (itoa n)= .ok n:=by
 unfold itoa
 by_cases hn:n < 0
 ·rw [if_pos hn]
  simp only [atoiAll]
  have e:parseMag (decDigits n.natAbs)= .ok n.natAbs:=by
   unfold parseMag
   rw [if_neg (adB _)]
   exact adA _ (by omega)
  simp only [show (45:UInt8).toNat=45 from rfl,or_true,if_true,e,not_true,false_and,if_false,true_and]
  rw [if_neg (by omega)]
  congr 1
  omega
 ·rw [if_neg hn]
  cases hd:decDigits n.toNat with
  | nil=> exact absurd hd (adB _)
  | cons c r=>
   have hc:=zn n.toNat c (by rw [hd];exact List.mem_cons_self ..)
   simp only [atoiAll]
   have e:parseMag (c::r)= .ok n.toNat:=by
    unfold parseMag
    rw [if_neg (by simp),←hd]
    exact adA _ (by omega)
   rw [if_neg (by omega),e]
   simp only
   rw [if_neg (by omega),if_neg (by omega),if_neg (by omega)]
   congr 1
   omega
theorem vF:∀(k u:Nat),u < 10 ^ (k + 1)→nDigits u≤k + 1
 | 0,u,h=> by rw [nDigits_small (by simpa using h)];omega
 | k + 1,u,h=> by
  by_cases h1:u < 10
  ·rw [nDigits_small h1];omega
  ·rw [nDigits_big h1]
   rw [Nat.pow_succ] at h
   have:=vF k (u / 10) (by omega)
   omega
theorem gY (n:Int) (h0: -9223372036854775808≤n) (h1:n≤9223372036854775807):(itoa n).length≤20:=by
 unfold itoa
 split
 ·rw [List.length_cons,decDigits_length]
  have:=vF 18 n.natAbs (by omega)
  omega
 ·rw [decDigits_length]
  have:=vF 18 n.toNat (by omega)
  omega
theorem Q7 (e:UInt8) (r:List UInt8):∀(l:List UInt8),(∀b∈l,b≠e)→indexByte (l ++ e::r) e=l.length
 | [],_=> by simp [indexByte]
 | b::l,h=> by
  have h1:=h b (by simp)
  have ih:=Q7 e r l fun c hc=> h c (by simp [hc])
  simp only [List.cons_append,indexByte,List.length_cons]
  rw [if_neg (by simpa using h1),ih,if_neg (by simp)]
  simp
abbrev RS:=Option (List UInt8)
def gB (s:List UInt8) (e:UInt8) (least:Int):Option (Int×List UInt8):=
 if indexByte (s.take 21) e < 0 then none else
 match atoiAll ((s.take 21).take (indexByte (s.take 21) e).toNat) with
 | .ok n=> if itoa n=(s.take 21).take (indexByte (s.take 21) e).toNat∧least≤n then some (n,s.drop ((indexByte (s.take 21) e).toNat + 1)) else none
 | _=> none
def dA (st:RS) (e:UInt8) (least:Int):Int×RS:=match st with
 | none=> (0,none)
 | some s=> match gB s e least with
  | some (n,r)=> (n,some r)
  | none=> (0,none)
def fF (st:RS) (c:UInt8):RS:=match st with
 | some (b::r)=> if b=c then some r else none
 | _=> none
def pJ (st:RS):List UInt8×RS:=match dA st 58 0 with
 | (_,none)=> ([],none)
 | (n,some s)=> if (s.length:Int) < n then ([],none) else match fF (some (s.drop n.toNat)) 44 with
  | none=> ([],none)
  | some r=> (s.take n.toNat,some r)
def dw:Int:= -9223372036854775808
def jc:Nat→RS→List Int→List Int×RS
 | 0,st,acc=> (acc,st)
 | _ + 1,none,acc=> (acc,none)
 | k + 1,some s,acc=> jc k (dA (some s) 59 dw).2 (acc ++ [(dA (some s) 59 dw).1])
def jB (st:RS):List Int×RS:=match fF (jc (dA st 91 0).1.toNat (dA st 91 0).2 []).2 93 with
 | none=> ([],none)
 | some r=> ((jc (dA st 91 0).1.toNat (dA st 91 0).2 []).1,some r)
def aA (n:Int):List UInt8:=itoa n ++ [59]
def wText (s:List UInt8):List UInt8:=itoa s.length ++ 58::(s ++ [44])
def lH (l:List Int):List UInt8:=itoa l.length ++ 91::(l.flatMap aA ++ [93])
theorem YN {n least:Int} {e:UInt8} (h0: -9223372036854775808≤n) (h1:n≤9223372036854775807) (hl:least≤n) (he:e.toNat≠45∧(57 < e.toNat∨e.toNat < 48)) (r:List UInt8):gB (itoa n ++ e::r) e least=some (n,r):=by
 have hlen:=gY n h0 h1
 have e1:(itoa n ++ e::r).take 21=itoa n ++ e::r.take (20 - (itoa n).length):=by
  rw [List.take_append,List.take_of_length_le (by omega),show 21 - (itoa n).length=(20 - (itoa n).length) + 1 by omega,List.take_succ_cons]
 have hne:∀b∈itoa n,b≠e:=fun b hb hc=> by
  subst hc
  rcases YL hb with h | h <;> omega
 have e2:indexByte ((itoa n ++ e::r).take 21) e=(itoa n).length:=by rw [e1,Q7 e _ _ hne]
 unfold gB
 rw [e2,if_neg (by omega),e1,Int.toNat_natCast,List.take_left,YM n h0 h1]
 simp only
 rw [if_pos ⟨trivial,hl⟩]
 congr 2
 rw [List.drop_append]
 simp
theorem U0 {n least:Int} {e:UInt8} (h0: -9223372036854775808≤n) (h1:n≤9223372036854775807) (hl:least≤n) (he:e.toNat≠45∧(57 < e.toNat∨e.toNat < 48)) (r:List UInt8):dA (some (itoa n ++ e::r)) e least=(n,some r):=by
 show (match gB (itoa n ++ e::r) e least with | some (n,r)=> ((n,some r):Int×RS) | none=> (0,none))=_
 rw [YN h0 h1 hl he]
theorem U1 {n least:Int} (h0: -9223372036854775808≤n) (h1:n≤9223372036854775807) (hl:least≤n) (r:List UInt8):dA (some (aA n ++ r)) 59 least=(n,some r):=by
 rw [aA,List.append_assoc,List.singleton_append]
 exact U0 h0 h1 hl (by decide) r
theorem aho (s r:List UInt8) (h:s.length < 9223372036854775808):pJ (some (wText s ++ r))=(s,some r):=by
 unfold pJ wText
 rw [List.append_assoc,List.cons_append,U0 (by omega) (by omega) (by omega) (by decide)]
 simp only
 rw [if_neg (by simp;omega),Int.toNat_natCast,List.append_assoc,List.drop_left,List.take_left]
 rfl
theorem Xa:∀(l:List Int) (acc:List Int) (r:List UInt8),(∀n∈l,-9223372036854775808≤n∧n≤9223372036854775807)→jc l.length (some (l.flatMap aA ++ r)) acc=(acc ++ l,some r)
 | [],acc,r,_=> by simp [jc]
 | n::l,acc,r,h=> by
  have hn:=h n (by simp)
  rw [List.length_cons,List.flatMap_cons,List.append_assoc,jc,U1 hn.1 hn.2 (by unfold dw;omega)]
  simp only
  rw [Xa l _ r fun m hm=> h m (by simp [hm])]
  simp
theorem ahp (l:List Int) (r:List UInt8) (h:∀n∈l,-9223372036854775808≤n∧n≤9223372036854775807) (hl:l.length < 9223372036854775808):jB (some (lH l ++ r))=(l,some r):=by
 unfold jB lH
 rw [List.append_assoc,List.cons_append,U0 (by omega) (by omega) (by omega) (by decide)]
 simp only
 rw [Int.toNat_natCast,List.append_assoc,Xa l [] _ h]
 simp [fF]
end Go.Proofs.YtnegekppaoedgaaGreatDoor
namespace Go.Proofs.YtnegekppaoedgaaGreatDoor
open Go.RowKit Go.Shelf
def rdV (st:RS):Array Value:=match st with
 | some l=> #[.string ⟨l.toArray⟩,.bool false]
 | none=> #[.string ⟨#[]⟩,.bool true]
def iq (b:Nat) (st:RS) (W:World):Prop:=W.heap[b]? =some (.cells (rdV st) 121 (0,0))
structure Ob (b:Nat) (W W':World):Prop where
 os:W'.os=W.os
 tape:W'.tape=W.tape
 output:W'.output=W.output
 size:W.heap.size≤W'.heap.size
 block:∀k,k < W.heap.size→k≠b→W'.heap[k]? =W.heap[k]?
theorem Ob.trans {b:Nat} {u v w:World} (h:Ob b u v) (k:Ob b v w):Ob b u w:=⟨k.os.trans h.os,k.tape.trans h.tape,k.output.trans h.output,Nat.le_trans h.size k.size,fun i hi hn=> (k.block i (Nat.lt_of_lt_of_le hi h.size) hn).trans (h.block i hi hn)⟩
theorem Ob.of_below {b:Nat} {W W':World} (h:Below W.heap.size W W'):Ob b W W':=⟨h.os,h.tape,h.output,h.size,fun k hk _=> h.block k hk⟩
theorem Ob.setCell (b i:Nat) (v:Value) (W:World):Ob b W (W.setCell ⟨b,i,none⟩ v):=by
 have h:=Lib.grownBy_setCell W b i v
 exact ⟨h.os,h.tape,h.output,h.size,fun k hk hn=> h.block k hk fun e=> hn (Option.some.inj e)⟩
set_option maxRecDepth 100000 in
theorem kZ {b:Nat} {x y:Value} {W:World} (h:W.heap[b]? =some (.cells #[x,y] 121 (0,0))):Calls Tryz.prog 44 #[.pointer (some ⟨b,0,none⟩)] W fun e W'=> e= .returned (.tuple #[])∧iq b none W'∧Ob b W W':=by
 have f0:W.frozen? ⟨b,0,none⟩=false:=Lib.frozen_of_heap h 0
 have c0:W.cell? ⟨b,0,none⟩=some x:=by rw [Lib.cell_of_heap h];rfl
 have h1:(W.setCell ⟨b,0,none⟩ (.string ⟨#[]⟩)).heap[b]? =some (.cells #[.string ⟨#[]⟩,y] 121 (0,0)):=by
  have:=Lib.heap_setCell_same (i:=0) h (.string ⟨#[]⟩)
  simpa using this
 have f1:(W.setCell ⟨b,0,none⟩ (.string ⟨#[]⟩)).frozen? ⟨b,1,none⟩=false:=Lib.frozen_of_heap h1 1
 have c1:(W.setCell ⟨b,0,none⟩ (.string ⟨#[]⟩)).cell? ⟨b,1,none⟩=some y:=by rw [Lib.cell_of_heap h1];rfl
 have h2:((W.setCell ⟨b,0,none⟩ (.string ⟨#[]⟩)).setCell ⟨b,1,none⟩ (.bool true)).heap[b]? =some (.cells #[.string ⟨#[]⟩,.bool true] 121 (0,0)):=by
  have:=Lib.heap_setCell_same (i:=1) h1 (.bool true)
  simpa using this
 have HH:=ah h2
 clear h2 h h1
 go_enter Tryz.func44,Tryz.ntmps44
 go_wp2
 go_end0
 exact ⟨rfl,HH.out,(Ob.setCell b 0 _ W).trans (Ob.setCell b 1 _ _)⟩
end Go.Proofs.YtnegekppaoedgaaGreatDoor
namespace Go.Proofs.YtnegekppaoedgaaGreatDoor
section
variable {P : Program} {ops : Array Oper} {Q : Exit → Act → World → Prop} {md : Region.Mode} {S : World → Prop}
def pick (ops:Array Oper) (is:List Nat):List Oper:=is.filterMap (ops[·]?)
theorem aK (l:List Oper) (is:List Nat):pick l.toArray is=is.filterMap (l[·]?):=by
 unfold pick
 congr 1
 funext x
 simp
def Takes (P:Program) (ops:Array Oper) (S:World→Prop):List Oper→Act→Act→Prop
 | [],a,b=> b=a
 | o::r,a,b=> ∃v,YieldsIf P ops S o v a∧Takes P ops S r (a.put o.dst v) b
theorem Takes.done {a:Act}:Takes P ops S [] a a:=rfl
theorem Takes.want {o:Oper} {r:List Oper} {a b:Act} (v:Value) (hw:Region.wanted o (yielded ops a.tmps)=true) (hv:∀w,S w→(execOp a.eval o).run P w= .ok (.value v) w) (h:Takes P ops S r (a.put o.dst v) b):Takes P ops S (o::r) a b:=⟨v,Or.inl ⟨hw,hv⟩,h⟩
theorem Takes.skip {o:Oper} {r:List Oper} {a b:Act} (hw:Region.wanted o (yielded ops a.tmps)=false) (h:Takes P ops S r (a.put o.dst undef) b):Takes P ops S (o::r) a b:=⟨undef,Or.inr ⟨hw,rfl⟩,h⟩
def Gq (md:Region.Mode) (ops:Array Oper):List Nat→Array Bool→Bool
 | [],_=> true
 | i::r,l=> decide (i < ops.size) && Region.free md ops l i && (Region.ready md ops l).contains i && Gq md ops r (l.setIfInBounds i true)
def Xb:List Nat→Array Bool→Array Bool
 | [],l=> l
 | i::r,l=> Xb r (l.setIfInBounds i true)
theorem aY (hs:Region.noSelect ops=true) (hQ:∀d v c a w,Q (.panic c) (Act.put a d v) w→Q (.panic c) a w):∀(is:List Nat) (fuel n:Nat) (listed:Array Bool) (a b:Act) (w:World),n=fuel + is.length→
  Gq md ops is listed=true→Takes P ops S (pick ops is) a b→S w→wpAnyH P md ops Q S fuel (Xb is listed) b w→wpAnyH P md ops Q S n listed a w
 | [],fuel,n,listed,a,b,w,hn,_,ht,_,h=> by
  subst hn
  have:b=a:=ht
  subst this
  exact h
 | i::r,fuel,n,listed,a,b,w,hn,hk,ht,hS,h=> by
  simp only [Gq,Bool.and_eq_true,decide_eq_true_eq] at hk
  obtain ⟨⟨⟨h1,h2⟩,h3⟩,h4⟩:=hk
  have e:ops[i]? =some ops[i]:=Array.getElem?_eq_getElem h1
  have hp:pick ops (i::r)=ops[i]::pick ops r:=by simp [pick,e]
  rw [hp] at ht
  obtain ⟨v,hy,ht⟩:=ht
  obtain rfl:n=(fuel + r.length) + 1:=by rw [hn,List.length_cons];omega
  exact wpAnyH_take e hs h2 h3 (fun c a w=> hQ _ _ c a w) hy hS (aY hs hQ r fuel _ _ _ b w rfl h4 ht hS h)
def fV (P:Program) (ops:Array Oper) (Q:Exit→Act→World→Prop) (K:Act→World→Prop) (a:Act) (w:World):List Oper→Prop
 | [o]=> if Region.wanted o (yielded ops a.tmps)=true then Oper.wp P o a w K Q else K (a.put o.dst undef) w
 | _=> False
theorem bK (i:Nat) {fuel n:Nat} {listed:Array Bool} {a:Act} {w:World} (hr:Region.ready md ops listed= [i]) (hn:n=fuel + 1)
  (h:∀K:Act→World→Prop,Shut (∀a w,S w→(S w→wpAnyH P md ops Q S fuel (listed.setIfInBounds i true) a w)→K a w)→fV P ops Q K a w (pick ops [i])):wpAnyH P md ops Q S n listed a w:=by
 subst hn
 have hi:i∈Region.ready md ops listed:=by rw [hr];simp
 obtain ⟨_,o,ho,_⟩:=mem_ready.1 hi
 refine wpAnyH_ready hr (by simp) (AllReadyH.cons ho (fun K hK=> ?_) AllReadyH.nil)
 have:=h K hK
 rw [show pick ops [i]= [o] by simp [pick,ho]] at this
 exact this
theorem pW (i j:Nat) {fuel n:Nat} {listed:Array Bool} {a:Act} {w:World} (hr:Region.ready md ops listed= [i,j]) (hn:n=fuel + 1)
  (h:∀K:Act→World→Prop,Shut (∀a w,S w→(S w→wpAnyH P md ops Q S fuel (listed.setIfInBounds i true) a w)→K a w)→fV P ops Q K a w (pick ops [i]))
  (h2:∀K:Act→World→Prop,Shut (∀a w,S w→(S w→wpAnyH P md ops Q S fuel (listed.setIfInBounds j true) a w)→K a w)→fV P ops Q K a w (pick ops [j])):wpAnyH P md ops Q S n listed a w:=by
 subst hn
 have hi:i∈Region.ready md ops listed:=by rw [hr];simp
 have hj:j∈Region.ready md ops listed:=by rw [hr];simp
 obtain ⟨_,o,ho,_⟩:=mem_ready.1 hi
 obtain ⟨_,o2,ho2,_⟩:=mem_ready.1 hj
 refine wpAnyH_ready hr (by simp) (AllReadyH.cons ho (fun K hK=> ?_) (AllReadyH.cons ho2 (fun K hK=> ?_) AllReadyH.nil))
 ·have:=h K hK
  rw [show pick ops [i]= [o] by simp [pick,ho]] at this
  exact this
 ·have:=h2 K hK
  rw [show pick ops [j]= [o2] by simp [pick,ho2]] at this
  exact this
end
end Go.Proofs.YtnegekppaoedgaaGreatDoor
namespace Go.Proofs.YtnegekppaoedgaaGreatDoor
open Go.RowKit Go.Shelf
attribute [local go_sem] uo GY GZ lS
theorem Gs (c:UInt8):∀(l:List UInt8),Lib.indexByte l c < l.length
 | []=> by simp [Lib.indexByte]
 | b::l=> by
  have:=Gs c l
  simp only [Lib.indexByte,List.length_cons]
  split
  ·omega
  ·split <;> omega
theorem adC (l:List UInt8):List.take (min (l.length:Int) 21).toNat l=l.take 21:=by
 by_cases h:l.length≤21
 ·rw [List.take_of_length_le (by omega),List.take_of_length_le h]
 ·rw [show (min (l.length:Int) 21).toNat=21 by omega]
theorem adD (l:List UInt8) (e:UInt8) (least:Int):gB l e least=if Lib.indexByte (l.take 21) e < 0 then none else
 match Lib.atoiAll ((l.take 21).take (Lib.indexByte (l.take 21) e).toNat) with
 | .ok n=> if Lib.itoa n=(l.take 21).take (Lib.indexByte (l.take 21) e).toNat∧least≤n then some (n,l.drop ((Lib.indexByte (l.take 21) e).toNat + 1)) else none
 | _=> none:=rfl
theorem nH {l:List UInt8} {n:Int} (h:Lib.atoiAll l= .ok n): -9223372036854775808≤n∧n≤9223372036854775807:=by
 unfold Lib.atoiAll at h
 cases l with
 | nil=> cases h
 | cons c r=>
  simp only at h
  split at h
  ·cases h
  ·cases h
  ·split at h
   ·cases h
   ·split at h
    ·cases h
    ·injection h with h
     subst h
     split <;> omega
def Gt (b:Nat) (y:Bool) (res:Option (Int×List UInt8)) (r:Ending) (W:World):Prop:=match res with
 | some (n,s)=> r= .returned (.int .i64 n)∧W.heap[b]? =some (.cells #[.string ⟨s.toArray⟩,.bool y] 121 (0,0))
 | none=> r= .returned (.int .i64 0)∧iq b none W
section
variable {E : World → Prop} {b : Nat} (hE : ∀ w w', E w → Ob b w w' → E w')
 (hIdx:∀(l:List UInt8) (c:UInt8) (w:World),Calls Tryz.prog 84 #[.string ⟨l.toArray⟩,.int .u8 (c.toNat:Int)] w fun e w'=> e= .returned (.int .i64 (Lib.indexByte l c))∧w'=w)
 (aiT:∀(l:List UInt8) (w:World),l.length≤1000000→E w→Calls Tryz.prog 85 #[.string ⟨l.toArray⟩] w fun e w'=> Below w.heap.size w w'∧((∃n,Lib.atoiAll l= .ok n∧e= .returned (.tuple #[.int .i64 n,.nilIface]))∨((∀n,Lib.atoiAll l≠ .ok n)∧∃m t p,e= .returned (.tuple #[.int .i64 m,.iface t p]))))
 (oG:∀(n:Int) (w:World),-9223372036854775808≤n→n≤9223372036854775807→E w→Calls Tryz.prog 40 #[.int .i64 n] w fun e w'=> e= .returned (.string ⟨(Lib.itoa n).toArray⟩)∧Below w.heap.size w w')
include hE hIdx aiT oG
set_option maxRecDepth 100000 in
theorem Q8 {l:List UInt8} {y:Bool} {W:World} {e:UInt8} {least:Int} (h:W.heap[b]? =some (.cells #[.string ⟨l.toArray⟩,.bool y] 121 (0,0))) (hW:E W) (hl:l.length≤1000000):
  Calls Tryz.prog 42 #[.pointer (some ⟨b,0,none⟩),.int .u8 (e.toNat:Int),.int .i64 least] W fun r W'=> Ob b W W'∧Gt b y (gB l e least) r W':=by
 have c0:W.cell? ⟨b,0,none⟩=some (.string ⟨l.toArray⟩):=by rw [Lib.cell_of_heap h];rfl
 have HH:=ah h
 clear h
 go_enter Tryz.func42,Tryz.ntmps42
 go_upto_region 1 with fail
 go_quiet (fail)
 go_upto_region 3 with (go_at_call 84;refine (hIdx _ e _).mono ?_;rintro r w1 ⟨rfl,rfl⟩)
 rw [adC]
 have HD:Hid (Ob b W (W.drewN nq)):=ah ⟨rfl,rfl,rfl,Nat.le_refl _,fun _ _ _=> rfl⟩
 have HB:Hid ((W.drewN nq).heap[b]? =some (.cells #[.string ⟨l.toArray⟩,.bool y] 121 (0,0))):=ah HH.out
 have c1:(W.drewN nq).cell? ⟨b,0,none⟩=some (.string ⟨l.toArray⟩):=c0
 clear c0
 generalize hW1:W.drewN nq=W1 at HD HB c1 ⊢
 have hlt:=Gs e (l.take 21)
 have hdl:(l.take 21).length≤l.length:=by simp;omega
 have HN:=adD l e least
 generalize l.take 21=hd at hlt hdl HN ⊢
 by_cases hneg:Lib.indexByte hd e < 0
 ·have d1:decide (Lib.indexByte hd e < 0)=true:=decide_eq_true hneg
  rw [if_pos hneg] at HN
  have HN:=ah HN
  clear hneg hlt
  go_wp2_with (go_at_call 44;refine (kZ HB.out).mono ?_;rintro r w1 ⟨rfl,h1,h2⟩;have H1:=ah h1;have H2:=ah h2;clear h1 h2)
  go_ret
  refine ⟨HD.out.trans H2.out,?_⟩
  show Gt b y (gB l e least) _ _
  rw [HN.out]
  exact ⟨rfl,H1.out⟩
 ·have d1:decide (Lib.indexByte hd e < 0)=false:=decide_eq_false hneg
  have h0:0≤Lib.indexByte hd e:=by omega
  rw [if_neg hneg] at HN
  obtain ⟨k,hk⟩:∃k:Nat,Lib.indexByte hd e=(k:Int):=⟨_,(Int.toNat_of_nonneg h0).symm⟩
  rw [hk] at d1 HN ⊢
  rw [Int.toNat_natCast] at HN
  have hdk:∃d,hd.take k=d:=⟨_,rfl⟩
  have hkl:k≤hd.length:=by omega
  have hkk:k + 1≤l.length:=by omega
  clear hneg h0 hlt
  have hW1':E W1:=hE _ _ hW HD.out
  have hA:=aiT (hd.take k) W1 (by rw [List.length_take];omega) hW1'
  cases hq:Lib.atoiAll (hd.take k) with
  | ok n=>
   have hA:Calls Tryz.prog 85 #[.string ⟨(hd.take k).toArray⟩] W1 fun e w'=> e= .returned (.tuple #[.int .i64 n,.nilIface])∧Below W1.heap.size W1 w':=hA.mono (by
    rintro e w' ⟨hb,⟨m,h1,h2⟩ | ⟨h1,_⟩⟩
    ·rw [hq] at h1
     injection h1 with h1
     subst h1
     exact ⟨h2,hb⟩
    ·exact absurd hq (h1 n))
   rw [hq] at HN
   have HN:=ah HN
   go_upto_region 7 with (go_at_call 85;refine hA.mono ?_;rintro r W2 ⟨rfl,hb2⟩;have H2:=ah hb2;clear hb2)
   have HB2:Hid (W2.heap[b]? =some (.cells #[.string ⟨l.toArray⟩,.bool y] 121 (0,0))):=ah ((H2.out.block b (lt_of_block HB.out)).trans HB.out)
   have HE2:Hid (E W2):=ah (hE _ _ hW1' (Ob.of_below H2.out))
   cases he:(Lib.itoa n==hd.take k) with
   | false=>
    refine wp_region_held_drew (S:=fun _=> True) (by kernel_rfl) ?_ (fun hHeld=> ?_)
    focus (exact trivial)
    refine aY (by kernel_rfl) (fun d _ _ _ _ h=> by cases d <;> exact h) [0,1,2,3,5,6,7] 8 _ _ _ ?_ _ (by rfl) (by kernel_rfl) ?_ (by assumption) ?_
    rotate_left
    focus
     simp only [aK,List.filterMap_cons,List.filterMap_nil,List.getElem?_cons_zero,List.getElem?_cons_succ]
     (refine Takes.want ?_ (by rfl) (fun w' hw'=> ?_) ?_;rotate_left;(focus ((try dsimp only at hw');go_simp;(first | done | with_reducible rfl)));try simp only [Act.put,List.setIfInBounds_toArray,List.set_cons_zero,List.set_cons_succ])
     (refine Takes.want ?_ (by rfl) (fun w' hw'=> ?_) ?_;rotate_left;(focus ((try dsimp only at hw');go_simp;(first | done | with_reducible rfl)));try simp only [Act.put,List.setIfInBounds_toArray,List.set_cons_zero,List.set_cons_succ])
     (refine Takes.want ?_ (by rfl) (fun w' hw'=> ?_) ?_;rotate_left;(focus ((try dsimp only at hw');go_simp;(first | done | with_reducible rfl)));try simp only [Act.put,List.setIfInBounds_toArray,List.set_cons_zero,List.set_cons_succ])
     (refine Takes.want ?_ (by rfl) (fun w' hw'=> ?_) ?_;rotate_left;(focus ((try dsimp only at hw');go_simp;(first | done | with_reducible rfl)));try simp only [Act.put,List.setIfInBounds_toArray,List.set_cons_zero,List.set_cons_succ])
     (refine Takes.want ?_ (by rfl) (fun w' hw'=> ?_) ?_;rotate_left;(focus ((try dsimp only at hw');go_simp;(first | done | with_reducible rfl)));try simp only [Act.put,List.setIfInBounds_toArray,List.set_cons_zero,List.set_cons_succ])
     (refine Takes.want ?_ (by rfl) (fun w' hw'=> ?_) ?_;rotate_left;(focus ((try dsimp only at hw');go_simp;(first | done | with_reducible rfl)));try simp only [Act.put,List.setIfInBounds_toArray,List.set_cons_zero,List.set_cons_succ])
     (refine Takes.want ?_ (by rfl) (fun w' hw'=> ?_) ?_;rotate_left;(focus ((try dsimp only at hw');go_simp;(first | done | with_reducible rfl)));try simp only [Act.put,List.setIfInBounds_toArray,List.set_cons_zero,List.set_cons_succ])
     exact Takes.done
    refine bK 4 (fuel:=7) (by kernel_rfl) (by rfl) (fun K hK=> ?_)
    simp only [aK,List.filterMap_cons,List.filterMap_nil,List.getElem?_cons_zero,List.getElem?_cons_succ,fV]
    go_simp
    (go_at_call 40;refine (oG n W2.drew (nH hq).1 (nH hq).2 (hE W2 W2.drew HE2.out ⟨rfl,rfl,rfl,Nat.le_refl _,fun _ _ _=> rfl⟩)).mono ?_;rintro r W3 ⟨rfl,hb3⟩;have H3:=ah hb3;clear hb3)
    refine hK.out _ _ ?_ (fun hHeld=> ?_)
    focus (exact trivial)
    clear hK K
    try simp only [Act.put,List.setIfInBounds_toArray,List.set_cons_zero,List.set_cons_succ]
    refine aY (by kernel_rfl) (fun d _ _ _ _ h=> by cases d <;> exact h) [8,9,10,11,12,13,14] 0 _ _ _ ?_ _ (by rfl) (by kernel_rfl) ?_ (by assumption) ?_
    rotate_left
    focus
     simp only [aK,List.filterMap_cons,List.filterMap_nil,List.getElem?_cons_zero,List.getElem?_cons_succ]
     (refine Takes.want ?_ (by rfl) (fun w' hw'=> ?_) ?_;rotate_left;(focus ((try dsimp only at hw');go_simp;(first | done | with_reducible rfl)));try simp only [Act.put,List.setIfInBounds_toArray,List.set_cons_zero,List.set_cons_succ])
     (refine Takes.want ?_ (by rfl) (fun w' hw'=> ?_) ?_;rotate_left;(focus ((try dsimp only at hw');go_simp;(first | done | with_reducible rfl)));try simp only [Act.put,List.setIfInBounds_toArray,List.set_cons_zero,List.set_cons_succ])
     (refine Takes.want ?_ (by rfl) (fun w' hw'=> ?_) ?_;rotate_left;(focus ((try dsimp only at hw');go_simp;(first | done | with_reducible rfl)));try simp only [Act.put,List.setIfInBounds_toArray,List.set_cons_zero,List.set_cons_succ])
     (refine Takes.skip (by rfl) ?_;try simp only [Act.put,List.setIfInBounds_toArray,List.set_cons_zero,List.set_cons_succ])
     (refine Takes.skip (by rfl) ?_;try simp only [Act.put,List.setIfInBounds_toArray,List.set_cons_zero,List.set_cons_succ])
     (refine Takes.skip (by rfl) ?_;try simp only [Act.put,List.setIfInBounds_toArray,List.set_cons_zero,List.set_cons_succ])
     (refine Takes.want ?_ (by rfl) (fun w' hw'=> ?_) ?_;rotate_left;(focus ((try dsimp only at hw');go_simp;(first | done | with_reducible rfl)));try simp only [Act.put,List.setIfInBounds_toArray,List.set_cons_zero,List.set_cons_succ])
     exact Takes.done
    refine wpAnyH_done (by kernel_rfl) ?_ _
    have O3:Hid (Ob b W W3):=ah (((HD.out.trans (Ob.of_below H2.out)).trans (⟨rfl,rfl,rfl,Nat.le_refl _,fun _ _ _=> rfl⟩:Ob b W2 W2.drew)).trans (Ob.of_below H3.out))
    have HB3:Hid (W3.heap[b]? =some (.cells #[.string ⟨l.toArray⟩,.bool y] 121 (0,0))):=ah ((H3.out.block b (lt_of_block (w:=W2.drew) HB2.out)).trans HB2.out)
    go_wp2_with (go_at_call 44;refine Calls.mono (kZ (x:= .string ⟨l.toArray⟩) (y:= .bool y) (by exact HB3.out)) ?_;rintro r w1 ⟨rfl,h1,h2⟩;have H5:=ah h1;have H4:=ah h2;clear h1 h2)
    go_ret
    refine ⟨O3.out.trans H4.out,?_⟩
    show Gt b y (gB l e least) _ _
    rw [HN.out,if_neg (fun h=> by rw [h.1] at he;simp at he)]
    exact ⟨rfl,H5.out⟩
   | true=>
    have he':Lib.itoa n=hd.take k:=by simpa using he
    refine wp_region_held_drew (S:=fun _=> True) (by kernel_rfl) ?_ (fun hHeld=> ?_)
    focus (exact trivial)
    refine aY (by kernel_rfl) (fun d _ _ _ _ h=> by cases d <;> exact h) [0,1,2,3,5,6,7] 8 _ _ _ ?_ _ (by rfl) (by kernel_rfl) ?_ (by assumption) ?_
    rotate_left
    focus
     simp only [aK,List.filterMap_cons,List.filterMap_nil,List.getElem?_cons_zero,List.getElem?_cons_succ]
     (refine Takes.want ?_ (by rfl) (fun w' hw'=> ?_) ?_;rotate_left;(focus ((try dsimp only at hw');go_simp;(first | done | with_reducible rfl)));try simp only [Act.put,List.setIfInBounds_toArray,List.set_cons_zero,List.set_cons_succ])
     (refine Takes.want ?_ (by rfl) (fun w' hw'=> ?_) ?_;rotate_left;(focus ((try dsimp only at hw');go_simp;(first | done | with_reducible rfl)));try simp only [Act.put,List.setIfInBounds_toArray,List.set_cons_zero,List.set_cons_succ])
     (refine Takes.want ?_ (by rfl) (fun w' hw'=> ?_) ?_;rotate_left;(focus ((try dsimp only at hw');go_simp;(first | done | with_reducible rfl)));try simp only [Act.put,List.setIfInBounds_toArray,List.set_cons_zero,List.set_cons_succ])
     (refine Takes.want ?_ (by rfl) (fun w' hw'=> ?_) ?_;rotate_left;(focus ((try dsimp only at hw');go_simp;(first | done | with_reducible rfl)));try simp only [Act.put,List.setIfInBounds_toArray,List.set_cons_zero,List.set_cons_succ])
     (refine Takes.want ?_ (by rfl) (fun w' hw'=> ?_) ?_;rotate_left;(focus ((try dsimp only at hw');go_simp;(first | done | with_reducible rfl)));try simp only [Act.put,List.setIfInBounds_toArray,List.set_cons_zero,List.set_cons_succ])
     (refine Takes.want ?_ (by rfl) (fun w' hw'=> ?_) ?_;rotate_left;(focus ((try dsimp only at hw');go_simp;(first | done | with_reducible rfl)));try simp only [Act.put,List.setIfInBounds_toArray,List.set_cons_zero,List.set_cons_succ])
     (refine Takes.want ?_ (by rfl) (fun w' hw'=> ?_) ?_;rotate_left;(focus ((try dsimp only at hw');go_simp;(first | done | with_reducible rfl)));try simp only [Act.put,List.setIfInBounds_toArray,List.set_cons_zero,List.set_cons_succ])
     exact Takes.done
    refine bK 4 (fuel:=7) (by kernel_rfl) (by rfl) (fun K hK=> ?_)
    simp only [aK,List.filterMap_cons,List.filterMap_nil,List.getElem?_cons_zero,List.getElem?_cons_succ,fV]
    go_simp
    (go_at_call 40;refine (oG n W2.drew (nH hq).1 (nH hq).2 (hE W2 W2.drew HE2.out ⟨rfl,rfl,rfl,Nat.le_refl _,fun _ _ _=> rfl⟩)).mono ?_;rintro r W3 ⟨rfl,hb3⟩;have H3:=ah hb3;clear hb3)
    refine hK.out _ _ ?_ (fun hHeld=> ?_)
    focus (exact trivial)
    clear hK K
    try simp only [Act.put,List.setIfInBounds_toArray,List.set_cons_zero,List.set_cons_succ]
    refine aY (by kernel_rfl) (fun d _ _ _ _ h=> by cases d <;> exact h) [8,9,10,11,12,13,14] 0 _ _ _ ?_ _ (by rfl) (by kernel_rfl) ?_ (by assumption) ?_
    rotate_left
    focus
     simp only [aK,List.filterMap_cons,List.filterMap_nil,List.getElem?_cons_zero,List.getElem?_cons_succ]
     (refine Takes.want ?_ (by rfl) (fun w' hw'=> ?_) ?_;rotate_left;(focus ((try dsimp only at hw');go_simp;(first | done | with_reducible rfl)));try simp only [Act.put,List.setIfInBounds_toArray,List.set_cons_zero,List.set_cons_succ])
     (refine Takes.want ?_ (by rfl) (fun w' hw'=> ?_) ?_;rotate_left;(focus ((try dsimp only at hw');go_simp;(first | done | with_reducible rfl)));try simp only [Act.put,List.setIfInBounds_toArray,List.set_cons_zero,List.set_cons_succ])
     (refine Takes.want ?_ (by rfl) (fun w' hw'=> ?_) ?_;rotate_left;(focus ((try dsimp only at hw');go_simp;(first | done | with_reducible rfl)));try simp only [Act.put,List.setIfInBounds_toArray,List.set_cons_zero,List.set_cons_succ])
     (refine Takes.want ?_ (by rfl) (fun w' hw'=> ?_) ?_;rotate_left;(focus ((try dsimp only at hw');go_simp;(first | done | with_reducible rfl)));try simp only [Act.put,List.setIfInBounds_toArray,List.set_cons_zero,List.set_cons_succ])
     (refine Takes.want ?_ (by rfl) (fun w' hw'=> ?_) ?_;rotate_left;(focus ((try dsimp only at hw');go_simp;(first | done | with_reducible rfl)));try simp only [Act.put,List.setIfInBounds_toArray,List.set_cons_zero,List.set_cons_succ])
     (refine Takes.want ?_ (by rfl) (fun w' hw'=> ?_) ?_;rotate_left;(focus ((try dsimp only at hw');go_simp;(first | done | with_reducible rfl)));try simp only [Act.put,List.setIfInBounds_toArray,List.set_cons_zero,List.set_cons_succ])
     (refine Takes.want ?_ (by rfl) (fun w' hw'=> ?_) ?_;rotate_left;(focus ((try dsimp only at hw');go_simp;(first | done | with_reducible rfl)));try simp only [Act.put,List.setIfInBounds_toArray,List.set_cons_zero,List.set_cons_succ])
     exact Takes.done
    refine wpAnyH_done (by kernel_rfl) ?_ _
    have O3:Hid (Ob b W W3):=ah (((HD.out.trans (Ob.of_below H2.out)).trans (⟨rfl,rfl,rfl,Nat.le_refl _,fun _ _ _=> rfl⟩:Ob b W2 W2.drew)).trans (Ob.of_below H3.out))
    have HB3:Hid (W3.heap[b]? =some (.cells #[.string ⟨l.toArray⟩,.bool y] 121 (0,0))):=ah ((H3.out.block b (lt_of_block (w:=W2.drew) HB2.out)).trans HB2.out)
    cases d2:decide (n < least) with
    | true=>
     go_wp2_with (go_at_call 44;refine Calls.mono (kZ (x:= .string ⟨l.toArray⟩) (y:= .bool y) (by exact HB3.out)) ?_;rintro r w1 ⟨rfl,h1,h2⟩;have H5:=ah h1;have H4:=ah h2;clear h1 h2)
     go_ret
     refine ⟨O3.out.trans H4.out,?_⟩
     show Gt b y (gB l e least) _ _
     rw [HN.out,if_neg (fun h=> by have:=of_decide_eq_true d2;omega)]
     exact ⟨rfl,H5.out⟩
    | false=>
     have d3:¬n < least:=of_decide_eq_false d2
     have c3:W3.cell? ⟨b,0,none⟩=some (.string ⟨l.toArray⟩):=by rw [Lib.cell_of_heap HB3.out];rfl
     have f3:W3.frozen? ⟨b,0,none⟩=false:=Lib.frozen_of_heap HB3.out 0
     have HS:Hid (∀v,(W3.setCell ⟨b,0,none⟩ v).heap[b]? =some (.cells #[v,.bool y] 121 (0,0))):=ah fun v=> by
      have:=Lib.heap_setCell_same (i:=0) HB3.out v
      simpa using this
     have hk1:((k:Int) + 1)≤(l.length:Int):=by omega
     have hk0:(0:Int)≤(k:Int) + 1:=by omega
     go_wp2_with fail
     go_ret
     refine ⟨O3.out.trans (Ob.setCell b 0 _ _),?_⟩
     first
      | exact ⟨rfl,HS.out _⟩
      | (show Gt b y (gB l e least) _ _
         rw [HN.out,if_pos ⟨he',by omega⟩]
         exact ⟨rfl,HS.out _⟩)
  | range=>
   have hA:Calls Tryz.prog 85 #[.string ⟨(hd.take k).toArray⟩] W1 fun e w'=> ∃m t p,e= .returned (.tuple #[.int .i64 m,.iface t p])∧Below W1.heap.size W1 w':=hA.mono (by
    rintro e w' ⟨hb,⟨m,h1,h2⟩ | ⟨h1,m,t,p,h2⟩⟩
    ·rw [hq] at h1
     cases h1
    ·exact ⟨m,t,p,h2,hb⟩)
   rw [hq] at HN
   have HN:=ah HN
   go_upto_region 7 with (go_at_call 85;refine hA.mono ?_;rintro r W2 ⟨m,t,p,rfl,hb2⟩;have H2:=ah hb2;clear hb2)
   have HB2:Hid (W2.heap[b]? =some (.cells #[.string ⟨l.toArray⟩,.bool y] 121 (0,0))):=ah ((H2.out.block b (lt_of_block HB.out)).trans HB.out)
   go_quiet (fail)
   have HN:Hid (gB l e least=none):=ah HN.out
   go_wp2_with (go_at_call 44;refine Calls.mono (kZ (x:= .string ⟨l.toArray⟩) (y:= .bool y) (by exact HB2.out)) ?_;rintro r w1 ⟨rfl,h1,h2⟩;have H3:=ah h1;have H4:=ah h2;clear h1 h2)
   go_ret
   refine ⟨(HD.out.trans (Ob.of_below H2.out)).trans ((⟨rfl,rfl,rfl,Nat.le_refl _,fun _ _ _=> rfl⟩:Ob b W2 (W2.drewN _)).trans H4.out),?_⟩
   show Gt b y (gB l e least) _ _
   rw [HN.out]
   exact ⟨rfl,H3.out⟩
  | _=>
   have hA:Calls Tryz.prog 85 #[.string ⟨(hd.take k).toArray⟩] W1 fun e w'=> ∃m t p,e= .returned (.tuple #[.int .i64 m,.iface t p])∧Below W1.heap.size W1 w':=hA.mono (by
    rintro e w' ⟨hb,⟨m,h1,h2⟩ | ⟨h1,m,t,p,h2⟩⟩
    ·rw [hq] at h1
     cases h1
    ·exact ⟨m,t,p,h2,hb⟩)
   rw [hq] at HN
   have HN:=ah HN
   go_upto_region 7 with (go_at_call 85;refine hA.mono ?_;rintro r W2 ⟨m,t,p,rfl,hb2⟩;have H2:=ah hb2;clear hb2)
   have HB2:Hid (W2.heap[b]? =some (.cells #[.string ⟨l.toArray⟩,.bool y] 121 (0,0))):=ah ((H2.out.block b (lt_of_block HB.out)).trans HB.out)
   go_quiet (fail)
   have HN:Hid (gB l e least=none):=ah HN.out
   go_wp2_with (go_at_call 44;refine Calls.mono (kZ (x:= .string ⟨l.toArray⟩) (y:= .bool y) (by exact HB2.out)) ?_;rintro r w1 ⟨rfl,h1,h2⟩;have H3:=ah h1;have H4:=ah h2;clear h1 h2)
   go_ret
   refine ⟨(HD.out.trans (Ob.of_below H2.out)).trans ((⟨rfl,rfl,rfl,Nat.le_refl _,fun _ _ _=> rfl⟩:Ob b W2 (W2.drewN _)).trans H4.out),?_⟩
   show Gt b y (gB l e least) _ _
   rw [HN.out]
   exact ⟨rfl,H3.out⟩
end
end Go.Proofs.YtnegekppaoedgaaGreatDoor
namespace Go.Proofs
open Go.Shelf
def Tryz.laysCutP_ren:Go.Shelf.Ren:=⟨fun | 103=> 86 | 210=> 150 | 206=> 242 | n=> n,fun | 9=> 9 | 4=> 4 | 24=> 169 | 3=> 3 | n=> n,fun | n=> n⟩
theorem Tryz.laysCutP:Go.Proofs.Lays.n103 Tryz.prog Tryz.laysCutP_ren:={
 mixed:=by kernel_rfl
 f103:=Tryz.func86.trans (congrArg some (by kernel_rfl))
 f206:=Tryz.func242.trans (congrArg some (by kernel_rfl))
 f210:=Tryz.func150.trans (congrArg some (by kernel_rfl))
 t3:=Tryz.underlying3
 a3:=Tryz.isAgg3
 z3:=Tryz.sizeOf3
 v3:=Tryz.zeroValue3
 t4:=Tryz.underlying4
 a4:=Tryz.isAgg4
 z4:=Tryz.sizeOf4
 v4:=Tryz.zeroValue4
 t9:=Tryz.underlying9
 a9:=Tryz.isAgg9
 z9:=Tryz.sizeOf9
 v9:=Tryz.zeroValue9
 t24:=Tryz.underlying169
 a24:=Tryz.isAgg169
 z24:=Tryz.sizeOf169
 v24:=Tryz.zeroValue169}
end Go.Proofs
namespace Go.Proofs.YtnegekppaoedgaaGreatDoor
open Go.RowKit Go.Shelf
attribute [local go_sem] uo GY GZ lS
def ClQ (b:Nat) (y:Bool) (l:List UInt8) (c:UInt8) (W:World):Prop:=bif Lib.hasPrefix l [c] then W.heap[b]? =some (.cells #[.string ⟨(Lib.trimPrefix l [c]).toArray⟩,.bool y] 121 (0,0)) else iq b none W
set_option maxRecDepth 100000 in
theorem Gu {b:Nat} {l:List UInt8} {y:Bool} {c:UInt8} {W:World} (h:W.heap[b]? =some (.cells #[.string ⟨l.toArray⟩,.bool y] 121 (0,0))):
  Calls Tryz.prog 45 #[.pointer (some ⟨b,0,none⟩),.string ⟨[c].toArray⟩] W fun e W'=> e= .returned (.tuple #[])∧Ob b W W'∧ClQ b y l c W':=by
 have c0:W.cell? ⟨b,0,none⟩=some (.string ⟨l.toArray⟩):=by rw [Lib.cell_of_heap h];rfl
 have f0:W.frozen? ⟨b,0,none⟩=false:=Lib.frozen_of_heap h 0
 have hC:Calls Tryz.prog 86 #[.string ⟨l.toArray⟩,.string ⟨[c].toArray⟩] W fun e w'=> e= .returned (.tuple #[.string ⟨(Lib.trimPrefix l [c]).toArray⟩,.bool (Lib.hasPrefix l [c])])∧w'=W:=Any.strings_CutPrefix (ρ:=Tryz.laysCutP_ren) Tryz.laysCutP ⟨l.toArray⟩ ⟨[c].toArray⟩ W
 have HQ:Hid (∀W',ClQ b y l c W'↔bif Lib.hasPrefix l [c] then W'.heap[b]? =some (.cells #[.string ⟨(Lib.trimPrefix l [c]).toArray⟩,.bool y] 121 (0,0)) else iq b none W'):=ah fun W'=> Iff.rfl
 have HS:Hid (∀v,(W.setCell ⟨b,0,none⟩ v).heap[b]? =some (.cells #[v,.bool y] 121 (0,0))):=ah fun v=> by
  have:=Lib.heap_setCell_same (i:=0) h v
  simpa using this
 clear h
 generalize Lib.trimPrefix l [c]=r at hC HQ
 cases hp:Lib.hasPrefix l [c] with
 | true=>
  rw [hp] at hC HQ
  go_enter Tryz.func45,Tryz.ntmps45
  go_wp2_with (go_at_call 86;refine hC.mono ?_;rintro q w1 ⟨rfl,rfl⟩)
  go_end0
  refine ⟨rfl,Ob.setCell b 0 _ _,?_⟩
  exact (HQ.out _).2 (HS.out _)
 | false=>
  rw [hp] at hC HQ
  go_enter Tryz.func45,Tryz.ntmps45
  go_wp2_with (first
   | (go_at_call 86;refine hC.mono ?_;rintro q w1 ⟨rfl,rfl⟩)
   | (go_at_call 44;refine Calls.mono (kZ (y:= .bool y) (HS.out _)) ?_;rintro q w1 ⟨rfl,h1,h2⟩;have H1:=ah h1;have H2:=ah h2;clear h1 h2))
  go_end0
  refine ⟨rfl,(Ob.setCell b 0 _ _).trans H2.out,?_⟩
  exact (HQ.out _).2 H1.out
end Go.Proofs.YtnegekppaoedgaaGreatDoor
namespace Go.Proofs.YtnegekppaoedgaaGreatDoor
open Go.RowKit Go.Shelf
attribute [local go_sem] uo GY GZ lS
def ahq (E:World→Prop):Prop:=∀(b:Nat) (l:List UInt8) (y:Bool) (W:World) (e:UInt8) (least:Int),W.heap[b]? =some (.cells #[.string ⟨l.toArray⟩,.bool y] 121 (0,0))→E W→l.length≤1000000→
 Calls Tryz.prog 42 #[.pointer (some ⟨b,0,none⟩),.int .u8 (e.toNat:Int),.int .i64 least] W fun r W'=> Ob b W W'∧Gt b y (gB l e least) r W'
def Gv (l:List UInt8) (e:UInt8) (least:Int):Int:=match gB l e least with
 | some (n,_)=> n
 | none=> 0
def H7 (b:Nat) (y:Bool) (res:Option (Int×List UInt8)) (W:World):Prop:=match res with
 | some (_,s)=> W.heap[b]? =some (.cells #[.string ⟨s.toArray⟩,.bool y] 121 (0,0))
 | none=> iq b none W
theorem Gt.ret {b:Nat} {y:Bool} {l:List UInt8} {e:UInt8} {least:Int} {r:Ending} {W:World} (h:Gt b y (gB l e least) r W):r= .returned (.int .i64 (Gv l e least))∧H7 b y (gB l e least) W:=by
 revert h
 unfold Gv Gt H7
 cases gB l e least with
 | none=> exact id
 | some q=> exact id
section
variable {E : World → Prop} (hN : ahq E)
include hN
theorem adE {b:Nat} {l:List UInt8} {y:Bool} {W:World} (h:W.heap[b]? =some (.cells #[.string ⟨l.toArray⟩,.bool y] 121 (0,0))) (hE:E W) (hl:l.length≤1000000):
  Calls Tryz.prog 24 #[.pointer (some ⟨b,0,none⟩)] W fun r W'=> r= .returned (.int .i64 (Gv l 59 0))∧Ob b W W'∧H7 b y (gB l 59 0) W':=by
 have hC:Calls Tryz.prog 42 #[.pointer (some ⟨b,0,none⟩),.int .u8 59,.int .i64 0] W fun r W'=> r= .returned (.int .i64 (Gv l 59 0))∧Ob b W W'∧H7 b y (gB l 59 0) W':=(hN b l y W 59 0 h hE hl).mono fun r W' hr=> ⟨hr.2.ret.1,hr.1,hr.2.ret.2⟩
 clear h
 go_enter Tryz.func24,Tryz.ntmps24
 go_wp2_with (go_at_call 42;refine hC.mono ?_;rintro r w1 ⟨rfl,h1,h2⟩;have H1:=ah (And.intro h1 h2);clear h1 h2)
 go_ret
 exact ⟨rfl,H1.out⟩
theorem adF {b:Nat} {l:List UInt8} {y:Bool} {W:World} (h:W.heap[b]? =some (.cells #[.string ⟨l.toArray⟩,.bool y] 121 (0,0))) (hE:E W) (hl:l.length≤1000000):
  Calls Tryz.prog 25 #[.pointer (some ⟨b,0,none⟩)] W fun r W'=> r= .returned (.int .i64 (Gv l 59 dw))∧Ob b W W'∧H7 b y (gB l 59 dw) W':=by
 have hC:Calls Tryz.prog 42 #[.pointer (some ⟨b,0,none⟩),.int .u8 59,.int .i64 (-9223372036854775808)] W fun r W'=> r= .returned (.int .i64 (Gv l 59 dw))∧Ob b W W'∧H7 b y (gB l 59 dw) W':=(hN b l y W 59 dw h hE hl).mono fun r W' hr=> ⟨hr.2.ret.1,hr.1,hr.2.ret.2⟩
 clear h
 go_enter Tryz.func25,Tryz.ntmps25
 go_wp2_with (go_at_call 42;refine hC.mono ?_;rintro r w1 ⟨rfl,h1,h2⟩;have H1:=ah (And.intro h1 h2);clear h1 h2)
 go_ret
 exact ⟨rfl,H1.out⟩
end
end Go.Proofs.YtnegekppaoedgaaGreatDoor
namespace Go.Proofs.YtnegekppaoedgaaGreatDoor
open Go.RowKit Go.Shelf
attribute [local go_sem] uo GY GZ lS
theorem Gw {l:List UInt8} {e:UInt8} {least n:Int} {s:List UInt8} (h:gB l e least=some (n,s)):least≤n∧s.length≤l.length:=by
 unfold gB at h
 split at h
 ·cases h
 ·split at h
  ·split at h
   ·rename_i hc
    injection h with h
    injection h with h1 h2
    rw [←h1,←h2]
    exact ⟨hc.2,by simp⟩
   ·cases h
  ·cases h
theorem Gx (l:List UInt8) (c:UInt8):(Lib.hasPrefix l [c]=true↔fF (some l) c≠none)∧(Lib.hasPrefix l [c]=true→fF (some l) c=some (Lib.trimPrefix l [c])):=by
 cases l with
 | nil=> simp [Lib.hasPrefix,fF]
 | cons a l=>
  by_cases h:a=c
  ·subst h
   simp [Lib.hasPrefix,Lib.trimPrefix,fF]
  ·have h2:¬c=a:=fun e=> h e.symm
   simp [Lib.hasPrefix,fF,h,h2]
theorem ClQ.rd {b:Nat} {l:List UInt8} {c:UInt8} {W:World} (h:ClQ b false l c W):iq b (fF (some l) c) W:=by
 obtain ⟨h1,h2⟩:=Gx l c
 unfold ClQ at h
 cases hp:Lib.hasPrefix l [c] with
 | true=>
  rw [hp] at h
  rw [h2 hp]
  exact h
 | false=>
  rw [hp] at h
  have:fF (some l) c=none:=by
   cases hr:fF (some l) c with
   | none=> rfl
   | some x=> rw [h1.2 (by rw [hr];simp)] at hp;cases hp
  rw [this]
  exact h
theorem rdH (b:Nat) (st:RS) (W:World):iq b st W↔W.heap[b]? =some (.cells #[.string ⟨(st.getD []).toArray⟩,.bool st.isNone] 121 (0,0)):=by cases st <;> exact Iff.rfl
theorem Q9 (e:UInt8) (least:Int):gB [] e least=none:=by simp [gB,Lib.indexByte]
theorem H7.rd {b:Nat} {st:RS} {e:UInt8} {least:Int} {W:World} (h:H7 b st.isNone (gB (st.getD []) e least) W):iq b (dA st e least).2 W:=by
 cases st with
 | none=>
  have h:H7 b true (gB [] e least) W:=h
  rw [Q9] at h
  exact h
 | some s=>
  have h:H7 b false (gB s e least) W:=h
  show iq b (match gB s e least with | some (n,r)=> ((n,some r):Int×RS) | none=> (0,none)).2 W
  revert h
  cases gB s e least with
  | none=> exact id
  | some q=> exact id
theorem Nz (st:RS) (e:UInt8) (least:Int):Gv (st.getD []) e least=(dA st e least).1:=by
 cases st with
 | none=>
  show Gv [] e least=0
  unfold Gv
  rw [Q9]
 | some s=>
  show Gv s e least=(match gB s e least with | some (n,r)=> ((n,some r):Int×RS) | none=> (0,none)).1
  unfold Gv
  cases gB s e least with
  | none=> rfl
  | some q=> rfl
theorem jd (st:RS) (e:UInt8) (least:Int):((dA st e least).2.getD []).length≤(st.getD []).length:=by
 cases st with
 | none=> exact Nat.le_refl _
 | some s=>
  show ((match gB s e least with | some (n,r)=> ((n,some r):Int×RS) | none=> (0,none)).2.getD []).length≤s.length
  cases h:gB s e least with
  | none=> exact Nat.zero_le _
  | some q=> exact (Gw (n:=q.1) (s:=q.2) h).2
theorem nI (st:RS) (e:UInt8) {least:Int} (hl:least≤0):least≤(dA st e least).1:=by
 cases st with
 | none=> exact hl
 | some s=>
  show least≤(match gB s e least with | some (n,r)=> ((n,some r):Int×RS) | none=> (0,none)).1
  cases h:gB s e least with
  | none=> exact hl
  | some q=> exact (Gw (n:=q.1) (s:=q.2) h).1
theorem Rf (st:RS) {n:Int} {s1:RS} (h:dA st 58 0=(n,s1)):pJ st=if ((s1.getD []).length:Int) < n then ([],none) else match fF (some ((s1.getD []).drop n.toNat)) 44 with
  | none=> ([],none)
  | some r=> ((s1.getD []).take n.toNat,some r):=by
 unfold pJ
 rw [h]
 cases s1 with
 | some s=> rfl
 | none=>
  simp only [Option.getD_none,List.drop_nil,fF]
  split <;> rfl
theorem sD {b:Nat} {st:RS} {W:World} (c:UInt8) (h:iq b st W):Calls Tryz.prog 45 #[.pointer (some ⟨b,0,none⟩),.string ⟨[c].toArray⟩] W fun e W'=> e= .returned (.tuple #[])∧Ob b W W'∧iq b (fF st c) W':=by
 refine (Gu (c:=c) ((rdH b st W).1 h)).mono fun e W' hr=> ⟨hr.1,hr.2.1,?_⟩
 cases st with
 | none=> exact hr.2.2
 | some s=> exact hr.2.2.rd
section
variable {E : World → Prop} (hN : ahq E)
include hN
theorem Xc {b:Nat} {st:RS} {W:World} (e:UInt8) (least:Int) (h:iq b st W) (hE:E W) (hl:(st.getD []).length≤1000000):
  Calls Tryz.prog 42 #[.pointer (some ⟨b,0,none⟩),.int .u8 (e.toNat:Int),.int .i64 least] W fun r W'=> r= .returned (.int .i64 (dA st e least).1)∧Ob b W W'∧iq b (dA st e least).2 W':=
 (hN b _ _ W e least ((rdH b st W).1 h) hE hl).mono fun r W' hr=> ⟨by rw [hr.2.ret.1,Nz],hr.1,hr.2.ret.2.rd⟩
theorem adG {b:Nat} {st:RS} {W:World} (h:iq b st W) (hE:E W) (hl:(st.getD []).length≤1000000):
  Calls Tryz.prog 24 #[.pointer (some ⟨b,0,none⟩)] W fun r W'=> r= .returned (.int .i64 (dA st 59 0).1)∧Ob b W W'∧iq b (dA st 59 0).2 W':=
 (adE hN ((rdH b st W).1 h) hE hl).mono fun r W' hr=> ⟨by rw [hr.1,Nz],hr.2.1,hr.2.2.rd⟩
theorem adH {b:Nat} {st:RS} {W:World} (h:iq b st W) (hE:E W) (hl:(st.getD []).length≤1000000):
  Calls Tryz.prog 25 #[.pointer (some ⟨b,0,none⟩)] W fun r W'=> r= .returned (.int .i64 (dA st 59 dw).1)∧Ob b W W'∧iq b (dA st 59 dw).2 W':=
 (adF hN ((rdH b st W).1 h) hE hl).mono fun r W' hr=> ⟨by rw [hr.1,Nz],hr.2.1,hr.2.2.rd⟩
set_option maxRecDepth 100000 in
theorem ahr {b:Nat} {st:RS} {W:World} (h:iq b st W) (hE:E W) (hl:(st.getD []).length≤1000000):
  Calls Tryz.prog 27 #[.pointer (some ⟨b,0,none⟩)] W fun r W'=> r= .returned (.string ⟨(pJ st).1.toArray⟩)∧Ob b W W'∧iq b (pJ st).2 W':=by
 have hC:Calls Tryz.prog 42 #[.pointer (some ⟨b,0,none⟩),.int .u8 58,.int .i64 0] W fun r W'=> r= .returned (.int .i64 (dA st 58 0).1)∧Ob b W W'∧iq b (dA st 58 0).2 W':=Xc hN 58 0 h hE hl
 have hn0:=nI st 58 (least:=0) (by omega)
 have hlen:=jd st 58 0
 have hT:=Rf st (n:=(dA st 58 0).1) (s1:=(dA st 58 0).2) rfl
 clear h hE
 generalize (dA st 58 0).1=n at hC hn0 hT
 generalize (dA st 58 0).2=s1 at hC hlen hT
 obtain ⟨k,rfl⟩:∃k:Nat,n=k:=⟨n.toNat,by omega⟩
 rw [Int.toNat_natCast] at hT
 have hP:Lib.hasPrefix ((s1.getD []).drop k) [44]=true→s1.isNone=false:=fun h=> by
  cases s1 with
  | some _=> rfl
  | none=> simp [Lib.hasPrefix] at h
 have HR:Hid (∀W',iq b s1 W'→W'.heap[b]? =some (.cells #[.string ⟨(s1.getD []).toArray⟩,.bool s1.isNone] 121 (0,0))):=ah fun W' h=> (rdH b s1 W').1 h
 generalize s1.getD []=rest at hlen hT hP HR
 generalize s1.isNone=y at hP HR
 obtain ⟨hp1,hp2⟩:=Gx (rest.drop k) 44
 cases hlt:decide ((rest.length:Int) < (k:Int)) with
 | true=>
  have hlt':=of_decide_eq_true hlt
  rw [if_pos hlt'] at hT
  have HT:=ah hT
  have hN:rest.length < k:=by omega
  clear hT hP hp1 hp2 hn0 hlen hlt'
  go_enter Tryz.func27,Tryz.ntmps27
  go_upto_region 2 with (go_at_call 42;refine hC.mono ?_;rintro r W1 ⟨rfl,h1,h2⟩;have H1:=ah h1;have H2:=ah (HR.out _ h2);clear h1 h2)
  have c1:W1.cell? ⟨b,0,none⟩=some (.string ⟨rest.toArray⟩):=by rw [Lib.cell_of_heap H2.out];rfl
  go_wp2_with (go_at_call 44;refine (kZ H2.out).mono ?_;rintro r W2 ⟨rfl,h1,h2⟩;have H3:=ah h1;have H4:=ah h2;clear h1 h2)
  go_ret
  rw [HT.out]
  exact ⟨rfl,H1.out.trans H4.out,H3.out⟩
 | false=>
  have hlt':=of_decide_eq_false hlt
  rw [if_neg hlt'] at hT
  have hk1:(k:Int)≤(rest.length:Int):=by omega
  have hk0:(0:Int)≤(k:Int):=by omega
  have hN:¬rest.length < k:=by omega
  have hN2:k≤rest.length:=by omega
  clear hn0 hlen hlt'
  cases hp:Lib.hasPrefix (rest.drop k) [44] with
  | true=>
   have hy:=hP hp
   subst hy
   have hcl:=hp2 hp
   rw [hcl] at hT
   have HT:=ah hT
   have HC:Hid (∀W',W'.heap[b]? =some (.cells #[.string ⟨(rest.drop k).toArray⟩,.bool false] 121 (0,0))→Calls Tryz.prog 45 #[.pointer (some ⟨b,0,none⟩),.string ⟨#[44]⟩] W' fun e W2=> e= .returned (.tuple #[])∧Ob b W' W2∧iq b (some (Lib.trimPrefix (rest.drop k) [44])) W2):=ah fun W' h=> by
    have:=sD (b:=b) (st:=some (rest.drop k)) 44 h
    rw [hcl] at this
    exact this
   clear hT hP hp1 hp2 hp hcl
   go_enter Tryz.func27,Tryz.ntmps27
   go_upto_region 2 with (go_at_call 42;refine hC.mono ?_;rintro r W1 ⟨rfl,h1,h2⟩;have H1:=ah h1;have H2:=ah (HR.out _ h2);clear h1 h2)
   have c1:W1.cell? ⟨b,0,none⟩=some (.string ⟨rest.toArray⟩):=by rw [Lib.cell_of_heap H2.out];rfl
   have f1:W1.frozen? ⟨b,0,none⟩=false:=Lib.frozen_of_heap H2.out 0
   have HS:Hid (∀v,(W1.setCell ⟨b,0,none⟩ v).heap[b]? =some (.cells #[v,.bool false] 121 (0,0))):=ah fun v=> by
    have:=Lib.heap_setCell_same (i:=0) H2.out v
    simpa using this
   go_wp2_with (go_at_call 45;refine (HC.out _ (HS.out _)).mono ?_;rintro r W2 ⟨rfl,h1,h2⟩;have c2:W2.cell? ⟨b,1,none⟩=some (.bool false):=(by rw [Lib.cell_of_heap h2];rfl);have H3:=ah h1;have H4:=ah h2;clear h1 h2)
   go_ret
   rw [HT.out]
   exact ⟨rfl,(H1.out.trans (Ob.setCell b 0 _ _)).trans H3.out,H4.out⟩
  | false=>
   have hcl:fF (some (rest.drop k)) 44=none:=by
    cases hr:fF (some (rest.drop k)) 44 with
    | none=> rfl
    | some x=> rw [hp1.2 (by rw [hr];simp)] at hp;cases hp
   rw [hcl] at hT
   have HT:=ah hT
   have HC:Hid (∀W',W'.heap[b]? =some (.cells #[.string ⟨(rest.drop k).toArray⟩,.bool y] 121 (0,0))→Calls Tryz.prog 45 #[.pointer (some ⟨b,0,none⟩),.string ⟨#[44]⟩] W' fun e W2=> e= .returned (.tuple #[])∧Ob b W' W2∧iq b none W2):=ah fun W' h=> (Gu (c:=44) h).mono fun e W2 hr=> ⟨hr.1,hr.2.1,by have:=hr.2.2;unfold ClQ at this;rw [hp] at this;exact this⟩
   clear hT hP hp1 hp2 hp hcl
   go_enter Tryz.func27,Tryz.ntmps27
   go_upto_region 2 with (go_at_call 42;refine hC.mono ?_;rintro r W1 ⟨rfl,h1,h2⟩;have H1:=ah h1;have H2:=ah (HR.out _ h2);clear h1 h2)
   have c1:W1.cell? ⟨b,0,none⟩=some (.string ⟨rest.toArray⟩):=by rw [Lib.cell_of_heap H2.out];rfl
   have f1:W1.frozen? ⟨b,0,none⟩=false:=Lib.frozen_of_heap H2.out 0
   have HS:Hid (∀v,(W1.setCell ⟨b,0,none⟩ v).heap[b]? =some (.cells #[v,.bool y] 121 (0,0))):=ah fun v=> by
    have:=Lib.heap_setCell_same (i:=0) H2.out v
    simpa using this
   go_wp2_with (go_at_call 45;refine (HC.out _ (HS.out _)).mono ?_;rintro r W2 ⟨rfl,h1,h2⟩;have c2:W2.cell? ⟨b,1,none⟩=some (.bool true):=(by rw [Lib.cell_of_heap h2];rfl);have H3:=ah h1;have H4:=ah h2;clear h1 h2)
   go_ret
   rw [HT.out]
   exact ⟨rfl,(H1.out.trans (Ob.setCell b 0 _ _)).trans H3.out,H4.out⟩
end
end Go.Proofs.YtnegekppaoedgaaGreatDoor
namespace Go.Proofs.YtnegekppaoedgaaGreatDoor
open Go.RowKit Go.Shelf
attribute [local go_sem] uo GY GZ lS
theorem Ob.gr {b:Nat} {w w':World} (h:Ob b w w'):w.grownBy w' (some b):=⟨h.os,h.tape,h.output,h.size,fun k hk hn=> h.block k hk fun e=> hn (by rw [e])⟩
theorem Ob.grown {b:Nat} {a w w':World} {row:Option Nat} (h:Ob b a w) (hg:w.grownBy w' row) (hr:∀k,row=some k→a.heap.size≤k):Ob b a w':=
 ⟨hg.os.trans h.os,hg.tape.trans h.tape,hg.output.trans h.output,Nat.le_trans h.size hg.size,fun k hk hn=> (hg.block k (Nat.lt_of_lt_of_le hk h.size) fun e=> by have:=hr k e.symm;omega).trans (h.block k hk hn)⟩
theorem Ob.alloc {b:Nat} {a w:World} (h:Ob b a w) (o:Obj):Ob b a (w.alloc o):=h.grown (World.grownBy_alloc w o none) fun _ e=> by cases e
theorem jM {b B T s n:Nat} {v:Value} {xs:List Value} {w w':World} (h:w.ownsRow B T s v n xs) (ho:Ob b w w') (hb:b < B):w'.ownsRow B T s v n xs:=
 h.kept ho.gr (by
  cases hv:v.ownBlock with
  | none=> exact .inl rfl
  | some g=> exact .inr fun e=> by have:=(h.lt g hv).1;injection e with e;omega)
theorem info3:(Tryz.prog.info? 3).map (fun i=> (i.zero,i.size,i.bytes))=some (some (.int .i64 0),1,8):=by kernel_rfl
theorem new1 (w:World) (v:Value) (T:TypeId):∀j u,[v][j]? =some u→(w.alloc (.cells #[v] T)).cell? ((⟨w.heap.size,0,none⟩:Addr).add j)=some u:=fun j u hu=> by
 match j,hu with
 | 0,hu=>
  injection hu with hu
  subst hu
  have hadd:(⟨w.heap.size,0,none⟩:Addr).add 0=⟨w.heap.size,0,none⟩:=by unfold Addr.add;split <;> simp_all
  rw [hadd,Lib.cell_of_heap (heap_alloc_new w _)]
  rfl
theorem NC {l:List UInt8} {e:UInt8} {least n:Int} {s:List UInt8} (h:gB l e least=some (n,s)):s.length < l.length:=by
 have hlt:=Gs e (l.take 21)
 have hdl:(l.take 21).length≤l.length:=by simp;omega
 unfold gB at h
 split at h
 ·cases h
 ·split at h
  ·split at h
   ·injection h with h
    injection h with h1 h2
    rw [←h2,List.length_drop]
    omega
   ·cases h
  ·cases h
def stM (s:RS):Nat:=match s with
 | none=> 0
 | some l=> l.length + 1
theorem Ba (l:List UInt8) (e:UInt8) (least:Int):stM (dA (some l) e least).2 < stM (some l):=by
 show stM (match gB l e least with | some (n,r)=> ((n,some r):Int×RS) | none=> (0,none)).2 < l.length + 1
 cases h:gB l e least with
 | none=> exact Nat.succ_pos _
 | some q=> exact Nat.succ_lt_succ (NC (n:=q.1) (s:=q.2) h)
theorem ND (s:RS):stM s≤(s.getD []).length + 1:=by
 cases s with
 | none=> exact Nat.zero_le _
 | some l=> exact Nat.le_refl _
structure ItS (b:Nat) (W:World) (s0:RS) (n0:Nat) (z:Int) (s:RS) (acc:List Int) (x:Value) (W':World):Prop where
 z0:0≤z
 z1:z≤9223372036854775807
 sum:jc z.toNat s acc=jc n0 s0 []
 rd:iq b s W'
 ob:Ob b W W'
 row:W'.ownsRow W.heap.size 3 1 x acc.length (acc.map (.int .i64))
 len:acc.length + stM s≤1000001
theorem vG (s:RS) (acc:List Int):jc 0 s acc=(acc,s):=by cases s <;> rfl
theorem U2 (k:Nat) (acc:List Int):jc k none acc=(acc,none):=by cases k <;> rfl
theorem U3 {z:Int} (hz:0 < z) (l:List UInt8) (acc:List Int):jc z.toNat (some l) acc=jc (z - 1).toNat (dA (some l) 59 dw).2 (acc ++ [(dA (some l) 59 dw).1]):=by
 obtain ⟨k,hk⟩:∃k,z.toNat=k + 1:=⟨z.toNat - 1,by omega⟩
 rw [hk,show (z - 1).toNat=k by omega]
 rfl
theorem vH (st:RS) (e:UInt8) (least:Int):(dA st e least).1≤9223372036854775807:=by
 cases st with
 | none=> exact by show (0:Int)≤_;omega
 | some s=>
  show (match gB s e least with | some (n,r)=> ((n,some r):Int×RS) | none=> (0,none)).1≤_
  cases h:gB s e least with
  | none=> show (0:Int)≤_;omega
  | some q=>
   show q.1≤_
   unfold gB at h
   split at h
   ·cases h
   ·split at h
    ·rename_i n hq
     split at h
     ·injection h with h
      rw [←h]
      exact (nH hq).2
     ·cases h
    ·cases h
section
variable {E : World → Prop} (hN : ahq E)
include hN
set_option maxRecDepth 100000 in
theorem adI {b:Nat} {st:RS} {W:World} (h:iq b st W) (hE:E W) (hEo:∀w w',E w→Ob b w w'→E w') (hl:(st.getD []).length≤1000000):
  Calls Tryz.prog 43 #[.pointer (some ⟨b,0,none⟩),.func (.func 25) #[.pointer (some ⟨b,0,none⟩)] #[]] W fun r W'=> ∃v,r= .returned v∧Ob b W W'∧iq b (jB st).2 W'∧W'.ownsRow W.heap.size 3 1 v (jB st).1.length ((jB st).1.map (.int .i64)):=by
 obtain ⟨it,hi,hz0,hz1,hz2⟩:=info_parts info3
 have hC:Calls Tryz.prog 42 #[.pointer (some ⟨b,0,none⟩),.int .u8 91,.int .i64 0] W fun r W'=> r= .returned (.int .i64 (dA st 91 0).1)∧Ob b W W'∧iq b (dA st 91 0).2 W':=Xc hN 91 0 h hE hl
 have hn0:=nI st 91 (least:=0) (by omega)
 have hn1:=vH st 91 0
 have hlen:=jd st 91 0
 have hT:jB st=match fF (jc (dA st 91 0).1.toNat (dA st 91 0).2 []).2 93 with
  | none=> ([],none)
  | some r=> ((jc (dA st 91 0).1.toNat (dA st 91 0).2 []).1,some r):=rfl
 have hb:b < W.heap.size:=lt_of_block h
 clear h
 generalize (dA st 91 0).1=n at hC hn0 hn1 hT
 generalize (dA st 91 0).2=s1 at hC hlen hT
 have HT:=ah hT
 have HN:=ah (And.intro hn0 (And.intro hn1 hlen))
 have HL:=ah hl
 clear hT hn0 hn1 hlen hl
 go_enter Tryz.func43,Tryz.ntmps43
 go_wp2_with (go_at_call 42;refine hC.mono ?_;rintro r W1 ⟨rfl,h1,h2⟩;have H1:=ah h1;have H2:=ah h2;clear h1 h2)
 go_loopg [5,6] (stM s1) (fun q x y W'=> ∃(z:Int) (s:RS) (acc:List Int),y= .int .i64 z∧Hid (stM s≤q)∧Hid (ItS b W s1 n.toNat z s acc x W'))
 case atStart=> exact ⟨n,s1,[],rfl,ah (Nat.le_refl _),ah ⟨HN.out.1,HN.out.2.1,rfl,H2.out,H1.out,World.ownsRow_nil _ _ _ _,by have h1:=ND s1;have h2:=HN.out.2.2;have h3:=HL.out;rw [List.length_nil];omega⟩⟩
 case round=>
  obtain ⟨z,s,acc,rfl,HQ,HI⟩:=hrel
  by_cases hz:0 < z
  ·have d1:decide (0 < z)=true:=decide_eq_true hz
   cases s with
   | none=>
    have c1:wr.cell? ⟨b,1,none⟩=some (.bool true):=by rw [Lib.cell_of_heap HI.out.rd];rfl
    have hfin:jc n.toNat s1 []=(acc,none):=by rw [←HI.out.sum,U2]
    have hR:jB st=match fF none 93 with | none=> ([],none) | some r=> (acc,some r):=by rw [HT.out,hfin]
    cases hcl:fF none 93 with
    | none=>
     rw [hcl] at hR
     have hC2:Calls Tryz.prog 45 #[.pointer (some ⟨b,0,none⟩),.string ⟨#[93]⟩] wr fun e W2=> e= .returned (.tuple #[])∧Ob b wr W2∧iq b none W2:=by
      have:=sD 93 HI.out.rd
      rw [hcl] at this
      exact this
     have HR:=ah hR
     clear hR hfin hcl
     go_wp2_with (go_at_call 45;refine hC2.mono ?_;rintro r W2 ⟨rfl,h1,h2⟩;have c2:W2.cell? ⟨b,1,none⟩=some (.bool true):=(by rw [Lib.cell_of_heap h2];rfl);have H3:=ah h1;have H4:=ah h2;clear h1 h2)
     go_ret
     rw [HR.out]
     exact ⟨_,rfl,HI.out.ob.trans H3.out,H4.out,World.ownsRow_nil _ _ _ _⟩
    | some rr=>
     rw [hcl] at hR
     have hC2:Calls Tryz.prog 45 #[.pointer (some ⟨b,0,none⟩),.string ⟨#[93]⟩] wr fun e W2=> e= .returned (.tuple #[])∧Ob b wr W2∧iq b (some rr) W2:=by
      have:=sD 93 HI.out.rd
      rw [hcl] at this
      exact this
     have HR:=ah hR
     clear hR hfin hcl
     go_wp2_with (go_at_call 45;refine hC2.mono ?_;rintro r W2 ⟨rfl,h1,h2⟩;have c2:W2.cell? ⟨b,1,none⟩=some (.bool false):=(by rw [Lib.cell_of_heap h2];rfl);have H3:=ah h1;have H4:=ah h2;clear h1 h2)
     go_ret
     rw [HR.out]
     exact ⟨_,rfl,HI.out.ob.trans H3.out,H4.out,jM HI.out.row H3.out hb⟩
   | some l=>
    have c1:wr.cell? ⟨b,1,none⟩=some (.bool false):=by rw [Lib.cell_of_heap HI.out.rd];rfl
    have hl1:l.length≤1000000:=by have:acc.length + (l.length + 1)≤1000001:=HI.out.len;omega
    have hI:Calls Tryz.prog 25 #[.pointer (some ⟨b,0,none⟩)] wr fun r W'=> r= .returned (.int .i64 (dA (some l) 59 dw).1)∧Ob b wr W'∧iq b (dA (some l) 59 dw).2 W':=adH hN HI.out.rd (hEo _ _ hE HI.out.ob) hl1
    have hw:IntKind.i64.wrap (z - 1)=z - 1:=wrap64 (by have:=HI.out.z0;omega) (by have:=HI.out.z1;omega)
    have HS:=ah (U3 hz l acc)
    have HZ:=ah hz
    have HL1:Hid (acc.length≤1000000):=ah (by have:acc.length + (l.length + 1)≤1000001:=HI.out.len;omega)
    clear hz hl1
    generalize hv:(dA (some l) 59 dw).1=v1 at hI HS
    generalize hs2:(dA (some l) 59 dw).2=s2 at hI HS
    have HM:Hid (stM s2 < stM (some l)):=ah (by rw [←hs2];exact Ba l 59 dw)
    clear hv hs2
    go_wp2_with (first
     | (go_at_call 25;refine hI.mono ?_;rintro r W2 ⟨rfl,h1,h2⟩;have H3:=ah h1;have H4:=ah h2;have HO:=ah (jM HI.out.row h1 hb);clear h1 h2)
     | (at_builtin;refine wpList_append_own _ rfl _ _ 22 rfl W.heap.size 3 it (.int .i64 0) 1 8 Tryz.underlying22 hi hz0 hz1 hz2 rfl (by decide) _ _ _ rfl (HO.out.alloc _) ⟨W2.heap.size,0,none⟩ 1 1 [.int .i64 v1] rfl rfl (new1 W2 _ _) (by simp [Value.oneCell']) (by have:=HL1.out;simp only [maxLen];omega) (by have:=HL1.out;omega) (by have h1:=HI.out.ob.size;have h2:=H3.out.size;simp;omega) ?_;intro v' w3 hown hgrow _;have H5:=ah hown;have H6:=ah hgrow;clear hown hgrow))
    go_roundg (stM s2)
    case measure=> have h1:=HM.out;have h2:=HQ.out;omega
    have hlt2:=fun k (hk:_=some k)=> ((HO.out.alloc (.cells #[.int .i64 v1] 3)).lt k hk).1
    have hob:Ob b W w3:=((HI.out.ob.trans H3.out).alloc _).grown H6.out hlt2
    have hrd:iq b s2 w3:=(H6.out.block b (by have:=lt_of_block H4.out;simp;omega) fun e=> by have:=hlt2 b e.symm;omega).trans (by rw [heap_alloc_old _ _ (lt_of_block H4.out)];exact H4.out)
    refine ⟨z - 1,s2,acc ++ [v1],rfl,ah (Nat.le_refl _),ah ⟨by have:=HZ.out;omega,by have:=HI.out.z1;omega,by rw [←HS.out];exact HI.out.sum,hrd,hob,?_,?_⟩⟩
    ·have:=H5.out
     rw [List.length_append,List.map_append]
     exact this
    ·have h1:=HI.out.len
     have h2:=HM.out
     rw [List.length_append,List.length_singleton]
     omega
  ·have d1:decide (0 < z)=false:=decide_eq_false hz
   have hfin:jc n.toNat s1 []=(acc,s):=by rw [←HI.out.sum,show z.toNat=0 by omega,vG]
   clear hz
   have hR:jB st=match fF s 93 with | none=> ([],none) | some r=> (acc,some r):=by rw [HT.out,hfin]
   cases hcl:fF s 93 with
   | none=>
    rw [hcl] at hR
    have hC2:Calls Tryz.prog 45 #[.pointer (some ⟨b,0,none⟩),.string ⟨#[93]⟩] wr fun e W2=> e= .returned (.tuple #[])∧Ob b wr W2∧iq b none W2:=by
     have:=sD 93 HI.out.rd
     rw [hcl] at this
     exact this
    have HR:=ah hR
    clear hR hfin hcl
    go_wp2_with (go_at_call 45;refine hC2.mono ?_;rintro r W2 ⟨rfl,h1,h2⟩;have c2:W2.cell? ⟨b,1,none⟩=some (.bool true):=(by rw [Lib.cell_of_heap h2];rfl);have H3:=ah h1;have H4:=ah h2;clear h1 h2)
    go_ret
    rw [HR.out]
    exact ⟨_,rfl,HI.out.ob.trans H3.out,H4.out,World.ownsRow_nil _ _ _ _⟩
   | some rr=>
    rw [hcl] at hR
    have hC2:Calls Tryz.prog 45 #[.pointer (some ⟨b,0,none⟩),.string ⟨#[93]⟩] wr fun e W2=> e= .returned (.tuple #[])∧Ob b wr W2∧iq b (some rr) W2:=by
     have:=sD 93 HI.out.rd
     rw [hcl] at this
     exact this
    have HR:=ah hR
    clear hR hfin hcl
    go_wp2_with (go_at_call 45;refine hC2.mono ?_;rintro r W2 ⟨rfl,h1,h2⟩;have c2:W2.cell? ⟨b,1,none⟩=some (.bool false):=(by rw [Lib.cell_of_heap h2];rfl);have H3:=ah h1;have H4:=ah h2;clear h1 h2)
    go_ret
    rw [HR.out]
    exact ⟨_,rfl,HI.out.ob.trans H3.out,H4.out,jM HI.out.row H3.out hb⟩
theorem ahs {b:Nat} {st:RS} {W:World} (h:iq b st W) (hE:E W) (hEo:∀w w',E w→Ob b w w'→E w') (hl:(st.getD []).length≤1000000):
  Calls Tryz.prog 26 #[.pointer (some ⟨b,0,none⟩)] W fun r W'=> ∃v,r= .returned v∧Ob b W W'∧iq b (jB st).2 W'∧W'.ownsRow W.heap.size 3 1 v (jB st).1.length ((jB st).1.map (.int .i64)):=by
 have hC:=adI hN h hE hEo hl
 have hmf:∀(fn:Go.Fn) (first cap:Array Value) (w:World),(Instr.makeFunc fn first cap).run Tryz.prog w= .ok (.func fn first cap) w:=fun _ _ _ _=> rfl
 clear h
 go_enter Tryz.func26,Tryz.ntmps26
 go_wp2_with (go_at_call 43;refine hC.mono ?_;rintro r W1 ⟨v,rfl,h1⟩;have H1:=ah h1;clear h1)
 go_ret
 exact ⟨_,rfl,H1.out⟩
end
end Go.Proofs.YtnegekppaoedgaaGreatDoor
namespace Go.Proofs.YtnegekppaoedgaaGreatDoor
open Go.RowKit Go.Shelf
attribute [local go_sem] uo GY GZ lS
theorem YO (l:List UInt8) (W:World):Calls Tryz.prog 23 #[.string ⟨l.toArray⟩] W fun r W'=> r= .returned (.pointer (some ⟨W.heap.size,0,none⟩))∧W'=W.alloc (.cells #[.string ⟨l.toArray⟩,.bool false] 121):=by
 go_enter Tryz.func23,Tryz.ntmps23
 go_wp2_with fail
 go_ret
 exact ⟨rfl,rfl⟩
theorem aht {b:Nat} {st:RS} {W:World} (h:iq b st W):Calls Tryz.prog 28 #[.pointer (some ⟨b,0,none⟩)] W fun r W'=> r= .returned (.int .i64 ((st.getD []).length:Int))∧W'=W:=by
 have c0:W.cell? ⟨b,0,none⟩=some (.string ⟨(st.getD []).toArray⟩):=by rw [Lib.cell_of_heap ((rdH b st W).1 h)];rfl
 clear h
 go_enter Tryz.func28,Tryz.ntmps28
 go_wp2_with fail
 go_ret
 exact ⟨rfl,rfl⟩
def JR (st:RS):Bool:=match st with
 | some []=> true
 | _=> false
theorem ahu {b:Nat} {st:RS} {W:World} (h:iq b st W):Calls Tryz.prog 29 #[.pointer (some ⟨b,0,none⟩)] W fun r W'=> r= .returned (.bool (JR st))∧W'=W:=by
 cases st with
 | none=>
  have c1:W.cell? ⟨b,1,none⟩=some (.bool true):=by rw [Lib.cell_of_heap h];rfl
  clear h
  go_enter Tryz.func29,Tryz.ntmps29
  go_wp2_with fail
  go_ret
  exact ⟨rfl,rfl⟩
 | some l=>
  have c0:W.cell? ⟨b,0,none⟩=some (.string ⟨l.toArray⟩):=by rw [Lib.cell_of_heap h];rfl
  have c1:W.cell? ⟨b,1,none⟩=some (.bool false):=by rw [Lib.cell_of_heap h];rfl
  clear h
  cases l with
  | nil=>
   go_enter Tryz.func29,Tryz.ntmps29
   go_wp2_with fail
   go_ret
   exact ⟨rfl,rfl⟩
  | cons c l=>
   go_enter Tryz.func29,Tryz.ntmps29
   go_wp2_with fail
   go_ret
   exact ⟨rfl,rfl⟩
end Go.Proofs.YtnegekppaoedgaaGreatDoor
namespace Go.Proofs.YtnegekppaoedgaaGreatDoor
open Go.RowKit Go.Shelf
attribute [local go_sem] uo GY GZ lS
theorem ahv (l r:List UInt8):(⟨l.toArray⟩ ++ ⟨r.toArray⟩:ByteArray)=⟨(l ++ r).toArray⟩:=by
 apply ByteArray.ext
 simp
theorem adK {w w':World} (h:Below w.heap.size w w'):w.grownBy w' none:=⟨h.os,h.tape,h.output,h.size,fun k hk _=> h.block k hk⟩
theorem Gy {T e:TypeId} {B b:Nat} {bs:List Value} {w w':World} (h:Lib.IsBuilder T e B b bs w) (hb:Below w.heap.size w w'):Lib.IsBuilder T e B b bs w':=by
 have one:∀p,Lib.BuilderAt T e B b p bs w→Lib.BuilderAt T e B b p bs w':=fun p ⟨hB,v,h1,h2,h3⟩=>
  ⟨hB,v,(hb.block b (Array.getElem?_eq_some_iff.1 h1).1).trans h1,h2.kept (adK hb) (by cases hv:v.ownBlock <;> simp),h3⟩
 rcases h with h | h
 ·exact .inl (one _ h)
 ·exact .inr (one _ h)
theorem JU {A:Nat→Prop} {w:World} (hA:∀b,A b→b < w.heap.size) {l:List Int} {v:Value} (h:aV A w (.fz (l.map (encI .i64))) v):∃a c,v= .slice a l.length c∧∀i n,l[i]? =some n→∃b o,a=some ⟨b,o,none⟩∧b < w.heap.size∧w.cell? ⟨b,o + i,none⟩=some (.int .i64 n):=by
 generalize hes:l.map (encI .i64)=es at h
 cases h with
 | fz0 a c _=>
  have:l= []:=List.map_eq_nil_iff.1 hes
  subst this
  exact ⟨_,_,rfl,fun i x hi=> by simp at hi⟩
 | fz _ b o sz c vs hs hb hcap hc hr=>
  have hlen:es.length=l.length:=by rw [←hes,List.length_map]
  rw [hlen]
  refine ⟨_,_,rfl,fun i x hx=> ⟨b,o,rfl,hA b hb,?_⟩⟩
  have hei:es[i]? =some (encI .i64 x):=by rw [←hes,List.getElem?_map,hx];rfl
  have hil:i < es.length:=(List.getElem?_eq_some_iff.1 hei).1
  have hsz:sz=1:=by rw [←hs _ (List.mem_of_getElem? hei)];rfl
  subst hsz
  have h1:=hc i (by omega)
  rw [h1]
  have h2:=hr i 0 _ (.v (.int .i64 x)) hei rfl
  rw [Nat.mul_one,Nat.add_zero] at h2
  rw [fG h2]
theorem jP:∀(l:List Int),(∀n∈l,-9223372036854775808≤n∧n≤9223372036854775807)→(l.flatMap aA).length≤21 * l.length
 | [],_=> Nat.zero_le _
 | n::l,h=> by
  have h1:=h n (by simp)
  have h2:=gY n h1.1 h1.2
  have ih:=jP l fun m hm=> h m (by simp [hm])
  rw [List.flatMap_cons,List.length_append,List.length_cons]
  have:(aA n).length=(Lib.itoa n).length + 1:=by simp [aA]
  omega
section
variable {E : World → Prop} (oG : ∀ (n : Int) (w : World), -9223372036854775808 ≤ n → n ≤ 9223372036854775807 → E w → Calls Tryz.prog 40 #[.int .i64 n] w fun e w' => e = .returned (.string ⟨(Lib.itoa n).toArray⟩) ∧ Below w.heap.size w w')
include oG
theorem zo {n:Int} {w:World} (h0: -9223372036854775808≤n) (h1:n≤9223372036854775807) (hE:E w):Calls Tryz.prog 18 #[.int .i64 n] w fun e w'=> e= .returned (.string ⟨(aA n).toArray⟩)∧Below w.heap.size w w':=by
 have hC:=oG n w h0 h1 hE
 have hln:¬9223372036854775807 < (Lib.itoa n).length + 1:=by have:=gY n h0 h1;omega
 go_enter Tryz.func18,Tryz.ntmps18
 go_wp2_with (go_at_call 40;refine hC.mono ?_;rintro r w1 ⟨rfl,h2⟩;have H1:=ah h2;clear h2)
 go_ret
 exact ⟨congrArg (fun s=> Ending.returned (Value.string s)) (ahv _ _),H1.out⟩
theorem JV {n:Int} {w:World} (h0:0≤n) (h1:n≤9223372036854775807) (hE:E w):Calls Tryz.prog 19 #[.int .i64 n] w fun e w'=> e= .returned (.string ⟨(aA n).toArray⟩)∧Below w.heap.size w w':=by
 have hC:=zo oG (by omega) h1 hE
 have d:decide (n < 0)=false:=decide_eq_false (by omega)
 go_enter Tryz.func19,Tryz.ntmps19
 go_wp2_with (go_at_call 18;refine hC.mono ?_;rintro r w1 ⟨rfl,h2⟩;have H1:=ah h2;clear h2)
 go_ret
 exact ⟨rfl,H1.out⟩
theorem U4 {l:List UInt8} {w:World} (h1:l.length≤1000000) (hE:E w):Calls Tryz.prog 21 #[.string ⟨l.toArray⟩] w fun e w'=> e= .returned (.string ⟨(wText l).toArray⟩)∧Below w.heap.size w w':=by
 have hC:=oG (l.length:Int) w (by omega) (by omega) hE
 have hl0:=gY (l.length:Int) (by omega) (by omega)
 have hl1:¬9223372036854775807 < (Lib.itoa (l.length:Int)).length + 1:=by omega
 have hl2:¬9223372036854775807 < (Lib.itoa (l.length:Int)).length + 1 + l.length:=by omega
 have hl3:¬9223372036854775807 < (Lib.itoa (l.length:Int)).length + 1 + l.length + 1:=by omega
 clear hl0
 go_enter Tryz.func21,Tryz.ntmps21
 go_wp2_with (go_at_call 40;refine hC.mono ?_;rintro r w1 ⟨rfl,h2⟩;have H1:=ah h2;clear h2)
 go_ret
 refine ⟨congrArg (fun s=> Ending.returned (Value.string s)) ?_,H1.out⟩
 apply ByteArray.ext
 simp [wText]
set_option maxRecDepth 100000 in
set_option maxHeartbeats 4000000 in
theorem U5 {A:Nat→Prop} {w:World} {l:List Int} {v:Value} (hr:aV A w (.fz (l.map (encI .i64))) v) (hA:∀b,A b→b < w.heap.size) (hE:E w) (hEb:∀w w',E w→Below w.heap.size w w'→E w') (hq:∀n∈l,0≤n∧n≤9223372036854775807) (hne:l≠ []) (hl:l.length≤1000000):
  Calls Tryz.prog 17 #[v] w fun e w'=> e= .returned (.string ⟨(l.flatMap aA).toArray⟩)∧Below w.heap.size w w':=by
 obtain ⟨a,c,rfl,hcell⟩:=JU hA hr
 have HC:=ah hcell
 have HQ:=ah hq
 have HE:=ah hE
 have HNE:=ah hne
 clear hcell hr hq hne
 generalize hn:l.length=n at *
 have HN:=ah hn
 clear hn
 have HL1:=ah hl
 clear hl
 go_enter Tryz.func17,Tryz.ntmps17
 go_upto_region 2 with fail
 have HW:Hid (Lib.IsBuilder 114 5 w.heap.size w.heap.size (Lib.byteCells ((l.take 0).flatMap aA)) (w.alloc (.cells #[.pointer none,.slice none 0 0] 114))):=ah (.inl ⟨Nat.le_refl _,_,heap_alloc_new w _,World.ownsRow_nil _ _ _ _,by simp [Value.ownBlock]⟩)
 have HB:Hid (Below w.heap.size w (w.alloc (.cells #[.pointer none,.slice none 0 0] 114))):=ah (bC w _)
 generalize w.alloc (.cells #[.pointer none,.slice none 0 0] 114)=W0 at HW HB ⊢
 generalize hs:w.heap.size=B at *
 have HS:=ah hs
 clear hs
 go_wp2_with fail
 go_loopg [8] n (fun q y W=> ∃k:Nat,k + q=n∧y= .int .i64 k∧Hid (Lib.IsBuilder 114 5 B B (Lib.byteCells ((l.take k).flatMap aA)) W)∧Hid (Below B w W))
 case atStart=> exact ⟨0,by omega,rfl,HW,HB⟩
 case round=>
  obtain ⟨k,hk,rfl,HL,HB⟩:=hrel
  clear HW
  by_cases hlt:k < n
  ·have hk6:k < 1000000:=by have:=HL1.out;omega
   obtain ⟨x,hx⟩:∃x,l[k]? =some x:=⟨_,List.getElem?_eq_getElem (by rw [HN.out];exact hlt)⟩
   obtain ⟨g,o,rfl,hg,hcl⟩:=HC.out k x hx
   have c1:wr.cell? ⟨g,o + k,none⟩=some (.int .i64 x):=by rw [HB.out.cell (p:=⟨g,o + k,none⟩) hg];exact hcl
   have HX:=ah hx
   have HXQ:=ah (HQ.out x (List.mem_of_getElem? hx))
   have HEW:Hid (E wr):=ah (hEb _ _ HE.out (by rw [HS.out];exact HB.out))
   have HLEN:Hid ((Lib.byteCells ((l.take k).flatMap aA)).length + (⟨(aA x).toArray⟩:ByteArray).size≤140737488355328):=ah (by
    have h1:=jP (l.take k) fun m hm=> by have:=HQ.out m (List.mem_of_mem_take hm);omega
    have h2:=gY x (by have:=HXQ.out;omega) HXQ.out.2
    have h3:(l.take k).length≤k:=List.length_take_le _ _
    have h4:(aA x).length=(Lib.itoa x).length + 1:=by simp [aA]
    have h5:(⟨(aA x).toArray⟩:ByteArray).size=(aA x).length:=by simp [ByteArray.size]
    rw [Lib.byteCells_length,h5]
    have:=HL1.out
    omega)
   clear hcl hg hx
   go_wp2_with (first
    | (go_at_call 19;refine (JV oG HXQ.out.1 HXQ.out.2 HEW.out).mono ?_;rintro r W1 ⟨rfl,h1⟩;have HL1:=ah (Gy HL.out h1);have HB1:=ah (HB.out.trans (h1.mono (by have:=HB.out.size;have:=HS.out;omega)));clear h1)
    | (go_at_call 38;refine Calls.mono (f:=38) (Any.Builder_WriteString (ρ:=Tryz.laysWStr_ren) Tryz.laysWStr (@Ci.xF Ci.TM) B B _ ⟨(aA x).toArray⟩ W1 HL1.out HLEN.out (by have:=HB1.out.size;have:=HS.out;omega)) ?_;rintro r W2 ⟨rfl,h1,h2⟩;have HL2:=ah h1;have HB2:=ah (HB1.out.trans h2);clear h1 h2))
   go_roundg (gk - 1)
   case measure=> omega
   refine ⟨k + 1,by omega,by rw [Int.natCast_add];rfl,?_,HB2⟩
   have e:(l.take (k + 1)).flatMap aA=(l.take k).flatMap aA ++ aA x:=by
    rw [List.take_add_one,HX.out,List.flatMap_append]
    simp
   rw [e,Lib.byteCells_append]
   exact ah (.inr HL2.out)
  ·obtain rfl:k=n:=by omega
   have hf:l.take k=l:=by rw [←HN.out,List.take_length]
   rw [hf] at HL
   have hfn:l.flatMap aA≠ []:=fun e=> by
    cases hq:l with
    | nil=> exact HNE.out hq
    | cons n l'=> rw [hq] at e;simp [aA] at e
   have HF:=ah hfn
   clear hfn
   go_wp2_with (go_at_call 39;refine Calls.mono (f:=39) (Any.Builder_String (ρ:=Tryz.laysBStr_ren) Tryz.laysBStr (@Ci.QH Ci.TM) B B (l.flatMap aA) wr HL.out HF.out) ?_;rintro r W2 ⟨rfl,hbel⟩;have HB2:=ah (HB.out.trans hbel);clear hbel)
   go_ret
   exact ⟨rfl,by rw [HS.out];exact HB2.out⟩
end
end Go.Proofs.YtnegekppaoedgaaGreatDoor
namespace Go.Proofs.YtnegekppaoedgaaGreatDoor
open Go.RowKit Go.Shelf
attribute [local go_sem] uo GY GZ lS
section
variable {E : World → Prop} (oG : ∀ (n : Int) (w : World), -9223372036854775808 ≤ n → n ≤ 9223372036854775807 → E w → Calls Tryz.prog 40 #[.int .i64 n] w fun e w' => e = .returned (.string ⟨(Lib.itoa n).toArray⟩) ∧ Below w.heap.size w w')
include oG
set_option maxRecDepth 100000 in
set_option maxHeartbeats 4000000 in
theorem U6 {A:Nat→Prop} {w:World} {l:List Int} {v:Value} (hr:aV A w (.fz (l.map (encI .i64))) v) (hA:∀b,A b→b < w.heap.size) (hE:E w) (hEb:∀w w',E w→Below w.heap.size w w'→E w') (hq:∀n∈l,-9223372036854775808≤n∧n≤9223372036854775807) (hl:l.length≤1000000):
  Calls Tryz.prog 41 #[v,.func (.func 18) #[] #[]] w fun e w'=> e= .returned (.string ⟨(lH l).toArray⟩)∧Below w.heap.size w w':=by
 obtain ⟨a,c,rfl,hcell⟩:=JU hA hr
 have HC:=ah hcell
 have HQ:=ah hq
 have HE:=ah hE
 have hq2:=hq
 clear hcell hr hq
 obtain ⟨pre,hpre⟩:∃pre,pre=Lib.itoa (l.length:Int) ++ [91]:=⟨_,rfl⟩
 have aiU:pre.length≤21:=by
  have:=gY (l.length:Int) (by omega) (by omega)
  rw [hpre,List.length_append,List.length_singleton]
  omega
 have HP:=ah aiU
 have HPN:Hid (pre≠ []):=ah (by rw [hpre];simp)
 have HT:Hid (lH l=pre ++ l.flatMap aA ++ [93]):=ah (by rw [hpre];simp [lH])
 have HPS:Hid (Lib.strCells (⟨(Lib.itoa (l.length:Int)).toArray⟩ ++ ⟨#[91]⟩)=Lib.byteCells pre):=ah (by rw [Lib.strCells_eq,hpre];simp)
 have HPZ:Hid ((⟨(Lib.itoa (l.length:Int)).toArray⟩ ++ ⟨#[91]⟩:ByteArray).size=pre.length):=ah (by rw [hpre];simp [ByteArray.size])
 have hl1:¬9223372036854775807 < (Lib.itoa (l.length:Int)).length + 1:=by have:=gY (l.length:Int) (by omega) (by omega);omega
 have hl2:¬9223372036854775807 < pre.length + (l.flatMap aA).length + 1:=by have:=jP l hq2;omega
 rw [List.length_flatMap] at hl2
 clear aiU hpre hq2
 generalize hn:l.length=n at *
 have HN:=ah hn
 clear hn
 have HL1:=ah hl
 clear hl
 go_enter Tryz.func41,Tryz.ntmps41
 go_upto_region 2 with fail
 have HW:Hid (Lib.IsBuilder 114 5 w.heap.size w.heap.size [] (w.alloc (.cells #[.pointer none,.slice none 0 0] 114))):=ah (.inl ⟨Nat.le_refl _,_,heap_alloc_new w _,World.ownsRow_nil _ _ _ _,by simp [Value.ownBlock]⟩)
 have HB:Hid (Below w.heap.size w (w.alloc (.cells #[.pointer none,.slice none 0 0] 114))):=ah (bC w _)
 generalize w.alloc (.cells #[.pointer none,.slice none 0 0] 114)=W0 at HW HB ⊢
 generalize hs:w.heap.size=B at *
 have HS:=ah hs
 clear hs
 have HE0:Hid (E W0):=ah (hEb _ _ HE.out (by rw [HS.out];exact HB.out))
 go_upto_region 3 with (first
  | (go_at_call 40;refine (oG (n:Int) W0 (by omega) (by have:=HL1.out;omega) HE0.out).mono ?_;rintro r W1 ⟨rfl,h1⟩;have HW1:=ah (Gy HW.out h1);have HB1:=ah (HB.out.trans (h1.mono (by have:=HB.out.size;have:=HS.out;omega)));clear h1)
  | (go_at_call 38;refine Calls.mono (f:=38) (Any.Builder_WriteString (ρ:=Tryz.laysWStr_ren) Tryz.laysWStr (@Ci.xF Ci.TM) B B _ _ W1 HW1.out (by rw [HPZ.out];have:=HP.out;simp;omega) (by have:=HB1.out.size;have:=HS.out;omega)) ?_;rintro r W2 ⟨rfl,h1,h2⟩;rw [HPS.out,List.nil_append] at h1;have HW2:Hid (Lib.IsBuilder 114 5 B B (Lib.byteCells (pre ++ (l.take 0).flatMap aA)) W2):=ah (.inr (by rw [List.take_zero,List.flatMap_nil,List.append_nil];exact h1));have HB2:=ah (HB1.out.trans h2);clear h1 h2))
 clear HW HW1 HB HB1 HE0 HPS HPZ
 go_wp2_with fail
 go_loopg [15] n (fun q y W=> ∃k:Nat,k + q=n∧y= .int .i64 k∧Hid (Lib.IsBuilder 114 5 B B (Lib.byteCells (pre ++ (l.take k).flatMap aA)) W)∧Hid (Below B w W))
 case atStart=> exact ⟨0,by omega,rfl,HW2,HB2⟩
 case round=>
  clear HW2 HB2
  obtain ⟨k,hk,rfl,HL,HB⟩:=hrel
  by_cases hlt:k < n
  ·have hk6:k < 1000000:=by have:=HL1.out;omega
   obtain ⟨x,hx⟩:∃x,l[k]? =some x:=⟨_,List.getElem?_eq_getElem (by rw [HN.out];exact hlt)⟩
   obtain ⟨g,o,rfl,hg,hcl⟩:=HC.out k x hx
   have c1:wr.cell? ⟨g,o + k,none⟩=some (.int .i64 x):=by rw [HB.out.cell (p:=⟨g,o + k,none⟩) hg];exact hcl
   have HX:=ah hx
   have HXQ:=ah (HQ.out x (List.mem_of_getElem? hx))
   have HEW:Hid (E wr):=ah (hEb _ _ HE.out (by rw [HS.out];exact HB.out))
   have HLEN:Hid ((Lib.byteCells (pre ++ (l.take k).flatMap aA)).length + (⟨(aA x).toArray⟩:ByteArray).size≤140737488355328):=ah (by
    have h1:=jP (l.take k) fun m hm=> HQ.out m (List.mem_of_mem_take hm)
    have h2:=gY x HXQ.out.1 HXQ.out.2
    have h3:(l.take k).length≤k:=List.length_take_le _ _
    have h4:(aA x).length=(Lib.itoa x).length + 1:=by simp [aA]
    have h5:(⟨(aA x).toArray⟩:ByteArray).size=(aA x).length:=by simp [ByteArray.size]
    rw [Lib.byteCells_length,List.length_append,h5]
    have:=HL1.out
    have:=HP.out
    omega)
   clear hcl hg hx
   go_wp2_with (first
    | (go_at_call 18;refine (zo oG HXQ.out.1 HXQ.out.2 HEW.out).mono ?_;rintro r W1 ⟨rfl,h1⟩;have HW1:=ah (Gy HL.out h1);have HB1:=ah (HB.out.trans (h1.mono (by have:=HB.out.size;have:=HS.out;omega)));clear h1)
    | (go_at_call 38;refine Calls.mono (f:=38) (Any.Builder_WriteString (ρ:=Tryz.laysWStr_ren) Tryz.laysWStr (@Ci.xF Ci.TM) B B _ ⟨(aA x).toArray⟩ W1 HW1.out HLEN.out (by have:=HB1.out.size;have:=HS.out;omega)) ?_;rintro r W2 ⟨rfl,h1,h2⟩;have HL2:=ah h1;have HB2:=ah (HB1.out.trans h2);clear h1 h2))
   go_roundg (gk - 1)
   case measure=> omega
   refine ⟨k + 1,by omega,by rw [Int.natCast_add];rfl,?_,HB2⟩
   have e:pre ++ (l.take (k + 1)).flatMap aA=(pre ++ (l.take k).flatMap aA) ++ aA x:=by
    rw [List.take_add_one,HX.out,List.flatMap_append]
    simp
   rw [e,Lib.byteCells_append]
   exact ah (.inr HL2.out)
  ·obtain rfl:k=n:=by omega
   have hf:l.take k=l:=by rw [←HN.out,List.take_length]
   rw [hf] at HL
   have HF:Hid (pre ++ l.flatMap aA≠ []):=ah fun e=> HPN.out (List.append_eq_nil_iff.1 e).1
   go_wp2_with (go_at_call 39;refine Calls.mono (f:=39) (Any.Builder_String (ρ:=Tryz.laysBStr_ren) Tryz.laysBStr (@Ci.QH Ci.TM) B B _ wr HL.out HF.out) ?_;rintro r W2 ⟨rfl,hbel⟩;have HB2:=ah (HB.out.trans hbel);clear hbel)
   go_ret
   exact ⟨congrArg (fun s=> Ending.returned (Value.string s)) (by rw [HT.out];exact ahv _ _),by rw [HS.out];exact HB2.out⟩
theorem Rh {A:Nat→Prop} {w:World} {l:List Int} {v:Value} (hr:aV A w (.fz (l.map (encI .i64))) v) (hA:∀b,A b→b < w.heap.size) (hE:E w) (hEb:∀w w',E w→Below w.heap.size w w'→E w') (hq:∀n∈l,-9223372036854775808≤n∧n≤9223372036854775807) (hl:l.length≤1000000):
  Calls Tryz.prog 20 #[v] w fun e w'=> e= .returned (.string ⟨(lH l).toArray⟩)∧Below w.heap.size w w':=by
 have hC:=U6 oG hr hA hE hEb hq hl
 clear hr
 go_enter Tryz.func20,Tryz.ntmps20
 go_wp2_with (go_at_call 41;refine hC.mono ?_;rintro r W1 ⟨rfl,h1⟩;have H1:=ah h1;clear h1)
 go_ret
 exact ⟨rfl,H1.out⟩
end
end Go.Proofs.YtnegekppaoedgaaGreatDoor
namespace Go.Proofs.YtnegekppaoedgaaGreatDoor
open Go.RowKit Go.Shelf
theorem adL {b:Nat} {w w':World} (h:Inv w) (ho:Ob b w w') (hb:¬Tab b):Inv w':=fun q hq=> by
 obtain ⟨o,h1,h2⟩:=h q hq
 refine ⟨o,(ho.block _ (Array.getElem?_eq_some_iff.1 h1).1 fun e=> hb ?_).trans h1,h2⟩
 rw [←e]
 exact ⟨q,hq,rfl⟩
theorem lg (n:Int) (w:World) (h0: -9223372036854775808≤n) (h1:n≤9223372036854775807) (hI:Inv w):Calls Tryz.prog 40 #[.int .i64 n] w fun e w'=> e= .returned (.string ⟨(Lib.itoa n).toArray⟩)∧Below w.heap.size w w':=by
 refine (show Calls Tryz.prog 40 #[.int .i64 n] w _ from Any.strconv_Itoa Tryz.laysItoa n h0 h1 w (Vr hI).1).mono ?_
 rintro e w' ⟨rfl,k,os,rfl⟩
 refine ⟨rfl,⟨rfl,rfl,rfl,?_,fun b hb=> ?_⟩⟩
 ·show w.heap.size≤((w.drewN k).heap ++ os).size
  rw [Array.size_append]
  exact Nat.le_add_right _ _
 ·show ((w.drewN k).heap ++ os)[b]? =w.heap[b]?
  rw [Array.getElem?_append_left (xs:=(w.drewN k).heap) hb]
  rfl
theorem Gz {f:Nat} {args:List AV} {s:ByteArray} (hc:∀(args:Array Value) (w:World),(callFunc f args).run Tryz.prog w= .ok (.enter f args) w)
  (h:∀(w:World) (A:Nat→Prop) (vals:Array Value),Inv w→(∀b,A b→b < w.heap.size)→bT (G6 A w) args vals.toList→Calls Tryz.prog f vals w fun e w'=> e= .returned (.string s)∧Below w.heap.size w w'):Fn False Tryz.prog f args (.d (.v (.string s))):=by
 refine ⟨hc,fun w A vals hI hA hr=> (h w A vals hI hA hr).mono ?_⟩
 rintro e w' ⟨rfl,hb⟩
 exact ⟨_,A,[none],rfl,⟨hb,fun h=> h.elim⟩,fun b hab=> ⟨Nat.lt_of_lt_of_le (hA b hab) hb.size,.inl hab⟩,⟨none,rfl,.v _ rfl,rfl⟩,by simp [Apart],fun b hb=> by simp at hb⟩
theorem NG {A:Nat→Prop} {w:World} {d:D} {vals:Array Value} (hr:bT (G6 A w) [.d d] vals.toList):∃v,vals= #[v]∧aV A w d v:=by
 obtain ⟨v,vs',hv,hx,hnil⟩:=hr.cons_inv
 have:=hnil.bg
 subst this
 refine ⟨v,by apply Array.ext';simpa using hv,?_⟩
 cases hx with
 | d hx=> exact hx
theorem adM {A:Nat→Prop} {w:World} {x:Value} {vals:Array Value} (hr:bT (G6 A w) [.d (.v x)] vals.toList):vals= #[x]:=by
 obtain ⟨v,rfl,hx⟩:=NG hr
 rw [fG hx]
theorem U7 (s:ByteArray):(⟨s.toList.toArray⟩:ByteArray)=s:=by
 obtain ⟨⟨l⟩⟩:=s
 rw [ByteArray.toList_mk]
def pK (n_:Int):Option ByteArray:=(uZ (decide (-9223372036854775808≤n_) && decide (n_≤9223372036854775807))).bind fun _=> some ⟨(aA n_).toArray⟩
def sF (n_:Int):Option ByteArray:=(uZ (decide (0≤n_) && decide (n_≤9223372036854775807))).bind fun _=> some ⟨(aA n_).toArray⟩
def uf (s_:ByteArray):Option ByteArray:=(uZ (decide (s_.toList.length≤1000000))).bind fun _=> some ⟨(wText s_.toList).toArray⟩
def ug (l_:List Int):Option ByteArray:=(uZ (decide (∀n∈l_,-9223372036854775808≤n∧n≤9223372036854775807) && decide (l_.length≤1000000))).bind fun _=> some ⟨(lH l_).toArray⟩
def bJ (l_:List Int):Option ByteArray:=(uZ (decide (∀n∈l_,0≤n∧n≤9223372036854775807) && (decide (l_≠ []) && decide (l_.length≤1000000)))).bind fun _=> some ⟨(l_.flatMap aA).toArray⟩
theorem sG {n_:Int} {r:ByteArray} (h:pK n_=some r):Fn False Tryz.prog 18 [VI n_] (VS r):=by
 obtain ⟨hc,h⟩:=IZ h
 injection h with h
 subst h
 simp only [Bool.and_eq_true,decide_eq_true_eq] at hc
 refine Gz Tryz.call18 fun w A vals hI hA hr=> ?_
 rw [adM hr]
 exact zo lg hc.1 hc.2 hI
theorem zW {n_:Int} {r:ByteArray} (h:sF n_=some r):Fn False Tryz.prog 19 [VI n_] (VS r):=by
 obtain ⟨hc,h⟩:=IZ h
 injection h with h
 subst h
 simp only [Bool.and_eq_true,decide_eq_true_eq] at hc
 refine Gz Tryz.call19 fun w A vals hI hA hr=> ?_
 rw [adM hr]
 exact JV lg hc.1 hc.2 hI
theorem NH {s_:ByteArray} {r:ByteArray} (h:uf s_=some r):Fn False Tryz.prog 21 [VS s_] (VS r):=by
 obtain ⟨hc,h⟩:=IZ h
 injection h with h
 subst h
 simp only [decide_eq_true_eq] at hc
 refine Gz Tryz.call21 fun w A vals hI hA hr=> ?_
 rw [adM hr]
 have:=U4 lg (l:=s_.toList) (w:=w) hc hI
 rw [U7] at this
 exact this
theorem NI {l_:List Int} {r:ByteArray} (h:ug l_=some r):Fn False Tryz.prog 20 [VF (List.map (encI .i64) l_)] (VS r):=by
 obtain ⟨hc,h⟩:=IZ h
 injection h with h
 subst h
 simp only [Bool.and_eq_true,decide_eq_true_eq] at hc
 refine Gz Tryz.call20 fun w A vals hI hA hr=> ?_
 obtain ⟨v,rfl,hx⟩:=NG hr
 exact Rh lg hx hA hI (fun _ _ h hb=> mP h hb) hc.1 hc.2
theorem dU {l_:List Int} {r:ByteArray} (h:bJ l_=some r):Fn False Tryz.prog 17 [VF (List.map (encI .i64) l_)] (VS r):=by
 obtain ⟨hc,h⟩:=IZ h
 injection h with h
 subst h
 simp only [Bool.and_eq_true,decide_eq_true_eq] at hc
 refine Gz Tryz.call17 fun w A vals hI hA hr=> ?_
 obtain ⟨v,rfl,hx⟩:=NG hr
 exact U5 lg hx hA hI (fun _ _ h hb=> mP h hb) hc.1 hc.2.1 hc.2.2
end Go.Proofs.YtnegekppaoedgaaGreatDoor
end

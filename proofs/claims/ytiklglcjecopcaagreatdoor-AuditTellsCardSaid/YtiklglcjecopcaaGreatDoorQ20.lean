/-
  DERIVED: THE SHELF's CONTRACTS AT THIS DUMP, IN PLAIN WORDS (tools/lay-plain.mjs out of 'YtiklglcjecopcaaGreatDoorShelfCp.lean', which tools/lay-shelf.mjs wrote): THE SAME DECLARATIONS UNDER THE SAME NAMES: 'import', 'namespace', 'open', 'def', 'theorem' AND NOTHING ELSE: no command of the shelf's: FOR A HAND-IN. Each laying: the table of numbers ('.._ren') and one theorem, a field a fact of the dump's own or the kernel's comparison; each contract: ONE APPLICATION.
  Maps of the call's own as tables and as sets: what a lookup gives, what a store, a copy do. The literal of a key stands for the key.
  Loops over the elements of a list, as recursion over the list; sums that do not overflow. Over any program.
  Layer 49, plain law: what was told of items, and whether it was told once.
  Layer 49, plain law: what an event knows, as the reference finds it.
  Layer 49, plain law: whether a network was given an event before something that it knows, as the reference finds it.
  Regions that draw their order, taken in batches: what only reads under a condition S, or is not wanted, is taken first, a whole list at a time; then the one operation that may come up. Over any program.
  Laws of append of zeros, copy and clear for rows whose elements have several cells; over any program.
-/
import Derived.Shelf.SlGeneric
import Derived.Shelf.SlLaysX
import Derived.Ground.SlmpProg
import Derived.Test.YtiklglcjecopcaaGreatDoorProg
import Derived.Test.YtiklglcjecopcaaGreatDoorKE
import Derived.Shelf.SlMaps.Copy
import Derived.Maps.RangeWalk
import Derived.Test.YtiklglcjecopcaaGreatDoorQ16
import Derived.IntWalk
import Derived.Test.YtiklglcjecopcaaGreatDoorQ19
import Derived.OrdersHeld
import Derived.Deep.RegionHeld3
import Derived.WalkKit
import Derived.Test.YtiklglcjecopcaaGreatDoorQ01
import Derived.Laws.CopyRow
import Derived.Laws.CopyOwn
import Derived.Lib.Overlaps
namespace Go.Proofs
open Go.Shelf
def Tryz.copy72_ren:Go.Shelf.Ren:=⟨fun | 5=> 72 | n=> n,fun | 23=> 94 | 24=> 94 | 26=> 3 | 27=> 4 | 0=> 0 | 4=> 4 | n=> n,fun | n=> n⟩
theorem Tryz.copy72:Go.Proofs.SlLaysX.n5 Tryz.prog Tryz.copy72_ren:={
 mixed:=by kernel_rfl
 f5:=⟨Tryz.f72.name,by decide,Tryz.func72.trans (congrArg some (by kernel_rfl))⟩
 t0:=Tryz.underlying0
 a0:=Tryz.isAgg0
 z0:=Tryz.sizeOf0
 v0:=Tryz.zeroValue0
 t4:=Tryz.underlying4
 a4:=Tryz.isAgg4
 z4:=Tryz.sizeOf4
 v4:=Tryz.zeroValue4
 t23:=Tryz.underlying94
 a23:=Tryz.isAgg94
 z23:=Tryz.sizeOf94
 v23:=Tryz.zeroValue94
 t24:=Tryz.underlying94
 a24:=Tryz.isAgg94
 z24:=Tryz.sizeOf94
 v24:=Tryz.zeroValue94
 a26:=Tryz.isAgg3
 z26:=Tryz.sizeOf3
 a27:=Tryz.isAgg4
 z27:=Tryz.sizeOf4}
end Go.Proofs
namespace Go.Proofs.YtiklglcjecopcaaGreatDoor
open Go.RowKit Go.Maps Go.Shelf Go.WideShapes
abbrev DU:=DataW Unit
structure KeyOk (kt:TypeId) {α:Type} (key:α→Value) (kl:α→Lit) (ok:α→Prop):Prop where
 keyed:Keyed Tryz.prog kt
 at_:∀a,ok a→keyOf Tryz.prog kt (key a)=some (kl a)
 inj:∀a b,ok a→ok b→kl a=kl b→a=b
def inI (a:Int):Prop:=(Lit.int .i64 a).wf=true
theorem keyInt:KeyOk 3 (Value.int .i64) (Lit.int .i64) inI:=⟨int_keyed Tryz.underlying3,fun _ h=> keyOf_int_mk Tryz.underlying3 h,fun a b _ _ h=> by injection h⟩
theorem keyAt:KeyOk 91 pairV klit inR:=⟨keyed91,fun _ h=> key_pair91 h,fun _ _ ha hb h=> klit_inj ha hb h⟩
theorem inI_nat {k:Nat} (h:k≤1000000):inI (k:Int):=by
 have h1:IntKind.i64.min≤(k:Int):=by show (-9223372036854775808:Int)≤k;omega
 have h2:(k:Int)≤IntKind.i64.max:=by show (k:Int)≤9223372036854775807;omega
 simp [inI,Lit.wf,h1]
 exact h2
def TabAt (kt:TypeId) {α:Type} (kl:α→Lit) (ok:α→Prop) (W:World) (m n:Nat) (f:α→Option Int):Prop:=
 ∃D:DU,W.ownsMap Tryz.prog kt (plainElem Tryz.prog 3) m n D∧∀a,ok a→has D (kl a)=(f a).isSome∧∀v,f a=some v→∀z,D.atKey (kl a) z= .lit (.int .i64 v)
section
variable {kt t : TypeId} {α : Type} {key : α → Value} {kl : α → Lit} {ok : α → Prop} {W : World} {m n : Nat} {f : α → Option Int}
theorem TabAt.new (W:World):TabAt kt kl ok (W.alloc (.map #[] 0)) W.heap.size 0 (fun _=> none):=⟨.map [],World.ownsMap_made _ _ _ _,fun a _=> ⟨rfl,fun v h=> by cases h⟩⟩
theorem TabAt.of_block {W':World} (h:TabAt kt kl ok W m n f) (hb:W'.heap[m]? =W.heap[m]?):TabAt kt kl ok W' m n f:=by
 obtain ⟨D,⟨es,clock,h1,h3⟩,h2⟩:=h
 exact ⟨D,⟨es,clock,hb.trans h1,h3⟩,h2⟩
set_option maxRecDepth 100000 in
theorem TabAt.look (K:KeyOk kt key kl ok) (ht:Tryz.prog.underlying t=some (.map kt 3)) (h:TabAt kt kl ok W m n f) {a:α} (ha:ok a):
  (Instr.lookup t (.map (some m)) (key a) true).run Tryz.prog W= .ok (.tuple #[.int .i64 ((f a).getD 0),.bool (f a).isSome]) W:=by
 obtain ⟨D,h1,h2⟩:=h
 have hz:(zeroValue 3).run Tryz.prog W= .ok (.int .i64 0) W:=by rw [Tryz.zeroValue3]
 obtain ⟨v,ps,hrun,hv⟩:=h1.look_ok K.keyed ht hz (zd:= .lit (.int .i64 0)) (zp:= []) (plainElem_int Tryz.underlying3 (by decide)) (K.at_ a ha)
 obtain ⟨c,rfl,hc,_⟩:=plainElem_int_inv Tryz.underlying3 hv
 have hc:D.atKey (kl a) (.lit (.int .i64 0))= .lit (.int .i64 c):=congrArg Prod.fst hc
 obtain ⟨e1,e2⟩:=h2 a ha
 rw [hrun,e1]
 congr 3
 cases hf:f a with
 | none=>
  rw [hf] at e1
  rw [atKey_of_not_has e1] at hc
  injection hc with hc
  injection hc with _ hc
  rw [←hc]
  rfl
 | some x=>
  rw [e2 x hf] at hc
  injection hc with hc
  injection hc with _ hc
  rw [←hc]
  rfl
theorem isKeyLit (K:KeyOk kt key kl ok) {a:α} (ha:ok a):WideAt.IsKeyLit (kl a):=K.keyed.key (K.at_ a ha)
set_option maxRecDepth 100000 in
theorem TabAt.put [DecidableEq α] (K:KeyOk kt key kl ok) (ht:Tryz.prog.underlying t=some (.map kt 3)) (h:TabAt kt kl ok W m n f) (hn:n < maxLen) {a:α} (ha:ok a) {v:Int} (hv:inI v):
  ∃W',(Instr.mapUpdate t (.map (some m)) (key a) (.int .i64 v)).run Tryz.prog W= .ok () W'∧TabAt kt kl ok W' m (n + 1) (fun b=> if b=a then some v else f b)∧W.grownBy W' (some m):=by
 obtain ⟨D,h1,h2⟩:=h
 obtain ⟨W',hrun,h3,hg⟩:=h1.update K.keyed ht hn (K.at_ a ha) (plainElem_int Tryz.underlying3 hv)
 refine ⟨W',hrun,⟨_,h3,fun b hb=> ?_⟩,hg⟩
 by_cases hba:b=a
 ·subst hba
  dsimp only
  rw [if_pos rfl,has_put_same h1.isMap (isKeyLit K ha)]
  refine ⟨rfl,fun x hx z=> ?_⟩
  injection hx with hx
  rw [atKey_put_same h1.isMap (isKeyLit K ha),hx]
 ·have hne:kl b≠kl a:=fun e=> hba (K.inj b a hb ha e)
  dsimp only
  rw [if_neg hba,has_put_other hne]
  refine ⟨(h2 b hb).1,fun x hx z=> ?_⟩
  rw [atKey_put_other hne]
  exact (h2 b hb).2 x hx z
end
def SetAt (W:World) (m n:Nat) (S:Int→Prop):Prop:=∃D:DU,W.ownsMap Tryz.prog 3 (plainElem Tryz.prog 4) m n D∧∀x,inI x→(has D (.int .i64 x)=true↔S x)
section
variable {W : World} {m n : Nat} {S : Int → Prop}
theorem SetAt.new (W:World):SetAt (W.alloc (.map #[] 0)) W.heap.size 0 (fun _=> False):=⟨.map [],World.ownsMap_made _ _ _ _,fun x _=> ⟨fun (h:false=true)=> (by cases h),fun h=> h.elim⟩⟩
theorem SetAt.of_block {W':World} (h:SetAt W m n S) (hb:W'.heap[m]? =W.heap[m]?):SetAt W' m n S:=by
 obtain ⟨D,⟨es,clock,h1,h3⟩,h2⟩:=h
 exact ⟨D,⟨es,clock,hb.trans h1,h3⟩,h2⟩
theorem SetAt.congr {T:Int→Prop} (h:SetAt W m n S) (hST:∀x,inI x→(S x↔T x)):SetAt W m n T:=by
 obtain ⟨D,h1,h2⟩:=h
 exact ⟨D,h1,fun x hx=> (h2 x hx).trans (hST x hx)⟩
theorem SetAt.put (h:SetAt W m n S) (hn:n < maxLen) {a:Int} (ha:inI a):
  ∃W',(Instr.mapUpdate 94 (.map (some m)) (.int .i64 a) (.bool true)).run Tryz.prog W= .ok () W'∧SetAt W' m (n + 1) (fun x=> S x∨x=a)∧W.grownBy W' (some m):=by
 obtain ⟨D,h1,h2⟩:=h
 obtain ⟨W',hrun,h3,hg⟩:=h1.update keyInt.keyed Tryz.underlying94 hn (keyInt.at_ a ha) (plainElem_bool Tryz.underlying4 true)
 refine ⟨W',hrun,⟨_,h3,fun x hx=> ?_⟩,hg⟩
 by_cases hxa:x=a
 ·subst hxa
  rw [has_put_same h1.isMap (isKeyLit keyInt ha)]
  exact ⟨fun _=> Or.inr rfl,fun _=> rfl⟩
 ·have hne:Lit.int .i64 x≠Lit.int .i64 a:=fun e=> hxa (by injection e)
  rw [has_put_other hne,h2 x hx]
  exact ⟨Or.inl,fun h=> h.resolve_right hxa⟩
theorem nodup_lt:∀(n:Nat) (l:List Nat),l.Nodup→(∀x∈l,x < n)→l.length≤n
 | 0,[],_,_=> Nat.le_refl _
 | 0,a::l,_,h=> absurd (h a (by simp)) (by omega)
 | n + 1,l,hd,h=> by
  by_cases hm:n∈l
  ·have h1:=nodup_lt n (l.erase n) (hd.erase n) (fun x hx=> by
    have h2:=h x (List.mem_of_mem_erase hx)
    have h3:x≠n:=fun e=> by
     subst e
     exact (List.Nodup.not_mem_erase hd) hx
    omega)
   rw [List.length_erase_of_mem hm] at h1
   omega
  ·have:=nodup_lt n l hd (fun x hx=> by
    have h2:=h x hx
    have h3:x≠n:=fun e=> hm (e ▸ hx)
    omega)
   omega
set_option maxRecDepth 100000 in
theorem SetAt.tight (h:SetAt W m n S) {k:Nat} (hS:∀x,S x→0≤x∧x < (k:Int)):SetAt W m k S:=by
 obtain ⟨D,h1,h2⟩:=h
 obtain ⟨es0,e0,hp,hk⟩:=h1.canonK keyInt.keyed
 have hsz:size D≤k:=by
  rw [e0]
  have hd:=apart_of_rising hp
  have key:∀p∈es0,∃j:Nat,p.1= .int .i64 j∧j < k:=fun p hpm=> by
   obtain ⟨v,hv⟩:=hk p hpm
   obtain ⟨x,_,hx,hw⟩:=keyOf_int_inv Tryz.underlying3 hv
   have hh:has D (.int .i64 x)=true:=by
    rw [e0,has_eq,List.any_eq_true]
    exact ⟨p,hpm,by rw [hx];exact WideAt.sameKey_self (isKeyLit keyInt hw)⟩
   obtain ⟨a1,a2⟩:=hS x ((h2 x hw).1 hh)
   exact ⟨x.toNat,by rw [hx,Int.toNat_of_nonneg a1],by omega⟩
  have hl:(es0.map fun p=> match p.1 with | .int _ x=> x.toNat | _=> 0).Nodup:=by
   refine List.pairwise_map.2 (hd.imp_of_mem fun {p q} hp hq hne=> ?_)
   obtain ⟨i,hi,_⟩:=key p hp
   obtain ⟨j,hj,_⟩:=key q hq
   rw [hi,hj]
   rw [hi,hj] at hne
   dsimp only
   rw [Int.toNat_natCast,Int.toNat_natCast]
   intro e
   exact hne (by rw [e])
  have:=nodup_lt k _ hl (fun x hx=> by
   obtain ⟨p,hpm,rfl⟩:=List.mem_map.1 hx
   obtain ⟨j,hj,hjk⟩:=key p hpm
   rw [hj]
   dsimp only
   rw [Int.toNat_natCast]
   exact hjk)
  rw [List.length_map] at this
  exact this
 refine ⟨D,?_,h2⟩
 obtain ⟨es,clock,hb,F,hs,hD⟩:=h1
 refine ⟨es,clock,hb,F,?_,hD⟩
 have:es.size=size D:=by
  rw [hD]
  show _=((es.toList.map _).foldr DataW.insert []).length
  rw [length_sorted]
  simp
 omega
theorem SetAt.copy {m' n':Nat} {T:Int→Prop} (hd:SetAt W m n S) (hs:SetAt W m' n' T) (hne:m≠m') (hr:n + n'≤maxLen):
  Calls Tryz.prog 72 #[.map (some m),.map (some m')] W fun e W'=> e= .returned (.tuple #[])∧SetAt W' m (n + n') (fun x=> S x∨T x)∧W.grownBy W' (some m):=by
 obtain ⟨Dd,d1,d2⟩:=hd
 obtain ⟨Ds,s1,s2⟩:=hs
 refine (AnyX.maps_Copy Tryz.copy72 keyInt.keyed (plainElem Tryz.prog 4) m m' n n' Dd Ds W d1 s1 hne (Nat.le_trans (Nat.add_le_add_left s1.size_le _) hr)).mono ?_
 rintro e W' ⟨he,h1,_,hg⟩
 refine ⟨he,⟨_,h1.mono (Nat.add_le_add_left s1.size_le _),fun x hx=> ?_⟩,hg⟩
 obtain ⟨es,rfl,_,hk⟩:=s1.canonK keyInt.keyed
 show _↔(S x∨T x)
 rw [←d2 x hx,←s2 x hx]
 show has (es.foldl (fun D p=> D.put p.1 p.2) Dd) _=true↔_
 rw [has_foldPut _ es Dd d1.isMap (fun p hp=> keyInt.keyed.one.key (hk p hp)),Bool.or_eq_true,has_eq]
end
end Go.Proofs.YtiklglcjecopcaaGreatDoor
namespace Go.Proofs.YtiklglcjecopcaaGreatDoor
open Go.RowKit
theorem getI_nat {A:Type} {l:List A} {i:Nat}:getI l (i:Int)=l[i]? :=by simp [getI]
theorem wrap64 {n:Int} (h1: -9223372036854775808≤n) (h2:n≤9223372036854775807):IntKind.i64.wrap n=n:=IntWalk.i64_in n (by omega)
theorem bind_some_of {A B:Type} {p:Option A} {k:A→Option B} {x:A} (h:p=some x):p.bind k=k x:=by rw [h];rfl
theorem getI_in {A:Type} {l:List A} (d:A) {i:Nat} (h:i < l.length):getI l (i:Int)=some (l.getD i d):=by
 rw [getI_nat,List.getElem?_eq_getElem h,List.getD_eq_getElem?_getD,List.getElem?_eq_getElem h]
 rfl
theorem loopF_inv {S B:Type} {body:S→Option (S⊕B)} (n:Nat) (J:Nat→S→Prop) (R:Option B→Prop)
  (hstep:∀i s,i < n→J i s→(∃s',body s=some (.inl s')∧J (i + 1) s')∨∃b,body s=some (.inr b)∧R (some b))
  (hend:∀s,J n s→∃b,body s=some (.inr b)∧R (some b)) {s0:S} (h0:J 0 s0):R (loopF body s0):=by
 have:∀k i s,n - i=k→i≤n→J i s→R (loopF body s):=by
  intro k
  induction k with
  | zero=>
   intro i s hk hi hJ
   have:i=n:=by omega
   subst this
   obtain ⟨b,h1,h2⟩:=hend s hJ
   rw [loopF_stop h1]
   exact h2
  | succ k ih=>
   intro i s hk hi hJ
   rcases hstep i s (by omega) hJ with ⟨s',h1,h2⟩ | ⟨b,h1,h2⟩
   ·rw [loopF_next h1]
    exact ih (i + 1) s' (by omega) (by omega) h2
   ·rw [loopF_stop h1]
    exact h2
 exact this (n - 0) 0 s0 rfl (Nat.zero_le _) h0
theorem take_succ_getD {A:Type} (l:List A) (d:A) {i:Nat} (h:i < l.length):l.take (i + 1)=l.take i ++ [l.getD i d]:=by
 rw [List.take_add_one,List.getElem?_eq_getElem h,List.getD_eq_getElem?_getD,List.getElem?_eq_getElem h]
 rfl
instance:Inhabited api_Out:=⟨⟨0,0,0,⟨0,0,0,0,0,0,0,0,0,.empty,[]⟩⟩⟩
instance:Inhabited api_Event:=⟨⟨0,0,[],0,0,0,0,0,0,.empty,[],0⟩⟩
theorem chk_true {b:Bool} (h:b=true) {B:Type} {k:Unit→Option B}:(chkO b).bind k=k ():=by rw [h];rfl
def isItem (x:api_Out):Bool:=x.Kind==(0:Int)
def itemsL (outs:List (List api_Out)):List api_Out:=outs.flatten.filter isItem
theorem itemsL_le (outs:List (List api_Out)) (i:Nat):(itemsL (outs.take i)).length≤outs.flatten.length:=by
 refine Nat.le_trans (List.length_filter_le _ _) ?_
 have:outs.flatten=(outs.take i).flatten ++ (outs.drop i).flatten:=by rw [←List.flatten_append,List.take_append_drop]
 rw [this,List.length_append]
 omega
theorem Items_L1_eq (outs:List (List api_Out)) (i:Nat) (hi:i < outs.length) (a acc:List api_Out) (hl:acc.length + (outs.getD i []).length≤1000000):
  loopF (ref49_Items_L1 outs ((i:Int),a)) ((0:Int),acc)=some (.inl (acc ++ (outs.getD i []).filter isItem)):=by
 generalize hL:outs.getD i []=l at *
 refine loopF_inv (body:=ref49_Items_L1 outs ((i:Int),a)) l.length (fun k s=> s=((k:Int),acc ++ (l.take k).filter isItem)) (fun r=> r=some (.inl (acc ++ l.filter isItem))) ?_ ?_ (by simp)
 ·rintro k s hk rfl
  left
  refine ⟨_,?_,rfl⟩
  unfold ref49_Items_L1
  dsimp only
  rw [bind_some_of (getI_in [] hi),hL]
  have hlt:decide ((k:Int) < (l.length:Int))=true:=by simp;omega
  rw [hlt,cond_true,bind_some_of (getI_in default hk),take_succ_getD l default hk,List.filter_append]
  have hw:IntKind.i64.wrap ((k:Int) + 1)=((k + 1:Nat):Int):=by
   rw [wrap64 (by omega) (by omega)]
   rfl
  rw [hw]
  generalize l.getD k default=x
  have hf:((l.take k).filter isItem).length≤k:=Nat.le_trans (List.length_filter_le _ _) (by simp;omega)
  cases hx:(x.Kind==(0:Int))
  ·have: [x].filter isItem= []:=by simp [isItem,hx]
   rw [this,List.append_nil]
   rfl
  ·have: [x].filter isItem= [x]:=by simp [isItem,hx]
   rw [this,cond_true,chk_true (by simp;omega),List.append_assoc]
 ·rintro s rfl
  refine ⟨_,?_,rfl⟩
  unfold ref49_Items_L1
  dsimp only
  rw [bind_some_of (getI_in [] hi),hL]
  simp
theorem Items_eq (outs:List (List api_Out)) (hn:outs.length≤20) (hl:∀l∈outs,l.length≤12):ref49_Items outs=some (itemsL outs):=by
 unfold ref49_Items
 have hfl:∀i,((outs.take i).flatten).length≤12 * i:=by
  intro i
  induction i with
  | zero=> simp
  | succ i ih=>
   by_cases hi:i < outs.length
   ·rw [take_succ_getD outs [] hi,List.flatten_append,List.length_append]
    have:(outs.getD i []).length≤12:=by
     rw [List.getD_eq_getElem?_getD,List.getElem?_eq_getElem hi]
     exact hl _ (List.getElem_mem hi)
    simp only [List.flatten_cons,List.flatten_nil,List.append_nil]
    omega
   ·rw [List.take_of_length_le (by omega)]
    rw [List.take_of_length_le (by omega)] at ih
    omega
 have key:=loopF_inv (body:=ref49_Items_L2 outs) outs.length (fun i s=> s=((i:Int),itemsL (outs.take i))) (fun r=> r=some (.inl (itemsL outs)))
  (by
   rintro i s hi rfl
   left
   have hlt:decide ((i:Int) < (outs.length:Int))=true:=by simp;omega
   have hlen:(outs.getD i []).length≤12:=by
    rw [List.getD_eq_getElem?_getD,List.getElem?_eq_getElem hi]
    exact hl _ (List.getElem_mem hi)
   refine ⟨(((i + 1:Nat):Int),itemsL (outs.take (i + 1))),?_,rfl⟩
   unfold ref49_Items_L2
   dsimp only
   have h1:(itemsL (outs.take i)).length≤240:=by
    have:=hfl i
    have:=List.length_filter_le isItem (outs.take i).flatten
    unfold itemsL
    omega
   rw [hlt,cond_true,Items_L1_eq outs i hi _ _ (by omega)]
   show some (Sum.inl (IntKind.i64.wrap ((i:Int) + 1),_))=_
   rw [wrap64 (by omega) (by omega)]
   unfold itemsL
   rw [take_succ_getD outs [] hi,List.flatten_append,List.filter_append]
   simp)
  (by
   rintro s rfl
   refine ⟨_,?_,rfl⟩
   unfold ref49_Items_L2
   simp [itemsL]
   )
  (s0:=((0:Int),([]:List api_Out))) (by simp [itemsL])
 rw [key]
 rfl
def sameGiven (x y:api_Out):Bool:=x.Net==y.Net && (x.Item.Event==y.Item.Event && x.Item.Part==y.Item.Part)
def onceR (l:List api_Out):Bool:=(List.range l.length).all fun i=> !(l.take i).any (sameGiven (l.getD i default))
theorem Once_L1_eq (l:List api_Out) (hn:l.length≤240) (i:Nat) (hi:i < l.length):
  loopF (ref49_Once_L1 (i:Int) l) (0:Int)=some (bif (l.take i).any (sameGiven (l.getD i default)) then .inr (.inr (.inr false)) else .inl ()):=by
 refine loopF_inv (body:=ref49_Once_L1 (i:Int) l) i (fun k s=> s=(k:Int)∧(l.take k).any (sameGiven (l.getD i default))=false) (fun r=> r=some (bif (l.take i).any (sameGiven (l.getD i default)) then .inr (.inr (.inr false)) else .inl ())) ?_ ?_ ⟨rfl,by simp⟩
 ·rintro k s hk ⟨rfl,hno⟩
  have hk':k < l.length:=by omega
  have h1:decide ((k:Int) < (i:Int))=true:=by simp;omega
  have h2:(decide (0≤(i:Int)) && decide ((i:Int) < ((l.length:Nat):Int)))=true:=by simp;omega
  have h3:(decide (0≤(k:Int)) && decide ((k:Int) < ((l.length:Nat):Int)))=true:=by simp;omega
  have hw:IntKind.i64.wrap ((k:Int) + 1)=((k + 1:Nat):Int):=by
   rw [wrap64 (by omega) (by omega)]
   rfl
  have hb:ref49_Once_L1 (i:Int) l (k:Int)=some (bif sameGiven (l.getD i default) (l.getD k default) then .inr (.inr (.inr (.inr false))) else .inl ((k + 1:Nat):Int)):=by
   unfold ref49_Once_L1
   rw [h1,cond_true,chk_true h2,bind_some_of (getI_in default hi),chk_true h3,bind_some_of (getI_in default hk'),hw]
   unfold sameGiven
   generalize l.getD i default=x
   generalize l.getD k default=y
   cases (x.Net==y.Net) <;> cases (x.Item.Event==y.Item.Event) <;> cases (x.Item.Part==y.Item.Part) <;> rfl
  rw [hb]
  cases hs:sameGiven (l.getD i default) (l.getD k default)
  ·left
   refine ⟨_,rfl,rfl,?_⟩
   rw [take_succ_getD l default hk',List.any_append,hno,List.any_cons,hs]
   rfl
  ·right
   refine ⟨_,rfl,?_⟩
   have:(l.take i).any (sameGiven (l.getD i default))=true:=by
    rw [List.any_eq_true]
    refine ⟨l.getD k default,?_,hs⟩
    rw [List.getD_eq_getElem?_getD,List.getElem?_eq_getElem hk']
    exact List.mem_iff_getElem.2 ⟨k,by simp;omega,by simp⟩
   rw [this]
   rfl
 ·rintro s ⟨rfl,hno⟩
  refine ⟨.inl (),?_,by rw [hno];rfl⟩
  unfold ref49_Once_L1
  simp
theorem Once_eq (outs:List (List api_Out)) (hn:outs.length≤20) (hl:∀l∈outs,l.length≤12) (h240:(itemsL outs).length≤240):ref49_Once outs=some (onceR (itemsL outs)):=by
 unfold ref49_Once
 rw [Items_eq outs hn hl,bind_some_of rfl]
 generalize itemsL outs=l at *
 have key:=loopF_inv (body:=ref49_Once_L2 l) l.length (fun i s=> s=(i:Int)∧∀k,k < i→(l.take k).any (sameGiven (l.getD k default))=false) (fun r=> r=some (bif onceR l then .inl () else .inr false))
  (by
   rintro i s hi ⟨rfl,hno⟩
   have h1:decide ((i:Int) < ((l.length:Nat):Int))=true:=by simp;omega
   have hb:ref49_Once_L2 l (i:Int)=some (bif (l.take i).any (sameGiven (l.getD i default)) then .inr (.inr false) else .inl ((i + 1:Nat):Int)):=by
    unfold ref49_Once_L2
    rw [h1,cond_true,Once_L1_eq l h240 i hi]
    cases (l.take i).any (sameGiven (l.getD i default))
    ·show some (Sum.inl (IntKind.i64.wrap ((i:Int) + 1)))=_
     rw [wrap64 (by omega) (by omega)]
     rfl
    ·rfl
   rw [hb]
   cases hs:(l.take i).any (sameGiven (l.getD i default))
   ·left
    refine ⟨_,rfl,rfl,fun k hk=> ?_⟩
    by_cases hki:k=i
    ·rw [hki];exact hs
    ·exact hno k (by omega)
   ·right
    refine ⟨_,rfl,?_⟩
    have:onceR l=false:=by
     unfold onceR
     rw [List.all_eq_false]
     exact ⟨i,by simp;omega,by rw [hs];simp⟩
    rw [this]
    rfl)
  (by
   rintro s ⟨rfl,hno⟩
   have:onceR l=true:=by
    unfold onceR
    rw [List.all_eq_true]
    intro k hk
    rw [hno k (by simpa using hk)]
    rfl
   rw [this]
   refine ⟨_,?_,rfl⟩
   unfold ref49_Once_L2
   simp)
  (s0:=(0:Int)) ⟨rfl,fun k hk=> absurd hk (by omega)⟩
 rw [key]
 cases onceR l <;> rfl
def markS (l:List Bool) (id:Int) (n:Nat):List Bool:=if 0≤id∧id < (n:Int) then l.set id.toNat true else l
theorem markS_len (l:List Bool) (id:Int) (n:Nat):(markS l id n).length=l.length:=by
 unfold markS
 split <;> simp
theorem markS_get (l:List Bool) (id:Int) (n:Nat) (hn:n≤l.length) (j:Nat):(markS l id n).getD j false=true↔l.getD j false=true∨((j:Int)=id∧j < n):=by
 unfold markS
 split
 ·rename_i h
  by_cases hj:j=id.toNat
  ·subst hj
   have h1:id.toNat < l.length:=by omega
   have h2:((id.toNat:Nat):Int)=id:=Int.toNat_of_nonneg h.1
   simp [List.getD_eq_getElem?_getD,h1,h2]
   right
   omega
  ·have h2:¬(j:Int)=id:=by omega
   simp [List.getD_eq_getElem?_getD,List.getElem?_set_ne (Ne.symm hj),h2]
 ·rename_i h
  constructor
  ·exact Or.inl
  ·rintro (h1 | ⟨h1,h2⟩)
   ·exact h1
   ·exact absurd ⟨by omega,by omega⟩ h
theorem mark_eq (l:List Bool) (id:Int) (n:Nat) (hn:n≤l.length):ref49_mark l id (n:Int)=some (markS l id n):=by
 unfold ref49_mark markS
 by_cases h1:0≤id
 ·rw [decide_eq_true h1,cond_true]
  by_cases h2:id < (n:Int)
  ·rw [decide_eq_true h2,cond_true,chk_true (by simp;omega)]
   obtain ⟨i,rfl⟩:∃i:Nat,id=i:=⟨id.toNat,by omega⟩
   rw [bind_some_of (getI_in false (by omega)),if_pos ⟨h1,h2⟩]
  ·rw [decide_eq_false h2,cond_false,if_neg (fun h=> h2 h.2)]
 ·rw [decide_eq_false h1,cond_false,if_neg (fun h=> h1 h.1)]
def markL (n:Nat) (l:List Bool) (xs:List Int):List Bool:=xs.foldl (fun l x=> markS l x n) l
theorem markL_len (n:Nat):∀(xs:List Int) (l:List Bool),(markL n l xs).length=l.length
 | [],_=> rfl
 | x::xs,l=> by
  show (markL n (markS l x n) xs).length=_
  rw [markL_len n xs,markS_len]
theorem markL_get (n:Nat):∀(xs:List Int) (l:List Bool),n≤l.length→∀j,(markL n l xs).getD j false=true↔l.getD j false=true∨((j:Int)∈xs∧j < n)
 | [],l,_,j=> by simp [markL]
 | x::xs,l,hn,j=> by
  show (markL n (markS l x n) xs).getD j false=true↔_
  rw [markL_get n xs _ (by rw [markS_len];exact hn) j,markS_get l x n hn j]
  simp only [List.mem_cons]
  constructor
  ·rintro ((h | ⟨h,h'⟩) | ⟨h,h'⟩)
   ·exact Or.inl h
   ·exact Or.inr ⟨Or.inl h,h'⟩
   ·exact Or.inr ⟨Or.inr h,h'⟩
  ·rintro (h | ⟨h | h,h'⟩)
   ·exact Or.inl (Or.inl h)
   ·exact Or.inl (Or.inr ⟨h,h'⟩)
   ·exact Or.inr ⟨h,h'⟩
theorem Knows_L1_eq (e:api_Event) (hc:e.Causes.length≤1000000) (n:Nat) (a l:List Bool) (hl:n≤l.length):loopF (ref49_Knows_L1 e ((n:Int),a)) ((0:Int),l)=some (.inl (markL n l e.Causes)):=by
 refine loopF_inv (body:=ref49_Knows_L1 e ((n:Int),a)) e.Causes.length (fun k s=> s=((k:Int),markL n l (e.Causes.take k))) (fun r=> r=some (.inl (markL n l e.Causes))) ?_ ?_ rfl
 ·rintro k s hk rfl
  left
  refine ⟨_,?_,rfl⟩
  unfold ref49_Knows_L1
  dsimp only
  rw [decide_eq_true (by omega),cond_true,bind_some_of (getI_in (0:Int) hk),bind_some_of (mark_eq _ _ n (by rw [markL_len];exact hl)),wrap64 (by omega) (by omega),take_succ_getD e.Causes (0:Int) hk]
  unfold markL
  rw [List.foldl_append]
  rfl
 ·rintro s rfl
  refine ⟨_,?_,rfl⟩
  unfold ref49_Knows_L1
  simp
def lastOf (events:List api_Event) (who:Int):Nat→Int
 | 0=> -1
 | k + 1=> bif (events.getD k default).Author==who then (k:Int) else lastOf events who k
theorem Knows_L2_eq (events:List api_Event) (hn:events.length≤1000000) (e:api_Event) (n:Nat) (a:List Bool) (hl:n≤events.length):loopF (ref49_Knows_L2 ((n:Int),a) events e) ((-1:Int),(0:Int))=some (.inl (lastOf events e.Author n)):=by
 refine loopF_inv (body:=ref49_Knows_L2 ((n:Int),a) events e) n (fun k s=> s=(lastOf events e.Author k,(k:Int))) (fun r=> r=some (.inl (lastOf events e.Author n))) ?_ ?_ rfl
 ·rintro k s hk rfl
  left
  refine ⟨_,?_,rfl⟩
  unfold ref49_Knows_L2
  dsimp only
  rw [decide_eq_true (by omega),cond_true,bind_some_of (getI_in default (by omega)),wrap64 (by omega) (by omega)]
  show _=some (Sum.inl (bif (events.getD k default).Author==e.Author then (k:Int) else lastOf events e.Author k,((k + 1:Nat):Int)))
  cases ((events.getD k default).Author==e.Author) <;> rfl
 ·rintro s rfl
  refine ⟨_,?_,rfl⟩
  unfold ref49_Knows_L2
  simp
def namesOf (events:List api_Event) (i:Nat):List Int:=(events.getD i default).Causes ++ [(events.getD i default).Target,(events.getD i default).Quote,lastOf events (events.getD i default).Author i]
inductive Reach (events:List api_Event):Nat→Nat→Prop
 | self (i:Nat):Reach events i i
 | step {i k j:Nat} (h:Reach events i k) (hj:(j:Int)∈namesOf events k) (hlt:j < k):Reach events i j
theorem Knows_eq (events:List api_Event) (hn:events.length≤1000000) (hc:∀e∈events,e.Causes.length≤1000000) (i:Nat) (hi:i < events.length):
  ∃l,ref49_Knows events (i:Int)=some l∧l.length=events.length∧∀j,l.getD j false=true↔Reach events i j:=by
 have hcd:∀k,k < events.length→(events.getD k default).Causes.length≤1000000:=fun k hk=> by
  rw [List.getD_eq_getElem?_getD,List.getElem?_eq_getElem hk]
  exact hc _ (List.getElem_mem hk)
 unfold ref49_Knows
 rw [chk_true (by simp;omega),decide_eq_false (by omega),cond_false,decide_eq_false (by omega),cond_false,chk_true (by simp;omega)]
 have hr:(events.length:Int).toNat=events.length:=by omega
 rw [hr,bind_some_of (getI_in false (by simpa using hi))]
 let J:Nat→Int×List Bool→Prop:=fun t s=> s.1=(i:Int) - t∧s.2.length=events.length∧∀j,s.2.getD j false=true↔j=i∨∃m,i < m + t∧m≤i∧Reach events i m∧(j:Int)∈namesOf events m∧j < m
 have key:=loopF_inv (body:=ref49_Knows_L3 events) (i + 1) J (fun r=> ∃l,r=some (.inl l)∧l.length=events.length∧∀j,l.getD j false=true↔Reach events i j)
  (by
   rintro t ⟨p,l⟩ ht ⟨rfl,hl,hj⟩
   left
   obtain ⟨k,hk⟩:∃k:Nat,(i:Int) - t=k:=⟨i - t,by omega⟩
   have hki:k=i - t:=by omega
   have hklt:k < events.length:=by omega
   dsimp only at hl hj hk ⊢
   have hw:IntKind.i64.wrap (((k:Nat):Int) - 1)=(i:Int) - ((t + 1:Nat):Int):=by
    rw [wrap64 (by omega) (by omega)]
    omega
   have hreach:l.getD k false=true↔Reach events i k:=by
    rw [hj k]
    constructor
    ·rintro (rfl | ⟨m,_,_,h3,h4,h5⟩)
     ·exact .self _
     ·exact .step h3 h4 h5
    ·intro h
     cases h with
     | self=> exact Or.inl rfl
     | step h3 h4 h5=>
      rename_i m
      have hm:m≤i:=by
       clear h4 h5
       induction h3 with
       | self=> exact Nat.le_refl _
       | step _ _ hlt ih=> omega
      exact Or.inr ⟨m,by omega,hm,h3,h4,h5⟩
   cases hkb:l.getD k false
   ·refine ⟨((i:Int) - ((t + 1:Nat):Int),l),?_,rfl,hl,fun j=> ?_⟩
    ·unfold ref49_Knows_L3
     dsimp only
     rw [hk,decide_eq_true (by omega),cond_true,chk_true (by simp;omega),bind_some_of (getI_in false (by omega)),hkb]
     show some (Sum.inl (IntKind.i64.wrap ((k:Int) - 1),l))=_
     rw [hw]
    ·rw [hj j]
     constructor
     ·rintro (h | ⟨m,h1,h2⟩)
      ·exact Or.inl h
      ·exact Or.inr ⟨m,by omega,h2⟩
     ·rintro (h | ⟨m,h1,h2,h3,h4⟩)
      ·exact Or.inl h
      ·by_cases hmk:m=k
       ·subst hmk
        rw [←hreach,hkb] at h3
        cases h3
       ·exact Or.inr ⟨m,by omega,h2,h3,h4⟩
   ·let l1:=markS (markS (markS (markL k l (events.getD k default).Causes) (events.getD k default).Target k) (events.getD k default).Quote k) (lastOf events (events.getD k default).Author k) k
    have hl1:l1.length=events.length:=by simp only [l1,markS_len,markL_len,hl]
    have hget:∀j,l1.getD j false=true↔l.getD j false=true∨((j:Int)∈namesOf events k∧j < k):=by
     intro j
     simp only [l1]
     rw [markS_get _ _ _ (by simp only [markS_len,markL_len];omega),markS_get _ _ _ (by simp only [markS_len,markL_len];omega),markS_get _ _ _ (by simp only [markL_len];omega),markL_get _ _ _ (by omega)]
     unfold namesOf
     simp only [List.mem_append,List.mem_cons,List.not_mem_nil,or_false]
     constructor
     ·rintro ((((h | ⟨h,h'⟩) | ⟨h,h'⟩) | ⟨h,h'⟩) | ⟨h,h'⟩)
      ·exact Or.inl h
      ·exact Or.inr ⟨Or.inl h,h'⟩
      ·exact Or.inr ⟨Or.inr (Or.inl h),h'⟩
      ·exact Or.inr ⟨Or.inr (Or.inr (Or.inl h)),h'⟩
      ·exact Or.inr ⟨Or.inr (Or.inr (Or.inr h)),h'⟩
     ·rintro (h | ⟨h | h | h | h,h'⟩)
      ·exact Or.inl (Or.inl (Or.inl (Or.inl h)))
      ·exact Or.inl (Or.inl (Or.inl (Or.inr ⟨h,h'⟩)))
      ·exact Or.inl (Or.inl (Or.inr ⟨h,h'⟩))
      ·exact Or.inl (Or.inr ⟨h,h'⟩)
      ·exact Or.inr ⟨h,h'⟩
    refine ⟨((i:Int) - ((t + 1:Nat):Int),l1),?_,rfl,hl1,fun j=> ?_⟩
    ·unfold ref49_Knows_L3
     dsimp only
     rw [hk,decide_eq_true (by omega),cond_true,chk_true (by simp;omega),bind_some_of (getI_in false (by omega)),hkb]
     simp only [Bool.not_true,cond_false]
     rw [bind_some_of (getI_in default hklt),Knows_L1_eq _ (hcd k hklt) k l l (by omega)]
     dsimp only [seqF]
     rw [bind_some_of (mark_eq _ _ k (by simp only [markL_len];omega)),bind_some_of (mark_eq _ _ k (by simp only [markS_len,markL_len];omega)),Knows_L2_eq events hn _ k l (by omega)]
     dsimp only
     rw [bind_some_of (mark_eq _ _ k (by simp only [markS_len,markL_len];omega))]
     dsimp only
     rw [hw]
    ·rw [hget j,hj j]
     have hrk:=hreach.1 hkb
     constructor
     ·rintro ((h | ⟨m,h1,h2⟩) | ⟨h1,h2⟩)
      ·exact Or.inl h
      ·exact Or.inr ⟨m,by omega,h2⟩
      ·exact Or.inr ⟨k,by omega,by omega,hrk,h1,h2⟩
     ·rintro (h | ⟨m,h1,h2,h3,h4⟩)
      ·exact Or.inl (Or.inl h)
      ·by_cases hmk:m=k
       ·subst hmk
        exact Or.inr h4
       ·exact Or.inl (Or.inr ⟨m,by omega,h2,h3,h4⟩))
  (by
   rintro ⟨p,l⟩ ⟨rfl,hl,hj⟩
   refine ⟨.inl l,?_,l,rfl,hl,fun j=> ?_⟩
   ·unfold ref49_Knows_L3
    dsimp only
    rw [decide_eq_false (by omega),cond_false]
   ·dsimp only at hj
    rw [hj j]
    constructor
    ·rintro (rfl | ⟨m,_,_,h3,h4,h5⟩)
     ·exact .self _
     ·exact .step h3 h4 h5
    ·intro h
     cases h with
     | self=> exact Or.inl rfl
     | step h3 h4 h5=>
      rename_i m
      have hm:m≤i:=by
       clear h4 h5
       induction h3 with
       | self=> exact Nat.le_refl _
       | step _ _ hlt ih=> omega
      exact Or.inr ⟨m,by omega,hm,h3,h4,h5⟩)
  (s0:=((i:Int),List.set (List.replicate events.length false) (i:Int).toNat true)) ⟨by simp,by simp,fun j=> by
   have e:(i:Int).toNat=i:=by omega
   rw [e]
   by_cases hji:j=i
   ·subst hji
    simp [List.getD_eq_getElem?_getD,hi]
   ·constructor
    ·intro h
     rw [List.getD_eq_getElem?_getD,List.getElem?_set_ne (Ne.symm hji),List.getElem?_replicate] at h
     split at h <;> cases h
    ·rintro (h | ⟨m,h1,h2,_⟩)
     ·exact absurd h hji
     ·omega⟩
 obtain ⟨l,h1,h2,h3⟩:=key
 rw [h1]
 exact ⟨l,rfl,h2,h3⟩
open Go.RowKit
theorem Knows_any (events:List api_Event) (hn:events.length≤1000000) (hc:∀e∈events,e.Causes.length≤1000000) (id:Int):
  ∃l,ref49_Knows events id=some l∧l.length=events.length∧∀j,l.getD j false=true↔(0≤id∧id < (events.length:Int)∧Reach events id.toNat j):=by
 have none_:ref49_Knows events id=some (List.replicate events.length false)→¬(0≤id∧id < (events.length:Int))→∃l,ref49_Knows events id=some l∧l.length=events.length∧∀j,l.getD j false=true↔(0≤id∧id < (events.length:Int)∧Reach events id.toNat j):=by
  intro h1 h2
  refine ⟨_,h1,by simp,fun j=> ?_⟩
  constructor
  ·intro h
   rw [List.getD_eq_getElem?_getD,List.getElem?_replicate] at h
   split at h <;> cases h
  ·rintro ⟨h3,h4,_⟩
   exact absurd ⟨h3,h4⟩ h2
 have hr:(events.length:Int).toNat=events.length:=by omega
 by_cases h0:0≤id
 ·by_cases h1:id < (events.length:Int)
  ·obtain ⟨i,rfl⟩:∃i:Nat,id=i:=⟨id.toNat,by omega⟩
   obtain ⟨l,k1,k2,k3⟩:=Knows_eq events hn hc i (by omega)
   refine ⟨l,k1,k2,fun j=> ?_⟩
   rw [k3 j]
   exact ⟨fun h=> ⟨h0,h1,h⟩,fun h=> h.2.2⟩
  ·refine none_ ?_ fun h=> h1 h.2
   unfold ref49_Knows
   rw [chk_true (by simp <;> omega),decide_eq_false (by omega),cond_false,decide_eq_true (by omega),cond_true,hr]
 ·refine none_ ?_ fun h=> h0 h.1
  unfold ref49_Knows
  rw [chk_true (by simp <;> omega),decide_eq_true (by omega),cond_true,hr]
def otherG (x y:api_Out):Bool:=bif y.Net !=x.Net then true else y.Item.Event !=x.Item.Event
def firstB (l:List api_Out) (k:Nat):Bool:=(l.take k).all (otherG (l.getD k default))
theorem Causal_L1_eq (l:List api_Out) (hl:l.length≤1000) (k:Nat) (hk:k < l.length):loopF (ref49_Causal_L1 (k:Int) l (l.getD k default)) (true,(0:Int))=some (.inl (firstB l k)):=by
 refine loopF_inv (body:=ref49_Causal_L1 (k:Int) l (l.getD k default)) k (fun t s=> s=((l.take t).all (otherG (l.getD k default)),(t:Int))) (fun r=> r=some (.inl (firstB l k))) ?_ ?_ rfl
 ·rintro t s ht rfl
  left
  refine ⟨_,?_,rfl⟩
  have ht':t < l.length:=by omega
  unfold ref49_Causal_L1
  dsimp only
  rw [decide_eq_true (by omega),cond_true,take_succ_getD l default ht',List.all_append]
  have hw:IntKind.i64.wrap ((t:Int) + 1)=((t + 1:Nat):Int):=by
   rw [wrap64 (by omega) (by omega)]
   rfl
  rw [hw]
  cases (l.take t).all (otherG (l.getD k default))
  ·rfl
  ·rw [cond_true,chk_true (by simp <;> omega),bind_some_of (getI_in default ht'),chk_true (by simp <;> omega),bind_some_of (getI_in default hk)]
   simp only [List.all_cons,List.all_nil,Bool.and_true,Bool.true_and]
   unfold otherG
   cases ((l.getD t default).Net !=(l.getD k default).Net) <;> rfl
 ·rintro s rfl
  refine ⟨_,?_,rfl⟩
  unfold ref49_Causal_L1
  simp [firstB]
def badB (events:List api_Event) (l:List api_Out) (ins:List Bool) (i k:Nat):Bool:=
 bif (l.getD k default).Net !=(l.getD i default).Net then false else bif decide ((l.getD k default).Item.Event < 0) then false else bif decide ((events.length:Int)≤(l.getD k default).Item.Event) then false else
  bif (l.getD k default).Item.Event==(l.getD i default).Item.Event then false else bif ins.getD (l.getD k default).Item.Event.toNat false then firstB l k else false
theorem Causal_L2_eq (events:List api_Event) (l:List api_Out) (hl:l.length≤1000) (ins:List Bool) (hins:ins.length=events.length) (i:Nat) (hi:i < l.length):
  ((∃k,i < k∧k < l.length∧badB events l ins i k=true)→loopF (ref49_Causal_L2 l (i:Int) events (l.getD i default) ins) ((i + 1:Nat):Int)=some (.inr (.inr (.inr false))))∧
  ((∀k,i < k→k < l.length→badB events l ins i k=false)→loopF (ref49_Causal_L2 l (i:Int) events (l.getD i default) ins) ((i + 1:Nat):Int)=some (.inl ())):=by
 refine loopF_inv (body:=ref49_Causal_L2 l (i:Int) events (l.getD i default) ins) (l.length - (i + 1)) (fun t s=> s=((i + 1 + t:Nat):Int)∧∀k,i < k→k < i + 1 + t→badB events l ins i k=false)
  (fun r=> ((∃k,i < k∧k < l.length∧badB events l ins i k=true)→r=some (.inr (.inr (.inr false))))∧((∀k,i < k→k < l.length→badB events l ins i k=false)→r=some (.inl ()))) ?_ ?_ ⟨rfl,fun k h1 h2=> by omega⟩
 ·rintro t s ht ⟨rfl,hno⟩
  have hk:i + 1 + t < l.length:=by omega
  generalize hkk:i + 1 + t=k at *
  have hw:IntKind.i64.wrap ((k:Int) + 1)=((i + 1 + (t + 1):Nat):Int):=by
   rw [wrap64 (by omega) (by omega)]
   omega
  have hb:ref49_Causal_L2 l (i:Int) events (l.getD i default) ins (k:Int)=some (bif badB events l ins i k then .inr (.inr (.inr (.inr false))) else .inl ((i + 1 + (t + 1):Nat):Int)):=by
   unfold ref49_Causal_L2
   rw [decide_eq_true (by omega),cond_true,chk_true (by simp <;> omega),bind_some_of (getI_in default hk),chk_true (by simp <;> omega),bind_some_of (getI_in default hi),Causal_L1_eq l hl k hk,hw]
   unfold badB
   cases h1:((l.getD k default).Net !=(l.getD i default).Net)
   ·cases h2:decide ((l.getD k default).Item.Event < 0)
    ·cases h3:decide ((events.length:Int)≤(l.getD k default).Item.Event)
     ·cases h4:((l.getD k default).Item.Event==(l.getD i default).Item.Event)
      ·have h2:=of_decide_eq_false h2
       have h3:=of_decide_eq_false h3
       obtain ⟨o,ho⟩:∃o:Nat,(l.getD k default).Item.Event=o:=⟨(l.getD k default).Item.Event.toNat,by omega⟩
       simp only [cond_false,seqF]
       rw [ho,chk_true (by simp <;> omega),bind_some_of (getI_in false (by omega))]
       have:((o:Int)).toNat=o:=by omega
       rw [this]
       cases ins.getD o false
       ·rfl
       ·cases firstB l k <;> rfl
      ·rfl
     ·rfl
    ·rfl
   ·rfl
  rw [hb]
  cases hbad:badB events l ins i k
  ·left
   refine ⟨_,rfl,rfl,fun q h1 h2=> ?_⟩
   by_cases hq:q=k
   ·rw [hq];exact hbad
   ·exact hno q h1 (by omega)
  ·right
   refine ⟨_,rfl,fun _=> rfl,fun h=> ?_⟩
   rw [h k (by omega) hk] at hbad
   cases hbad
 ·rintro s ⟨rfl,hno⟩
  have e:i + 1 + (l.length - (i + 1))=l.length:=by omega
  rw [e] at hno
  refine ⟨.inl (),?_,fun ⟨k,h1,h2,h3⟩=> ?_,fun _=> rfl⟩
  ·unfold ref49_Causal_L2
   rw [e,decide_eq_false (by omega),cond_false]
  ·rw [hno k h1 h2] at h3
   cases h3
def Late (events:List api_Event) (l:List api_Out) (i k:Nat):Prop:=i < k∧k < l.length∧(l.getD k default).Net=(l.getD i default).Net∧0≤(l.getD k default).Item.Event∧(l.getD k default).Item.Event < (events.length:Int)∧
 (l.getD k default).Item.Event≠(l.getD i default).Item.Event∧(0≤(l.getD i default).Item.Event∧(l.getD i default).Item.Event < (events.length:Int)∧Reach events (l.getD i default).Item.Event.toNat (l.getD k default).Item.Event.toNat)∧firstB l k=true
theorem badB_late {events:List api_Event} {l:List api_Out} {ins:List Bool} {i k:Nat} (h1:i < k) (h2:k < l.length) (hins:∀j,ins.getD j false=true↔(0≤(l.getD i default).Item.Event∧(l.getD i default).Item.Event < (events.length:Int)∧Reach events (l.getD i default).Item.Event.toNat j)):
  badB events l ins i k=true↔Late events l i k:=by
 unfold badB Late
 rw [←hins]
 generalize ins.getD (l.getD k default).Item.Event.toNat false=b
 generalize firstB l k=f
 constructor
 ·intro h
  cases h3:((l.getD k default).Net !=(l.getD i default).Net)
  ·rw [h3,cond_false] at h
   cases h4:decide ((l.getD k default).Item.Event < 0)
   ·rw [h4,cond_false] at h
    cases h5:decide ((events.length:Int)≤(l.getD k default).Item.Event)
    ·rw [h5,cond_false] at h
     cases h6:((l.getD k default).Item.Event==(l.getD i default).Item.Event)
     ·rw [h6,cond_false] at h
      have h3:(l.getD k default).Net=(l.getD i default).Net:=by simpa using h3
      have h4:=of_decide_eq_false h4
      have h5:=of_decide_eq_false h5
      have h6:(l.getD k default).Item.Event≠(l.getD i default).Item.Event:=by simpa using h6
      cases b
      ·cases h
      ·exact ⟨h1,h2,h3,by omega,by omega,h6,rfl,h⟩
     ·rw [h6] at h;cases h
    ·rw [h5] at h;cases h
   ·rw [h4] at h;cases h
  ·rw [h3] at h;cases h
 ·rintro ⟨_,_,h3,h4,h5,h6,h7,h8⟩
  have e3:((l.getD k default).Net !=(l.getD i default).Net)=false:=by simpa using h3
  have e6:((l.getD k default).Item.Event==(l.getD i default).Item.Event)=false:=by simpa using h6
  rw [e3,cond_false,decide_eq_false (by omega),cond_false,decide_eq_false (by omega),cond_false,e6,cond_false,h7,cond_true]
  exact h8
theorem Causal_eq (events:List api_Event) (hn:events.length≤1000000) (hc:∀e∈events,e.Causes.length≤1000000) (outs:List (List api_Out)) (ho:outs.length≤20) (hol:∀l∈outs,l.length≤12) (h240:(itemsL outs).length≤240):
  ∃b,ref49_Causal events outs=some b∧(b=false↔∃i k,Late events (itemsL outs) i k):=by
 unfold ref49_Causal
 rw [Items_eq outs ho hol,bind_some_of rfl]
 generalize itemsL outs=l at *
 have key:=loopF_inv (body:=ref49_Causal_L3 l events) l.length (fun i s=> s=(i:Int)∧∀j,j < i→∀k,¬Late events l j k) (fun r=> (r=some (.inl ())∧∀i k,¬Late events l i k)∨(r=some (.inr false)∧∃i k,Late events l i k))
  (by
   rintro i s hi ⟨rfl,hno⟩
   obtain ⟨ins,k1,k2,k3⟩:=Knows_any events hn hc (l.getD i default).Item.Event
   obtain ⟨m1,m2⟩:=Causal_L2_eq events l (by omega) ins k2 i hi
   have hw:IntKind.i64.wrap ((i:Int) + 1)=((i + 1:Nat):Int):=by
    rw [wrap64 (by omega) (by omega)]
    rfl
   have hb:ref49_Causal_L3 l events (i:Int)=seqF (loopF (ref49_Causal_L2 l (i:Int) events (l.getD i default) ins) ((i + 1:Nat):Int)) fun _=> some (.inl ((i + 1:Nat):Int)):=by
    unfold ref49_Causal_L3
    rw [decide_eq_true (by omega),cond_true,chk_true (by simp <;> omega),bind_some_of (getI_in default hi),bind_some_of k1,hw]
   rw [hb]
   by_cases hbad:∃k,i < k∧k < l.length∧badB events l ins i k=true
   ·right
    rw [m1 hbad]
    obtain ⟨k,q1,q2,q3⟩:=hbad
    exact ⟨_,rfl,Or.inr ⟨rfl,i,k,(badB_late q1 q2 k3).1 q3⟩⟩
   ·left
    have hall:∀k,i < k→k < l.length→badB events l ins i k=false:=fun k q1 q2=> by
     cases hq:badB events l ins i k
     ·rfl
     ·exact absurd ⟨k,q1,q2,hq⟩ hbad
    rw [m2 hall]
    refine ⟨_,rfl,rfl,fun j hj k hlate=> ?_⟩
    by_cases hji:j=i
    ·subst hji
     have:=(badB_late hlate.1 hlate.2.1 k3).2 hlate
     rw [hall k hlate.1 hlate.2.1] at this
     cases this
    ·exact hno j (by omega) k hlate)
  (by
   rintro s ⟨rfl,hno⟩
   refine ⟨.inl (),?_,Or.inl ⟨rfl,fun i k h=> hno i (by have:=h.1;have:=h.2.1;omega) k h⟩⟩
   unfold ref49_Causal_L3
   simp)
  (s0:=(0:Int)) ⟨rfl,fun j hj=> absurd hj (by omega)⟩
 rcases key with ⟨h1,h2⟩ | ⟨h1,i,k,h2⟩
 ·rw [h1]
  exact ⟨true,rfl,Iff.intro (fun h=> by cases h) (fun ⟨i,k,h⟩=> absurd h (h2 i k))⟩
 ·rw [h1]
  exact ⟨false,rfl,⟨fun _=> ⟨i,k,h2⟩,fun _=> rfl⟩⟩
end Go.Proofs.YtiklglcjecopcaaGreatDoor
namespace Go.Proofs.YtiklglcjecopcaaGreatDoor
section
variable {P : Program} {ops : Array Oper} {Q : Exit → Act → World → Prop} {md : Region.Mode} {S : World → Prop}
def pick (ops:Array Oper) (is:List Nat):List Oper:=is.filterMap (ops[·]?)
theorem pick_lit (l:List Oper) (is:List Nat):pick l.toArray is=is.filterMap (l[·]?):=by
 unfold pick
 congr 1
 funext x
 simp
def Takes (P:Program) (ops:Array Oper) (S:World→Prop):List Oper→Act→Act→Prop
 | [],a,b=> b=a
 | o::r,a,b=> ∃v,YieldsIf P ops S o v a∧Takes P ops S r (a.put o.dst v) b
theorem Takes.done {a:Act}:Takes P ops S [] a a:=rfl
theorem Takes.want {o:Oper} {r:List Oper} {a b:Act} (v:Value) (hw:Region.wanted o (yielded ops a.tmps)=true) (hv:∀w,S w→(execOp a.eval o).run P w= .ok (.value v) w) (h:Takes P ops S r (a.put o.dst v) b):Takes P ops S (o::r) a b:=⟨v,Or.inl ⟨hw,hv⟩,h⟩
def takeable (md:Region.Mode) (ops:Array Oper):List Nat→Array Bool→Bool
 | [],_=> true
 | i::r,l=> decide (i < ops.size) && Region.free md ops l i && (Region.ready md ops l).contains i && takeable md ops r (l.setIfInBounds i true)
def listAll:List Nat→Array Bool→Array Bool
 | [],l=> l
 | i::r,l=> listAll r (l.setIfInBounds i true)
theorem wpAnyH_takes (hs:Region.noSelect ops=true) (hQ:∀d v c a w,Q (.panic c) (Act.put a d v) w→Q (.panic c) a w):∀(is:List Nat) (fuel n:Nat) (listed:Array Bool) (a b:Act) (w:World),n=fuel + is.length→
  takeable md ops is listed=true→Takes P ops S (pick ops is) a b→S w→wpAnyH P md ops Q S fuel (listAll is listed) b w→wpAnyH P md ops Q S n listed a w
 | [],fuel,n,listed,a,b,w,hn,_,ht,_,h=> by
  subst hn
  have:b=a:=ht
  subst this
  exact h
 | i::r,fuel,n,listed,a,b,w,hn,hk,ht,hS,h=> by
  simp only [takeable,Bool.and_eq_true,decide_eq_true_eq] at hk
  obtain ⟨⟨⟨h1,h2⟩,h3⟩,h4⟩:=hk
  have e:ops[i]? =some ops[i]:=Array.getElem?_eq_getElem h1
  have hp:pick ops (i::r)=ops[i]::pick ops r:=by simp [pick,e]
  rw [hp] at ht
  obtain ⟨v,hy,ht⟩:=ht
  obtain rfl:n=(fuel + r.length) + 1:=by rw [hn,List.length_cons];omega
  exact wpAnyH_take e hs h2 h3 (fun c a w=> hQ _ _ c a w) hy hS (wpAnyH_takes hs hQ r fuel _ _ _ b w rfl h4 ht hS h)
def AtOps (P:Program) (ops:Array Oper) (Q:Exit→Act→World→Prop) (K:Act→World→Prop) (a:Act) (w:World):List Oper→Prop
 | [o]=> if Region.wanted o (yielded ops a.tmps)=true then Oper.wp P o a w K Q else K (a.put o.dst undef) w
 | _=> False
theorem wpAnyH_one (i:Nat) {fuel n:Nat} {listed:Array Bool} {a:Act} {w:World} (hr:Region.ready md ops listed= [i]) (hn:n=fuel + 1)
  (h:∀K:Act→World→Prop,Shut (∀a w,S w→(S w→wpAnyH P md ops Q S fuel (listed.setIfInBounds i true) a w)→K a w)→AtOps P ops Q K a w (pick ops [i])):wpAnyH P md ops Q S n listed a w:=by
 subst hn
 have hi:i∈Region.ready md ops listed:=by rw [hr];simp
 obtain ⟨_,o,ho,_⟩:=mem_ready.1 hi
 refine wpAnyH_ready hr (by simp) (AllReadyH.cons ho (fun K hK=> ?_) AllReadyH.nil)
 have:=h K hK
 rw [show pick ops [i]= [o] by simp [pick,ho]] at this
 exact this
theorem wpAnyH_two (i j:Nat) {fuel n:Nat} {listed:Array Bool} {a:Act} {w:World} (hr:Region.ready md ops listed= [i,j]) (hn:n=fuel + 1)
  (h:∀K:Act→World→Prop,Shut (∀a w,S w→(S w→wpAnyH P md ops Q S fuel (listed.setIfInBounds i true) a w)→K a w)→AtOps P ops Q K a w (pick ops [i]))
  (h2:∀K:Act→World→Prop,Shut (∀a w,S w→(S w→wpAnyH P md ops Q S fuel (listed.setIfInBounds j true) a w)→K a w)→AtOps P ops Q K a w (pick ops [j])):wpAnyH P md ops Q S n listed a w:=by
 subst hn
 have hi:i∈Region.ready md ops listed:=by rw [hr];simp
 have hj:j∈Region.ready md ops listed:=by rw [hr];simp
 obtain ⟨_,o,ho,_⟩:=mem_ready.1 hi
 obtain ⟨_,o2,ho2,_⟩:=mem_ready.1 hj
 refine wpAnyH_ready hr (by simp) (AllReadyH.cons ho (fun K hK=> ?_) (AllReadyH.cons ho2 (fun K hK=> ?_) AllReadyH.nil))
 ·have:=h K hK
  rw [show pick ops [i]= [o] by simp [pick,ho]] at this
  exact this
 ·have:=h2 K hK
  rw [show pick ops [j]= [o2] by simp [pick,ho2]] at this
  exact this
end
end Go.Proofs.YtiklglcjecopcaaGreatDoor
namespace Go.Proofs.YtiklglcjecopcaaGreatDoor
open Go.RowKit
section
variable {P : Program} (w : World)
theorem wp_append_run {o:Oper} {a:Act} {K:Act→World→Prop} {Q:Exit→Act→World→Prop} (s x:Operand) (t u:TypeId)
  (ho:o.op= .call {callee:= .builtin .append,args:= #[s,x],argTypes:= #[t,u]}) (v1 v2 v':Value) (w':World) (hs:a.eval s=v1) (hx:a.eval x=v2)
  (hrun:(Builtin.append_ #[t,u] o.type #[v1,v2]).run P w= .ok v' w') (h:K (a.put o.dst v') w'):o.wp P a w K Q:=by
 unfold Oper.wp execOp
 simp only [ho,resolve,invoke,builtin,Sem.run_bind,Sem.run_pure,Result.andThen_ok,List.map_toArray,List.map_cons,List.map_nil,hs,hx,hrun]
 exact h
end
theorem grown_setRow (w:World) (g:Nat) (cs:Array Value):w.grownBy (w.setRow g cs) (some g):=⟨rfl,rfl,rfl,by simp,fun k _ hk=> setRow_other w g k _ (fun e=> hk (by rw [e]))⟩
end Go.Proofs.YtiklglcjecopcaaGreatDoor

/-
A queue of strings: a slice that is cut at its head and grows at its end.
-/
import Derived.Test.YtmgcnoigihdhpaaGreatDoorQ08
import Derived.Test.YtmgcnoigihdhpaaGreatDoorQ16
import Derived.StringKeys
import Derived.IntWalk
namespace Go.Proofs.YtmgcnoigihdhpaaGreatDoor
open Go.RowKit Go.Maps Go.Shelf
def rowOf:Value→Option Nat
 | .slice (some a) _ _=> some a.block
 | _=> none
def QAt (base:Nat) (W:World) (v:Value) (qs:List ByteArray):Prop:=
 ∃a c,v= .slice a qs.length c∧c≤maxLen∧((a=none∧qs= []∧c=0)∨∃g o cur,a=some ⟨g,o,none⟩∧base≤g∧W.heap[g]? =some (.cells cur 9 (0,0))∧o + c≤cur.size∧qs.length≤c∧∀(j:Nat) (s:ByteArray),qs[j]? =some s→cur[o + j]? =some (.string s))
theorem QAt.keep {base:Nat} {W W':World} {v:Value} {qs:List ByteArray} (h:QAt base W v qs) (hb:∀k,base≤k→k < W.heap.size→W'.heap[k]? =W.heap[k]?):QAt base W' v qs:=by
 obtain ⟨a,c,h1,h2,h3⟩:=h
 refine ⟨a,c,h1,h2,?_⟩
 rcases h3 with h3 | ⟨g,o,cur,e1,e2,e3,e4⟩
 ·exact Or.inl h3
 ·exact Or.inr ⟨g,o,cur,e1,e2,(hb g e2 (Array.getElem?_eq_some_iff.1 e3).1).trans e3,e4⟩
theorem QAt.row {base:Nat} {W:World} {v:Value} {qs:List ByteArray} (h:QAt base W v qs) {g:Nat} (hg:rowOf v=some g):∃cur,W.heap[g]? =some (.cells cur 9 (0,0)):=by
 obtain ⟨a,c,rfl,_,h3⟩:=h
 rcases h3 with ⟨rfl,_⟩ | ⟨g',o,cur,rfl,_,e3,_⟩
 ·cases hg
 ·have e:g'=g:=Option.some.inj hg
  subst e
  exact ⟨cur,e3⟩
theorem QAt.head {base:Nat} {W:World} {v:Value} {q:ByteArray} {qs:List ByteArray} (h:QAt base W v (q::qs)):∃g o c,v= .slice (some ⟨g,o,none⟩) (qs.length + 1) c∧W.cell? ⟨g,o,none⟩=some (.string q)∧qs.length + 1≤c∧rowOf (.slice (if c=1 then some ⟨g,o,none⟩ else some ⟨g,o + 1,none⟩) qs.length (c - 1))=rowOf v∧QAt base W (.slice (if c=1 then some ⟨g,o,none⟩ else some ⟨g,o + 1,none⟩) qs.length (c - 1)) qs:=by
 obtain ⟨a,c,h1,h2,h3⟩:=h
 rcases h3 with ⟨_,h4,_⟩ | ⟨g,o,cur,rfl,e2,e3,e4,e5,e6⟩
 ·cases h4
 ·rw [List.length_cons] at e5
  refine ⟨g,o,c,h1,?_,e5,by rw [h1];split <;> rfl,_,_,rfl,by omega,Or.inr ?_⟩
  ·rw [cell_of_row _ _ _ cur 9 (0,0) e3]
   exact e6 0 q rfl
  ·by_cases hc:c=1
   ·have hq:qs= []:=List.length_eq_zero_iff.1 (by omega)
    rw [if_pos hc]
    exact ⟨g,o,cur,rfl,e2,e3,by omega,by rw [hq];simp,fun j s hs=> by rw [hq] at hs;simp at hs⟩
   ·rw [if_neg hc]
    exact ⟨g,o + 1,cur,rfl,e2,e3,by omega,by omega,fun j s hs=> by
     rw [show o + 1 + j=o + (j + 1) by omega]
     exact e6 (j + 1) s (by simpa using hs)⟩
theorem info9:(Tryz.prog.info? 9).map (fun i=> (i.zero,i.size,i.bytes))=some (some (.string ⟨#[]⟩),1,16):=by kernel_rfl
theorem QAt.push {base:Nat} {W:World} {v:Value} {qs:List ByteArray} (h:QAt base W v qs) (hb:base≤W.heap.size) (hn:qs.length≤1000000) {s:ByteArray} {ad:Addr} {cp:Nat} (hs:W.cell? ad=some (.string s)):
  ∃v' W',(∀ty,(Builtin.append_ #[24,24] ty #[v,.slice (some ad) 1 cp]).run Tryz.prog W= .ok v' W')∧QAt base W' v' (qs ++ [s])∧W'.os=W.os∧W'.tape=W.tape∧W'.output=W.output∧W.heap.size≤W'.heap.size∧∃g,base≤g∧rowOf v'=some g∧(rowOf v=some g∨g=W.heap.size)∧∀k,k < W.heap.size→k≠g→W'.heap[k]? =W.heap[k]? :=by
 obtain ⟨it,hi,hz,hsz,hby⟩:=info_parts info9
 obtain ⟨a,c,rfl,h2,h3⟩:=h
 have hnews:∀(j:Nat) (u:Value),[Value.string s][j]? =some u→W.cell? (ad.add j)=some u:=fun j u hu=> by
  match j,hu with
  | 0,hu=>
   have hu:Value.string s=u:=Option.some.inj hu
   subst hu
   have:ad.add 0=ad:=by cases ad with | mk b o f=> cases f <;> simp [Addr.add]
   rw [this]
   exact hs
 by_cases hroom:qs.length + 1≤c
 ·rcases h3 with ⟨_,_,h4⟩ | ⟨g,o,cur,rfl,e2,e3,e4,e5,e6⟩
  ·omega
  ·have hf:=run_firstCells_some (P:=Tryz.prog) W 1 1 ad 1 cp [.string s] rfl hnews
   have hst:=run_storeCells_at Tryz.prog g (o + qs.length) 9 [Value.string s] 0 cur W e3 (by simp;omega) (fun u hu=> by rw [List.mem_singleton.1 hu];rfl)
   simp only [Nat.add_zero] at hst
   have hgr:=grown_setRow W g (cur.toList.take (o + qs.length) ++ [Value.string s] ++ cur.toList.drop (o + qs.length + [Value.string s].length)).toArray
   refine ⟨.slice (some ⟨g,o,none⟩) (qs.length + 1) c,_,fun ty=> ?_,⟨_,_,by rw [List.length_append];rfl,h2,Or.inr ⟨g,o,_,rfl,e2,setRow_heap W g cur _ 9 (0,0) e3,?_,by rw [List.length_append];exact hroom,fun j t ht=> ?_⟩⟩,hgr.os,hgr.tape,hgr.output,hgr.size,g,e2,rfl,Or.inl rfl,fun k hk hne=> hgr.block k hk fun e=> hne (Option.some.inj e)⟩
   ·simp [Builtin.append_,run_underlying Tryz.underlying24,sizeOf,typeInfo,hi,hsz,Builtin.lenOf,hroom,hf,Addr.add_mid,hst]
   ·simp
    omega
   ·rw [List.getElem?_toArray,List.append_assoc]
    by_cases hj:j < qs.length
    ·rw [List.getElem?_append_left (by simp;omega),List.getElem?_take_of_lt (by omega)]
     rw [List.getElem?_append_left hj] at ht
     simpa using e6 j t ht
    ·rw [List.getElem?_append_right (by omega)] at ht
     have hj0:j - qs.length=0:=by
      have:=(List.getElem?_eq_some_iff.1 ht).1
      simp at this
      omega
     rw [hj0] at ht
     have ht:s=t:=Option.some.inj ht
     subst ht
     have el:(cur.toList.take (o + qs.length)).length=o + qs.length:=by simp;omega
     rw [List.getElem?_append_right (by omega),el,show o + j - (o + qs.length)=0 by omega]
     rfl
 ·have hbase:a=none→qs.length=0∧c=0:=fun e=> by
   rcases h3 with ⟨_,h4,h5⟩ | ⟨g,o,cur,e1,_⟩
   ·rw [h4]
    exact ⟨rfl,h5⟩
   ·rw [e] at e1
    cases e1
  have holds:∀b,a=some b→∀(j:Nat) (u:Value),(qs.map fun s=> Value.string s)[j]? =some u→W.cell? (b.add j)=some u:=fun b e j u hu=> by
   rcases h3 with ⟨h4,_⟩ | ⟨g,o,cur,e1,e2,e3,e4,e5,e6⟩
   ·rw [e] at h4
    cases h4
   ·rw [e] at e1
    have e1:=Option.some.inj e1
    subst e1
    obtain ⟨t,ht,rfl⟩:=Option.map_eq_some_iff.1 ((List.getElem?_map ..).symm.trans hu)
    rw [Addr.add_mid,cell_of_row _ _ _ cur 9 (0,0) e3]
    exact e6 j t ht
  have hge:=grownCap_ge W (qs.length + 1) c 9
  have hrun:=fun ty=> run_app_grow (P:=Tryz.prog) W (ty:=ty) Tryz.underlying24 hi hz (base:=a) (n:=qs.length) (cap:=c) (olds:=qs.map fun s=> Value.string s) (by rw [List.length_map,hsz,Nat.mul_one]) hbase holds (ad:=ad) (k:=1) (c:=cp) (news:= [.string s]) (by rw [hsz];rfl) hnews (by omega) (by omega) (by rw [hby];omega) (by omega)
  refine ⟨_,_,hrun,⟨_,_,by rw [List.length_append];rfl,?_,Or.inr ⟨W.heap.size,0,_,rfl,hb,heap_alloc_new W.drew _,?_,by rw [List.length_append];exact hge,fun j t ht=> ?_⟩⟩,rfl,rfl,rfl,by simp,W.heap.size,hb,rfl,Or.inr rfl,fun k hk _=> Below.heap_alloc W.drew _ k hk⟩
  ·exact grownCap_le_maxLen W _ c 9 (by simp only [maxLen];omega)
  ·simp only [Array.size_append,List.size_toArray,size_zeroCells,List.length_map,List.length_cons,List.length_nil]
   show 0 + grownCap W (qs.length + 1) c 9≤qs.length + (0 + 1) + (grownCap W (qs.length + 1) c 9 - (qs.length + 1)) * 1
   omega
  ·have hj:=(List.getElem?_eq_some_iff.1 ht).1
   rw [Nat.zero_add,Array.getElem?_append_left (by simp at hj ⊢;omega)]
   have:((qs.map fun s=> Value.string s) ++ [Value.string s])[j]? =some (.string t):=by
    rw [show ((qs.map fun s=> Value.string s) ++ [Value.string s])=(qs ++ [s]).map fun s=> Value.string s by simp,List.getElem?_map,ht]
    rfl
   simpa using this
theorem relD_v {A:Nat→Prop} {w:World} {x v:Value} (h:RelD A w (.v x) v):v=x:=by
 cases h
 rfl
def Ints (W:World) (v:Value) (xs:List Int) (b:Option Nat):Prop:=OwnAt (fun _=> False) W 1 (xs.map (encI .i64)) v b
theorem Ints.kept {W W':World} {v:Value} {xs:List Int} {b:Option Nat} (h:Ints W v xs b) (hb:∀g,b=some g→W'.heap[g]? =W.heap[g]?):Ints W' v xs b:=by
 obtain ⟨h1,h2⟩:=h
 refine ⟨h1,?_⟩
 rcases h2 with h2 | ⟨g,ty,cur,cap,e1,e2,e3,e4,e5,e6,e7⟩
 ·exact Or.inl h2
 ·refine Or.inr ⟨g,ty,cur,cap,e1,e2,(hb g e1).trans e3,e4,e5,e6,fun i j e x he hx=> ?_⟩
  obtain ⟨y,hy,hr⟩:=e7 i j e x he hx
  exact ⟨y,hy,hr.mono (fun _ h=> h) (fun _ h=> h.elim)⟩
theorem info3:(Tryz.prog.info? 3).map (fun i=> (i.zero,i.size,i.bytes))=some (some (.int .i64 0),1,8):=by kernel_rfl
set_option maxRecDepth 100000 in
theorem Ints.append {W:World} {v:Value} {xs:List Int} {b:Option Nat} (h:Ints W v xs b) {ys:List Int} (hy:0 < ys.length) (hn:xs.length + ys.length≤1000000) {ad:Addr} {c:Nat} (hc:∀j y,ys[j]? =some y→W.cell? (ad.add j)=some (.int .i64 y)):
  ∃v' W' b',(∀ty,(Builtin.append_ #[35,35] ty #[v,.slice (some ad) ys.length c]).run Tryz.prog W= .ok v' W')∧Ints W' v' (xs ++ ys) b'∧W'.os=W.os∧W'.tape=W.tape∧W'.output=W.output∧W.heap.size≤W'.heap.size∧
   (∀k,k < W.heap.size→b≠some k→W'.heap[k]? =W.heap[k]?)∧∃g,b'=some g∧(b=some g∨W.heap.size≤g)∧g < W'.heap.size:=by
 obtain ⟨it,hi,hz,hsz,hby⟩:=info_parts info3
 obtain ⟨h1,h2⟩:=h
 have hnews:∀(j:Nat) (u:Value),(ys.map (Value.int .i64))[j]? =some u→W.cell? (ad.add j)=some u:=fun j u hu=> by
  rw [List.getElem?_map] at hu
  cases hq:ys[j]? with
  | none=> rw [hq] at hu;cases hu
  | some y=>
   rw [hq] at hu
   injection hu with hu
   rw [←hu]
   exact hc j y hq
 have h1':∀e∈(xs ++ ys).map (encI .i64),e.length=1:=fun e he=> by
  obtain ⟨x,_,rfl⟩:=List.mem_map.1 he
  rfl
 have hlen:∀zs:List Int,(zs.map (encI .i64)).length=zs.length:=fun zs=> List.length_map ..
 have cellAt:∀(cur:Array Value),(∀(i:Nat) (x:Int),(xs ++ ys)[i]? =some x→cur[i]? =some (Value.int .i64 x))→∀(W':World) (i j:Nat) (e:List D) (x:D),((xs ++ ys).map (encI .i64))[i]? =some e→e[j]? =some x→∃u,cur[i * 1 + j]? =some u∧RelD (fun _=> False) W' x u:=by
  intro cur hcur W' i j e x he hx
  rw [List.getElem?_map] at he
  cases hq:(xs ++ ys)[i]? with
  | none=> rw [hq] at he;cases he
  | some z=>
   rw [hq] at he
   injection he with he
   subst he
   match j,hx with
   | 0,hx=>
    injection hx with hx
    subst hx
    exact ⟨_,by rw [Nat.mul_one,Nat.add_zero];exact hcur i z hq,.v _ rfl⟩
 have grow:∀(base:Option Addr) (cap:Nat),(base=none→xs.length=0∧cap=0)→(∀a,base=some a→∀(j:Nat) (u:Value),(xs.map (Value.int .i64))[j]? =some u→W.cell? (a.add j)=some u)→cap < xs.length + ys.length→v= .slice base xs.length cap→
   ∃v' W' b',(∀ty,(Builtin.append_ #[35,35] ty #[v,.slice (some ad) ys.length c]).run Tryz.prog W= .ok v' W')∧Ints W' v' (xs ++ ys) b'∧W'.os=W.os∧W'.tape=W.tape∧W'.output=W.output∧W.heap.size≤W'.heap.size∧
    (∀k,k < W.heap.size→b≠some k→W'.heap[k]? =W.heap[k]?)∧∃g,b'=some g∧(b=some g∨W.heap.size≤g)∧g < W'.heap.size:=by
  intro base cap hb0 hold hg hv
  subst hv
  have hge:=grownCap_ge W (xs.length + ys.length) cap 3
  refine ⟨_,_,some W.heap.size,fun ty=> run_app_grow (P:=Tryz.prog) W Tryz.underlying35 hi hz (olds:=xs.map (Value.int .i64)) (by rw [List.length_map,hsz,Nat.mul_one]) hb0 hold (ad:=ad) (k:=ys.length) (c:=c) (news:=ys.map (Value.int .i64)) (by rw [List.length_map,hsz,Nat.mul_one]) hnews hg hy (by rw [hby];omega) (by omega),⟨h1',Or.inr ⟨W.heap.size,_,_,_,rfl,by rw [hlen,List.length_append],heap_alloc_new W.drew _,by rw [hlen,List.length_append];exact hge,grownCap_le_maxLen W _ cap 3 (by simp only [maxLen];omega),?_,cellAt _ (fun i x hx=> ?_) _⟩⟩,rfl,rfl,rfl,by simp,fun k hk _=> Below.heap_alloc W.drew _ k hk,W.heap.size,rfl,Or.inr (Nat.le_refl _),by simp⟩
  ·simp only [Array.size_append,List.size_toArray,size_zeroCells,List.length_map]
   show xs.length + ys.length + (grownCap W (xs.length + ys.length) cap 3 - (xs.length + ys.length)) * 1=_
   omega
  ·have hlt:=(List.getElem?_eq_some_iff.1 hx).1
   rw [List.length_append] at hlt
   rw [Array.getElem?_append_left (by simp;omega)]
   rw [List.append_toArray,←List.map_append,List.getElem?_toArray]
   rw [List.getElem?_map,hx]
   rfl
 rcases h2 with ⟨rfl,hx,a,rfl⟩ | ⟨g,ty,cur,cap,rfl,rfl,hg,hc1,hc2,hcs,ht⟩
 ·have:xs= []:=List.map_eq_nil_iff.1 hx
  subst this
  exact grow a 0 (fun _=> ⟨rfl,rfl⟩) (fun a _ j u hu=> by simp at hu) (by simpa using hy) rfl
 ·rw [hlen] at hc1
  have hcur:∀(i:Nat) (x:Int),xs[i]? =some x→cur[i]? =some (Value.int .i64 x):=fun i x hx=> by
   obtain ⟨y,hy,hr⟩:=ht i 0 (encI .i64 x) _ (by rw [List.getElem?_map,hx];rfl) rfl
   rw [Nat.mul_one,Nat.add_zero] at hy
   rw [hy,relD_v hr]
  have hold:∀(j:Nat) (u:Value),(xs.map (Value.int .i64))[j]? =some u→W.cell? ((⟨g,0,none⟩:Addr).add j)=some u:=fun j u hj=> by
   rw [List.getElem?_map] at hj
   cases hq:xs[j]? with
   | none=> rw [hq] at hj;cases hj
   | some x=>
    rw [hq] at hj
    injection hj with hj
    rw [add_eq,Nat.zero_add,cell_of_row _ _ _ cur ty (0,0) hg,hcur j x hq,←hj]
  by_cases hroom:xs.length + ys.length≤cap
  ·have hfit:xs.length * it.size + (ys.map (Value.int .i64)).length≤cur.size:=by
    rw [hsz,hcs,List.length_map]
    omega
   have hs:=setRow_heap W g cur (over cur.toList (xs.length * it.size) (ys.map (Value.int .i64))).toArray ty (0,0) hg
   refine ⟨_,_,some g,fun tt=> by rw [hlen];exact run_app_room (P:=Tryz.prog) W Tryz.underlying35 hi hg (news:=ys.map (Value.int .i64)) (k:=ys.length) (by rw [List.length_map,hsz,Nat.mul_one]) hnews (fun u hu=> by obtain ⟨z,_,rfl⟩:=List.mem_map.1 hu;rfl) hroom hfit,⟨h1',Or.inr ⟨g,ty,_,cap,rfl,by rw [hlen,List.length_append],hs,by rw [hlen,List.length_append];exact hroom,hc2,?_,cellAt _ (fun i x hx=> ?_) _⟩⟩,rfl,rfl,rfl,(grown_setRow W g _).size,fun k _ hk=> (grown_setRow W g _).block k ‹_› (fun e=> hk e.symm),g,rfl,Or.inl rfl,?_⟩
   ·unfold over
    simp only [List.size_toArray,List.length_append,List.length_take,List.length_drop,Array.length_toList,List.length_map,hsz]
    omega
   ·unfold over
    rw [hsz,Nat.mul_one,List.getElem?_toArray]
    by_cases hix:i < xs.length
    ·rw [List.append_assoc,List.getElem?_append_left (by simp;omega),List.getElem?_take_of_lt hix]
     rw [List.getElem?_append_left hix] at hx
     simpa using hcur i x hx
    ·rw [List.getElem?_append_right (by omega)] at hx
     have hiy:=(List.getElem?_eq_some_iff.1 hx).1
     have e:(cur.toList.take xs.length).length=xs.length:=by simp;omega
     rw [List.append_assoc,List.getElem?_append_right (by omega),e,List.getElem?_append_left (by simpa using hiy),List.getElem?_map,hx]
     rfl
   ·have:=(grown_setRow W g (over cur.toList (xs.length * it.size) (ys.map (Value.int .i64))).toArray).size
    have h3:=lt_of_block hg
    omega
  ·exact grow (some ⟨g,0,none⟩) cap (fun h=> by cases h) (fun a ha=> by injection ha with ha;subst ha;exact hold) (by omega) (by rw [hlen])
theorem clone_any {A:Nat→Prop} {W:World} {fl:List Int} {v:Value} (hI:Inv W) (hA:∀b,A b→b < W.heap.size) (h:RelD A W (.fz (fl.map (encI .i64))) v) (hl:fl.length≤1000000):
  Calls Tryz.prog 25 #[v] W fun r W'=> ∃x b,r= .returned x∧Below W.heap.size W W'∧Ints W' x fl b∧∀c,b=some c→W.heap.size≤c∧c < W'.heap.size:=by
 have hc:slices_Clone_int_int fl=some fl:=by simp [slices_Clone_int_int,chkO,hl]
 refine ((slices_Clone_int_int_fn (dr:=False) hc).2 W A #[v] hI hA ⟨rfl,fun j c u hc hu=> by
  match j,hc,hu with
  | 0,hc,hu=>
   injection hc with hc
   injection hu with hu
   subst hc hu
   exact .d h⟩).mono ?_
 rintro r W' ⟨v',S',bs,rfl,hb,_,hres,_,hbs⟩
 obtain ⟨b,rfl,ho⟩:=hres
 have ho:OwnAt S' W' 1 (fl.map (encI .i64)) v' b:=ho
 refine ⟨v',b,rfl,hb.toBelow,?_,fun c hc=> by
  have:=hbs c (by rw [hc];exact .head _)
  exact ⟨this.1,this.2.1⟩⟩
 obtain ⟨h1,h2⟩:=ho
 refine ⟨h1,?_⟩
 rcases h2 with h2 | ⟨g,ty,cur,cap,e1,e2,e3,e4,e5,e6,e7⟩
 ·exact Or.inl h2
 ·refine Or.inr ⟨g,ty,cur,cap,e1,e2,e3,e4,e5,e6,fun i j e x he hx=> ?_⟩
  obtain ⟨y,hy,hr⟩:=e7 i j e x he hx
  rw [List.getElem?_map] at he
  cases hq:fl[i]? with
  | none=> rw [hq] at he;cases he
  | some z=>
   rw [hq] at he
   injection he with he
   subst he
   match j,hx with
   | 0,hx=>
    injection hx with hx
    subst hx
    exact ⟨y,hy,by rw [relD_v hr];exact .v _ rfl⟩
theorem Ints.relD {W:World} {v:Value} {xs:List Int} {bl:Option Nat} (h:Ints W v xs bl):RelD (fun k=> bl=some k) W (.fz (xs.map (encI .i64))) v:=by
 obtain ⟨h1,h2⟩:=h
 rcases h2 with ⟨_,hx,a,rfl⟩ | ⟨g,ty,cur,cap,e1,rfl,e3,e4,e5,e6,e7⟩
 ·rw [hx]
  exact .fz0 a 0 (fun _=> rfl)
 ·refine .fz _ g 0 1 cap (fun j=> cur.getD j undef) h1 e1 e4 (fun j hj=> ?_) (fun i j e x he hx=> ?_)
  ·rw [cell_of_row _ _ _ cur ty (0,0) e3,Nat.zero_add]
   have hlt:j < cur.size:=by
    have:=Nat.mul_le_mul_right 1 e4
    omega
   simp [hlt]
  ·obtain ⟨y,hy,hr⟩:=e7 i j e x he hx
   have:cur.getD (i * 1 + j) undef=y:=by rw [Array.getD_eq_getD_getElem?,hy];rfl
   rw [this]
   exact hr.mono (fun _ h=> h.elim) fun _ h=> h.elim
theorem keyed9:Keyed Tryz.prog 9:=string_keyed Tryz.underlying9
theorem keyS {s:ByteArray} (h:s.size≤1000):keyOf Tryz.prog 9 (.string s)=some (.string s.data.toList):=Go.WideMaps.keyOf_string_mk Tryz.underlying9 (by simp only [maxLen];omega)
theorem litS {s:ByteArray} (h:s.size≤1000):WideAt.IsKeyLit (.string s.data.toList):=keyed9.key (keyS h)
theorem zero35 (w:World):(zeroValue 35).run Tryz.prog w= .ok (.slice none 0 0) w:=by rw [Tryz.zeroValue35]
def WM (base:Nat) (W:World) (mb n:Nat) (D:DataW Value):Prop:=
 base≤mb∧W.ownsMap Tryz.prog 9 heldR mb n D∧∀kl,has D kl=true→∃v xs bl,(∀z,D.atKey kl z= .held v)∧Ints W v xs bl∧xs.length≤n∧∀g,bl=some g→base≤g∧g < W.heap.size
section
variable {base : Nat} {W : World} {mb n : Nat} {D : DataW Value}
theorem WM.block (h:WM base W mb n D):∃es cl,W.heap[mb]? =some (.map es cl):=by
 obtain ⟨_,⟨es,cl,h1,_⟩,_⟩:=h
 exact ⟨es,cl,h1⟩
theorem WM.keep (h:WM base W mb n D) {W':World} (hs:W.heap.size≤W'.heap.size) (hb:∀k,base≤k→k < W.heap.size→W'.heap[k]? =W.heap[k]?):WM base W' mb n D:=by
 obtain ⟨h0,⟨es,cl,h1,h2⟩,h3⟩:=h
 refine ⟨h0,⟨es,cl,(hb mb h0 (Array.getElem?_eq_some_iff.1 h1).1).trans h1,h2⟩,fun kl hk=> ?_⟩
 obtain ⟨v,xs,bl,e1,e2,e3,e4⟩:=h3 kl hk
 exact ⟨v,xs,bl,e1,e2.kept fun g hg=> hb g (e4 g hg).1 (e4 g hg).2,e3,fun g hg=> ⟨(e4 g hg).1,Nat.lt_of_lt_of_le (e4 g hg).2 hs⟩⟩
theorem Ints.ne_map {v:Value} {xs:List Int} {bl:Option Nat} (h:Ints W v xs bl) {es:Array MapEntry} {cl:Nat} (hm:W.heap[mb]? =some (.map es cl)):∀g,bl=some g→g≠mb:=fun g hg e=> by
 rcases h.2 with ⟨h1,_⟩ | ⟨g',ty,cur,cap,h1,_,h3,_⟩
 ·rw [h1] at hg
  cases hg
 ·rw [h1] at hg
  have hg:=Option.some.inj hg
  rw [hg,e,hm] at h3
  cases h3
theorem WM.look (h:WM base W mb n D) {s:ByteArray} (hl:s.size≤1000) (hh:has D (.string s.data.toList)=true):∃v xs bl,(Instr.lookup 101 (.map (some mb)) (.string s) false).run Tryz.prog W= .ok v W∧Ints W v xs bl∧xs.length≤n∧∀g,bl=some g→base≤g∧g < W.heap.size:=by
 obtain ⟨_,h1,h2⟩:=h
 obtain ⟨v,xs,bl,e1,e2,e3⟩:=h2 _ hh
 obtain ⟨y,ps',hrun',hy⟩:=h1.lookup keyed9 Tryz.underlying101 (zero35 W) (zd:= .held (.slice none 0 0)) (zp:= []) rfl (keyS hl)
 have ey:y=v:=by
  have:=held_inv hy
  rw [e1] at this
  exact DataW.held.inj this
 rw [ey] at hrun'
 exact ⟨v,xs,bl,hrun',e2,e3⟩
theorem WM.look_at (h:WM base W mb n D) {s:ByteArray} (hl:s.size≤1000) {v:Value} (hat:∀z,D.atKey (.string s.data.toList) z= .held v):(Instr.lookup 101 (.map (some mb)) (.string s) false).run Tryz.prog W= .ok v W:=by
 obtain ⟨_,h1,_⟩:=h
 obtain ⟨y,ps',hrun',hy⟩:=h1.lookup keyed9 Tryz.underlying101 (zero35 W) (zd:= .held (.slice none 0 0)) (zp:= []) rfl (keyS hl)
 have ey:y=v:=by
  have:=held_inv hy
  rw [hat] at this
  exact DataW.held.inj this
 rw [ey] at hrun'
 exact hrun'
theorem WM.has_at (h:WM base W mb n D) {s:ByteArray} (hh:has D (.string s.data.toList)=true):∃v xs bl,(∀z,D.atKey (.string s.data.toList) z= .held v)∧Ints W v xs bl∧xs.length≤n∧∀g,bl=some g→base≤g∧g < W.heap.size:=h.2.2 _ hh
theorem at_put {D:DataW Value} {s t:ByteArray} (hne:s.data.toList≠t.data.toList) {v w:Value} (hat:∀z,D.atKey (.string s.data.toList) z= .held v):∀z,(D.put (.string t.data.toList) (.held w)).atKey (.string s.data.toList) z= .held v:=fun z=> by
 rw [atKey_put_other (fun e=> hne (Lit.string.inj e))]
 exact hat z
theorem WM.look_ok (h:WM base W mb n D) {s:ByteArray} (hl:s.size≤1000):∃v,(Instr.lookup 101 (.map (some mb)) (.string s) true).run Tryz.prog W= .ok (.tuple #[v,.bool (has D (.string s.data.toList))]) W:=by
 obtain ⟨_,h1,_⟩:=h
 obtain ⟨x,ps,hrun,_⟩:=h1.look_ok keyed9 Tryz.underlying101 (zero35 W) (zd:= .held (.slice none 0 0)) (zp:= []) rfl (keyS hl)
 exact ⟨x,hrun⟩
theorem WM.put (h:WM base W mb n D) (hn:n < maxLen) {s:ByteArray} (hl:s.size≤1000) {v:Value} {xs:List Int} {bl:Option Nat} (hv:Ints W v xs bl) (hx:xs.length≤n + 1) (hb:∀g,bl=some g→base≤g∧g < W.heap.size):
  ∃W',(Instr.mapUpdate 101 (.map (some mb)) (.string s) v).run Tryz.prog W= .ok () W'∧WM base W' mb (n + 1) (D.put (.string s.data.toList) (.held v))∧W.grownBy W' (some mb):=by
 obtain ⟨es,cl,hmb⟩:=h.block
 obtain ⟨h0,h1,h2⟩:=h
 obtain ⟨W',hrun,h3,hg⟩:=h1.update keyed9 Tryz.underlying101 hn (keyS hl) (val:=v) (d:= .held v) (ps:= []) rfl
 have kept:∀{v:Value} {xs:List Int} {bl:Option Nat},Ints W v xs bl→(∀g,bl=some g→base≤g∧g < W.heap.size)→Ints W' v xs bl:=fun {v xs bl} hv hb=> hv.kept fun g hgg=> hg.block g (hb g hgg).2 fun e=> hv.ne_map hmb g hgg (Option.some.inj e)
 refine ⟨W',hrun,⟨h0,h3,fun kl hk=> ?_⟩,hg⟩
 by_cases hkl:kl= .string s.data.toList
 ·subst hkl
  exact ⟨v,xs,bl,fun z=> atKey_put_same h1.isMap (litS hl) _ z,kept hv hb,hx,fun g hgg=> ⟨(hb g hgg).1,Nat.lt_of_lt_of_le (hb g hgg).2 hg.size⟩⟩
 ·rw [has_put_other hkl] at hk
  obtain ⟨v',xs',bl',e1,e2,e3,e4⟩:=h2 kl hk
  exact ⟨v',xs',bl',fun z=> by rw [atKey_put_other hkl];exact e1 z,kept e2 e4,by omega,fun g hgg=> ⟨(e4 g hgg).1,Nat.lt_of_lt_of_le (e4 g hgg).2 hg.size⟩⟩
end
def rem (D:DataW Value):List (List UInt8)→Nat
 | []=> 0
 | s::cs=> (bif has D (.string s) then 0 else 1) + rem D cs
theorem rem_le {D D':DataW Value} (h:∀k,has D k=true→has D' k=true):∀cs,rem D' cs≤rem D cs
 | []=> Nat.le_refl _
 | s::cs=> by
  have:=rem_le h cs
  simp only [rem]
  cases h1:has D (.string s)
  ·cases has D' (.string s) <;> simp only [cond_true,cond_false] <;> omega
  ·rw [h _ h1]
   simp only [cond_true]
   omega
theorem rem_lt {D D':DataW Value} (h:∀k,has D k=true→has D' k=true) {s:List UInt8} (h1:has D (.string s)=false) (h2:has D' (.string s)=true):∀cs,s∈cs→rem D' cs + 1≤rem D cs
 | [],hm=> by cases hm
 | t::cs,hm=> by
  have hr:=rem_le h cs
  simp only [rem]
  rcases List.mem_cons.1 hm with rfl | hm
  ·rw [h1,h2]
   simp only [cond_true,cond_false]
   omega
  ·have:=rem_lt h h1 h2 cs hm
   cases h3:has D (.string t)
   ·cases has D' (.string t) <;> simp only [cond_true,cond_false] <;> omega
   ·rw [h _ h3]
    simp only [cond_true]
    omega
theorem rem_len (D:DataW Value):∀cs,rem D cs≤cs.length
 | []=> Nat.le_refl _
 | s::cs=> by
  have:=rem_len D cs
  simp only [rem,List.length_cons]
  cases has D (.string s) <;> simp only [cond_true,cond_false] <;> omega
end Go.Proofs.YtmgcnoigihdhpaaGreatDoor
namespace Go.Proofs.YtmgcnoigihdhpaaGreatDoor
open Go.RowKit
theorem seqF_inl {A B:Type} {p:Option (A⊕B)} {k:A→Option B} {a:A} (h:p=some (.inl a)):seqF p k=k a:=by rw [h];rfl
theorem seqF_inr {A B:Type} {p:Option (A⊕B)} {k:A→Option B} {b:B} (h:p=some (.inr b)):seqF p k=some b:=by rw [h];rfl
end Go.Proofs.YtmgcnoigihdhpaaGreatDoor
namespace Go.Proofs.YtmgcnoigihdhpaaGreatDoor
theorem loopF_total {S B:Type} {body:S→Option (S⊕B)} (I:S→Prop) (μ:S→Nat) (Q:B→Prop) (h:∀s,I s→(∃s',body s=some (.inl s')∧I s'∧μ s' < μ s)∨∃r,body s=some (.inr r)∧Q r):∀s,I s→∃r,loopF body s=some r∧Q r:=by
 have key:∀n s,μ s=n→I s→∃r,loopF body s=some r∧Q r:=by
  intro n
  induction n using Nat.strongRecOn with
  | _ n ih=>
   intro s hs hI
   rw [loopF_eq]
   rcases h s hI with ⟨s',h1,h2,h3⟩ | ⟨r,h1,h2⟩
   ·rw [h1]
    exact ih (μ s') (by omega) s' rfl h2
   ·rw [h1]
    exact ⟨r,rfl,h2⟩
 exact fun s hI=> key _ s rfl hI
theorem getI_at {A:Type} {l:List A} {i:Nat} (h:i < l.length):getI l (i:Int)=some l[i]:=by
 unfold getI
 rw [decide_eq_true (by omega),cond_true,Int.toNat_natCast,List.getElem?_eq_getElem h]
theorem wrapN {n:Nat} (h:n≤1000000):IntKind.i64.wrap ((n:Int) + 1)=((n + 1:Nat):Int):=by
 rw [IntWalk.i64_left,IntWalk.wrap64_in _ (by omega)]
 omega
theorem loop_list {A B:Type} {body:Int→Option (Int⊕B)} (l:List A) (P:Nat→Prop) (Q:B→Prop) (h0:P 0) (hin:∀i (_hi:i < l.length),P i→(body (i:Int)=some (.inl ((i + 1:Nat):Int))∧P (i + 1))∨∃r,body (i:Int)=some (.inr r)∧Q r) (hend:P l.length→∃r,body (l.length:Int)=some (.inr r)∧Q r):∃r,loopF body (0:Int)=some r∧Q r:=by
 refine loopF_total (fun s:Int=> ∃i:Nat,s=i∧i≤l.length∧P i) (fun s=> l.length - s.toNat) Q ?_ 0 ⟨0,rfl,by omega,h0⟩
 rintro s ⟨i,rfl,hi,hp⟩
 by_cases h:i < l.length
 ·rcases hin i h hp with ⟨h1,h2⟩ | h1
  ·exact Or.inl ⟨_,h1,⟨i + 1,rfl,by omega,h2⟩,by simp only [Int.toNat_natCast];omega⟩
  ·exact Or.inr h1
 ·have:i=l.length:=by omega
  subst this
  exact Or.inr (hend hp)
theorem contains_total (ts:List ByteArray) (v:ByteArray) (hl:ts.length≤1000000):∃r,slices_Contains_string_string ts v=some r:=by
 unfold slices_Contains_string_string slices_Index_string_string
 obtain ⟨r,hr,_⟩:=loop_list (body:=slices_Index_string_string_L1 ts v) ts (fun _=> True) (fun _=> True) trivial (fun i hi _=> by
  unfold slices_Index_string_string_L1
  rw [decide_eq_true (by omega),cond_true,getI_at hi,Option.bind_some]
  cases v.toList==ts[i].toList
  ·rw [cond_false,wrapN (by omega)]
   exact Or.inl ⟨rfl,trivial⟩
  ·exact Or.inr ⟨_,rfl,trivial⟩) (fun _=> by
  unfold slices_Index_string_string_L1
  rw [decide_eq_false (by omega),cond_false]
  exact ⟨_,rfl,trivial⟩)
 rcases r with u | x
 ·rw [seqF_inl hr]
  exact ⟨_,rfl⟩
 ·rw [seqF_inr hr]
  exact ⟨_,rfl⟩
def EndQ (R:Prop):Unit⊕Bool→Prop
 | .inl _=> R
 | .inr x=> x=false
theorem few_loop {A:Type} {body:Int→Option (Int⊕(Unit⊕Bool))} (l:List A) (P:A→Prop) (n:Nat)
  (h1:∀i (hi:i < l.length),i≤n→(body (i:Int)=some (.inl ((i + 1:Nat):Int))∧P l[i])∨body (i:Int)=some (.inr (.inr false))) (h2:∀i,(l.length≤i∨n < i)→body (i:Int)=some (.inr (.inl ()))):∃r,loopF body (0:Int)=some r∧EndQ (l.length≤n + 1→∀a∈l,P a) r:=by
 refine loop_list l (fun i=> ∀j (hj:j < l.length),j < i→P l[j]) (EndQ (l.length≤n + 1→∀a∈l,P a)) (fun j hj h=> absurd h (by omega)) (fun i hi hp=> ?_) (fun hp=> ?_)
 ·by_cases hn:i≤n
  ·rcases h1 i hi hn with ⟨e1,e2⟩ | e1
   ·refine Or.inl ⟨e1,fun j hj hji=> ?_⟩
    by_cases e:j=i
    ·subst e
     exact e2
    ·exact hp j hj (by omega)
   ·exact Or.inr ⟨_,e1,rfl⟩
  ·exact Or.inr ⟨_,h2 i (Or.inr (by omega)),fun h=> absurd h (by omega)⟩
 ·refine ⟨_,h2 l.length (Or.inl (Nat.le_refl _)),fun _ a ha=> ?_⟩
  obtain ⟨j,hj,rfl⟩:=List.mem_iff_getElem.1 ha
  exact hp j hj hj
theorem few38 (l:List linguaref38_Op):∃r,ref38_Few l 40=some r∧(r=true→l.length≤40∧∀o∈l,o.Text.size≤200):=by
 unfold ref38_Few
 obtain ⟨r,hr,hq⟩:=few_loop (body:=ref38_Few_L1 l 40) l (fun o=> o.Text.size≤200) 40 (fun i hi hn=> by
  unfold ref38_Few_L1
  rw [decide_eq_true (by omega),cond_true,decide_eq_true (by omega),cond_true,getI_at hi,Option.bind_some]
  by_cases h200:(200:Int) < (l[i].Text.size:Int)
  ·rw [decide_eq_true h200]
   exact Or.inr rfl
  ·rw [decide_eq_false h200,cond_false,wrapN (by omega)]
   exact Or.inl ⟨rfl,by omega⟩) (fun i hi=> by
  unfold ref38_Few_L1
  by_cases h:i < l.length
  ·rw [decide_eq_true (by omega),cond_true,decide_eq_false (by omega)]
   rfl
  ·rw [decide_eq_false (by omega)]
   rfl)
 cases r with
 | inl u=>
  rw [seqF_inl hr]
  refine ⟨_,rfl,fun h=> ?_⟩
  have hle:l.length≤40:=by
   have:=of_decide_eq_true h
   omega
  exact ⟨hle,hq (by omega)⟩
 | inr x=>
  rw [seqF_inr hr]
  refine ⟨_,rfl,fun h=> ?_⟩
  rw [show x=false from hq] at h
  cases h
theorem few39 (l:List api_Change) (from_:ByteArray):∃r,ref39_Few l from_ []=some r∧(r=true→l.length≤12∧from_.size≤20∧∀c∈l,c.From.size≤20∧c.To.size≤20):=by
 unfold ref39_Few
 obtain ⟨r,hr,hq⟩:=few_loop (body:=ref39_Few_L1 l) l (fun c=> c.From.size≤20∧c.To.size≤20) 12 (fun i hi hn=> by
  unfold ref39_Few_L1
  rw [decide_eq_true (by omega),cond_true,decide_eq_true (by omega),cond_true,getI_at hi,Option.bind_some]
  by_cases h1:(20:Int) < (l[i].From.size:Int)
  ·rw [decide_eq_true h1]
   exact Or.inr rfl
  ·rw [decide_eq_false h1,cond_false]
   by_cases h2:(20:Int) < (l[i].To.size:Int)
   ·rw [decide_eq_true h2]
    exact Or.inr rfl
   ·rw [decide_eq_false h2,cond_false,wrapN (by omega)]
    exact Or.inl ⟨rfl,by omega,by omega⟩) (fun i hi=> by
  unfold ref39_Few_L1
  by_cases h:i < l.length
  ·rw [decide_eq_true (by omega),cond_true,decide_eq_false (by omega)]
   rfl
  ·rw [decide_eq_false (by omega)]
   rfl)
 have hr2:loopF (ref39_Few_L2 []) (0:Int)=some (.inl ()):=by
  rw [loopF_eq]
  rfl
 cases r with
 | inl u=>
  rw [seqF_inl hr,seqF_inl hr2]
  by_cases h12:(l.length:Int)≤12
  ·rw [decide_eq_true h12]
   refine ⟨_,rfl,fun h=> ?_⟩
   have h3:(from_.size:Int)≤20:=of_decide_eq_true h
   exact ⟨by omega,by omega,hq (by omega)⟩
  ·rw [decide_eq_false h12]
   exact ⟨false,rfl,fun h=> by cases h⟩
 | inr x=>
  rw [seqF_inr hr]
  refine ⟨_,rfl,fun h=> ?_⟩
  rw [show x=false from hq] at h
  cases h
theorem few13 (p:api_Profile):∃r,ref13_Few p=some r∧(r=true→p.Types.length≤12∧∀t∈p.Types,t.size≤60):=by
 unfold ref13_Few
 obtain ⟨r,hr,hq⟩:=few_loop (body:=ref13_Few_L1 p) p.Types (fun t=> t.size≤60) 12 (fun i hi hn=> by
  unfold ref13_Few_L1
  rw [decide_eq_true (by omega),cond_true,decide_eq_true (by omega),cond_true,getI_at hi,Option.bind_some]
  by_cases h1:(60:Int) < (p.Types[i].size:Int)
  ·rw [decide_eq_true h1]
   exact Or.inr rfl
  ·rw [decide_eq_false h1,cond_false,wrapN (by omega)]
   exact Or.inl ⟨rfl,by omega⟩) (fun i hi=> by
  unfold ref13_Few_L1
  by_cases h:i < p.Types.length
  ·rw [decide_eq_true (by omega),cond_true,decide_eq_false (by omega)]
   rfl
  ·rw [decide_eq_false (by omega)]
   rfl)
 cases r with
 | inl u=>
  rw [seqF_inl hr]
  by_cases h12:(p.Types.length:Int)≤12
  ·rw [decide_eq_true h12]
   exact ⟨_,rfl,fun h=> ⟨by omega,hq (by omega)⟩⟩
  ·rw [decide_eq_false h12]
   exact ⟨false,rfl,fun h=> by cases h⟩
 | inr x=>
  rw [seqF_inr hr]
  refine ⟨_,rfl,fun h=> ?_⟩
  rw [show x=false from hq] at h
  cases h
theorem fits_total (p:api_Profile) (k:ByteArray) (n:Int) (hl:p.Types.length≤1000000):∃r,convert_Fits p k n=some r∧(r=true→0 < p.Files∧n≤p.Bytes):=by
 unfold convert_Fits
 by_cases h0:(0:Int) < p.Files
 ·rw [decide_eq_true h0,cond_true]
  obtain ⟨y,hy⟩:=contains_total p.Types k hl
  rw [hy,Option.bind_some]
  cases y
  ·exact ⟨false,rfl,fun h=> by cases h⟩
  ·rw [cond_true]
   by_cases h1:(0:Int)≤n
   ·rw [decide_eq_true h1,cond_true]
    exact ⟨_,rfl,fun h=> ⟨h0,of_decide_eq_true h⟩⟩
   ·rw [decide_eq_false h1]
    exact ⟨false,rfl,fun h=> by cases h⟩
 ·rw [decide_eq_false h0]
  exact ⟨false,rfl,fun h=> by cases h⟩
theorem lead_total (cs:List api_Change) (from_:ByteArray) (way:List Int) (n:Int) (hl:way.length≤1000000):∃r,ref39_Lead cs from_ way n=some r:=by
 unfold ref39_Lead
 obtain ⟨r,hr,_⟩:=loopF_total (body:=ref39_Lead_L1 way cs n) (fun s=> ∃i:Nat,s.2=i∧i≤way.length) (fun s=> way.length - s.2.toNat) (fun _=> True) (by
  rintro ⟨f,s⟩ ⟨i,h1,h2⟩
  have h1:s=(i:Int):=h1
  subst h1
  unfold ref39_Lead_L1
  dsimp only
  by_cases h:i < way.length
  ·rw [decide_eq_true (by omega),cond_true,getI_at h,Option.bind_some]
   by_cases h3:way[i] < 0
   ·rw [decide_eq_true h3]
    exact Or.inr ⟨_,rfl,trivial⟩
   ·rw [decide_eq_false h3,cond_false]
    by_cases h4:(cs.length:Int)≤way[i]
    ·rw [decide_eq_true h4]
     exact Or.inr ⟨_,rfl,trivial⟩
    ·rw [decide_eq_false h4,cond_false]
     obtain ⟨k,hk⟩:∃k:Nat,way[i]=k:=⟨way[i].toNat,by omega⟩
     rw [hk,getI_at (by omega),Option.bind_some]
     cases cs[k].From.toList==f.toList
     ·exact Or.inr ⟨_,rfl,trivial⟩
     ·rw [Bool.not_true,cond_false]
      by_cases h5:cs[k].Most < n
      ·rw [decide_eq_true h5]
       exact Or.inr ⟨_,rfl,trivial⟩
      ·rw [decide_eq_false h5,cond_false,wrapN (by omega)]
       exact Or.inl ⟨_,rfl,⟨i + 1,rfl,by omega⟩,by dsimp only;simp only [Int.toNat_natCast];omega⟩
  ·rw [decide_eq_false (by omega)]
   exact Or.inr ⟨_,rfl,trivial⟩) (from_,0) ⟨0,rfl,by omega⟩
 cases r with
 | inl b=>
  rw [seqF_inl hr]
  exact ⟨_,rfl⟩
 | inr b=>
  rw [seqF_inr hr]
  exact ⟨_,rfl⟩
theorem ints_same (a:List Int) (hl:a.length≤1000000):ref10_Ints a a=some true:=by
 unfold ref10_Ints
 obtain ⟨r,hr,hq⟩:=loop_list (body:=ref10_Ints_L1 a a) a (fun _=> True) (fun r=> r= .inl ()) trivial (fun i hi _=> by
  unfold ref10_Ints_L1
  rw [decide_eq_true (by omega),cond_true,getI_at hi,Option.bind_some,Option.bind_some]
  rw [show (a[i] !=a[i])=false by simp,cond_false,wrapN (by omega)]
  exact Or.inl ⟨rfl,trivial⟩) (fun _=> by
  unfold ref10_Ints_L1
  rw [decide_eq_false (by omega)]
  exact ⟨_,rfl,rfl⟩)
 subst hq
 rw [show ((a.length:Int) !=(a.length:Int))=false by simp,cond_false,seqF_inl hr]
end Go.Proofs.YtmgcnoigihdhpaaGreatDoor

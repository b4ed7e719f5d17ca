/-
  What audit.known holds while it runs: events as they came in, a row of numbers that grows, a row of maps.
  What an event knows, as the audit finds it; words for the walk of audit.known.
-/
import Derived.Test.YtiklglcjecopcaaGreatDoorQ20
import Derived.Test.YtiklglcjecopcaaGreatDoorQ19
namespace Go.Proofs.YtiklglcjecopcaaGreatDoor
open Go.RowKit Go.Maps Go.Shelf
theorem relD_slice {A:Nat→Prop} {w:World} {es:List (List D)} {v:Value} (h:RelD A w (.fz es) v):∃a n c,v= .slice a n c:=by
 cases h with
 | fz0 a c _=> exact ⟨_,_,_,rfl⟩
 | fz=> exact ⟨_,_,_,rfl⟩
theorem relD_v {A:Nat→Prop} {w:World} {x v:Value} (h:RelD A w (.v x) v):v=x:=by
 cases h
 rfl
theorem ev_slice {A:Nat→Prop} {w:World} {l:List api_Event} {v:Value} (h:RelD A w (.fz (l.map api_Event.enc)) v):∃a c,v= .slice a l.length c∧∀i,i < l.length→∃b o,a=some ⟨b,o,none⟩:=by
 generalize hes:l.map api_Event.enc=es at h
 cases h with
 | fz0 a c _=>
  have:l= []:=List.map_eq_nil_iff.1 hes
  subst this
  exact ⟨_,_,rfl,fun i hi=> absurd hi (by simp)⟩
 | fz _ b o sz c vs hs hb hcap hc hr=>
  have:es.length=l.length:=by rw [←hes,List.length_map]
  rw [this]
  exact ⟨_,_,rfl,fun i _=> ⟨b,o,rfl⟩⟩
structure EvRead (A:Nat→Prop) (w W:World) (b p:Nat) (e:api_Event) (cv fv:Value):Prop where
 lt:b < w.heap.size
 c0:W.cell? ⟨b,p,none⟩=some (.int .i64 e.Author)
 c1:W.cell? ⟨b,p + 1,none⟩=some (.int .i64 e.Seq)
 c2:W.cell? ⟨b,p + 2,none⟩=some cv
 c3:W.cell? ⟨b,p + 3,none⟩=some (.int .i64 e.Kind)
 c4:W.cell? ⟨b,p + 4,none⟩=some (.int .i64 e.Group)
 c5:W.cell? ⟨b,p + 5,none⟩=some (.int .i64 e.Target)
 c6:W.cell? ⟨b,p + 6,none⟩=some (.int .i64 e.Quote)
 c7:W.cell? ⟨b,p + 7,none⟩=some (.int .i64 e.Who)
 c8:W.cell? ⟨b,p + 8,none⟩=some (.int .i64 e.N)
 c9:W.cell? ⟨b,p + 9,none⟩=some (.string e.Text)
 c10:W.cell? ⟨b,p + 10,none⟩=some fv
 c11:W.cell? ⟨b,p + 11,none⟩=some (.int .i64 e.Step)
 ca:RelD A w (.fz (e.Causes.map (encI .i64))) cv
theorem ev_at {A:Nat→Prop} {w:World} (hA:∀b,A b→b < w.heap.size) {l:List api_Event} {b o n c:Nat} (h:RelD A w (.fz (l.map api_Event.enc)) (.slice (some ⟨b,o,none⟩) n c)) {i:Nat} {e:api_Event} (he:l[i]? =some e) {W:World} (hW:Below w.heap.size w W):
  ∃cA cN cC fA fN fC,EvRead A w W b (o + i * 12) e (.slice cA cN cC) (.slice fA fN fC):=by
 generalize hes:l.map api_Event.enc=es at h
 have hei:es[i]? =some (api_Event.enc e):=by rw [←hes,List.getElem?_map,he];rfl
 cases h with
 | fz0=> cases hei
 | fz _ _ _ sz _ vs hs hb hcap hc hr=>
  have hsz:sz=12:=by rw [←hs _ (List.mem_of_getElem? hei)];rfl
  subst hsz
  have hil:i < es.length:=(List.getElem?_eq_some_iff.1 hei).1
  have hlt:=hA b hb
  have cell:∀j,j < 12→W.cell? ⟨b,o + i * 12 + j,none⟩=some (vs (i * 12 + j)):=fun j hj=> by
   rw [hW.cell (p:=⟨b,o + i * 12 + j,none⟩) hlt,Nat.add_assoc]
   exact hc _ (by omega)
  have rel:∀j x,(api_Event.enc e)[j]? =some x→RelD A w x (vs (i * 12 + j)):=fun j x hx=> hr i j _ x hei hx
  have v:∀j x,(api_Event.enc e)[j]? =some (.v x)→j < 12→W.cell? ⟨b,o + i * 12 + j,none⟩=some x:=fun j x hx hj=> by rw [cell j hj,relD_v (rel j _ hx)]
  obtain ⟨fA,fN,fC,hf⟩:=relD_slice (rel 10 _ rfl)
  obtain ⟨cA,cN,cC,hc2⟩:=relD_slice (rel 2 _ rfl)
  refine ⟨cA,cN,cC,fA,fN,fC,hlt,v 0 _ rfl (by omega),v 1 _ rfl (by omega),?_,v 3 _ rfl (by omega),v 4 _ rfl (by omega),v 5 _ rfl (by omega),v 6 _ rfl (by omega),v 7 _ rfl (by omega),v 8 _ rfl (by omega),v 9 _ rfl (by omega),?_,v 11 _ rfl (by omega),?_⟩
  ·rw [cell 2 (by omega),hc2]
  ·rw [cell 10 (by omega),hf]
  ·have:=rel 2 _ rfl
   rw [hc2] at this
   exact this
theorem relD_below {A:Nat→Prop} {w W:World} (hA:∀b,A b→b < w.heap.size) {x:D} {v:Value} (h:RelD A w x v) (hW:Below w.heap.size w W):RelD A W x v:=h.mono (fun _ h=> h) fun b hb=> hW.block b (hA b hb)
def Ints (W:World) (v:Value) (xs:List Int) (b:Option Nat):Prop:=OwnAt (fun _=> False) W 1 (xs.map (encI .i64)) v b
theorem Ints.kept {W W':World} {v:Value} {xs:List Int} {b:Option Nat} (h:Ints W v xs b) (hb:∀g,b=some g→W'.heap[g]? =W.heap[g]?):Ints W' v xs b:=by
 obtain ⟨h1,h2⟩:=h
 refine ⟨h1,?_⟩
 rcases h2 with h2 | ⟨g,ty,cur,cap,e1,e2,e3,e4,e5,e6,e7⟩
 ·exact Or.inl h2
 ·refine Or.inr ⟨g,ty,cur,cap,e1,e2,(hb g e1).trans e3,e4,e5,e6,fun i j e x he hx=> ?_⟩
  obtain ⟨y,hy,hr⟩:=e7 i j e x he hx
  exact ⟨y,hy,hr.mono (fun _ h=> h) (fun _ h=> h.elim)⟩
theorem Ints.slice {W:World} {v:Value} {xs:List Int} {b:Option Nat} (h:Ints W v xs b):∃a c,v= .slice a xs.length c∧∀i x,xs[i]? =some x→∃g,a=some ⟨g,0,none⟩∧b=some g∧W.cell? ⟨g,i,none⟩=some (.int .i64 x):=by
 obtain ⟨h1,h2⟩:=h
 rcases h2 with ⟨_,hx,a,rfl⟩ | ⟨g,ty,cur,cap,e1,rfl,e3,e4,e5,e6,e7⟩
 ·have:xs= []:=List.map_eq_nil_iff.1 hx
  subst this
  exact ⟨a,0,rfl,fun i x h=> by simp at h⟩
 ·refine ⟨_,_,by rw [List.length_map],fun i x hx=> ⟨g,rfl,e1,?_⟩⟩
  obtain ⟨y,hy,hr⟩:=e7 i 0 (encI .i64 x) _ (by rw [List.getElem?_map,hx];rfl) rfl
  rw [Nat.mul_one,Nat.add_zero] at hy
  rw [cell_of_row _ _ _ cur ty (0,0) e3,hy,relD_v hr]
theorem info3:(Tryz.prog.info? 3).map (fun i=> (i.zero,i.size,i.bytes))=some (some (.int .i64 0),1,8):=by kernel_rfl
set_option maxRecDepth 100000 in
theorem Ints.append {W:World} {v:Value} {xs:List Int} {b:Option Nat} (h:Ints W v xs b) {ys:List Int} (hy:0 < ys.length) (hn:xs.length + ys.length≤1000000) {ad:Addr} {c:Nat} (hc:∀j y,ys[j]? =some y→W.cell? (ad.add j)=some (.int .i64 y)):
  ∃v' W' b',(∀ty,(Builtin.append_ #[44,44] ty #[v,.slice (some ad) ys.length c]).run Tryz.prog W= .ok v' W')∧Ints W' v' (xs ++ ys) b'∧W'.os=W.os∧W'.tape=W.tape∧W'.output=W.output∧W.heap.size≤W'.heap.size∧
   (∀k,k < W.heap.size→b≠some k→W'.heap[k]? =W.heap[k]?)∧∃g,b'=some g∧(b=some g∨W.heap.size≤g)∧g < W'.heap.size:=by
 obtain ⟨it,hi,hz,hsz,hby⟩:=info_parts info3
 obtain ⟨h1,h2⟩:=h
 have hnews:∀(j:Nat) (u:Value),(ys.map (Value.int .i64))[j]? =some u→W.cell? (ad.add j)=some u:=fun j u hu=> by
  rw [List.getElem?_map] at hu
  cases hq:ys[j]? with
  | none=> rw [hq] at hu;cases hu
  | some y=>
   rw [hq] at hu
   injection hu with hu
   rw [←hu]
   exact hc j y hq
 have h1':∀e∈(xs ++ ys).map (encI .i64),e.length=1:=fun e he=> by
  obtain ⟨x,_,rfl⟩:=List.mem_map.1 he
  rfl
 have hlen:∀zs:List Int,(zs.map (encI .i64)).length=zs.length:=fun zs=> List.length_map ..
 have cellAt:∀(cur:Array Value),(∀(i:Nat) (x:Int),(xs ++ ys)[i]? =some x→cur[i]? =some (Value.int .i64 x))→∀(W':World) (i j:Nat) (e:List D) (x:D),((xs ++ ys).map (encI .i64))[i]? =some e→e[j]? =some x→∃u,cur[i * 1 + j]? =some u∧RelD (fun _=> False) W' x u:=by
  intro cur hcur W' i j e x he hx
  rw [List.getElem?_map] at he
  cases hq:(xs ++ ys)[i]? with
  | none=> rw [hq] at he;cases he
  | some z=>
   rw [hq] at he
   injection he with he
   subst he
   match j,hx with
   | 0,hx=>
    injection hx with hx
    subst hx
    exact ⟨_,by rw [Nat.mul_one,Nat.add_zero];exact hcur i z hq,.v _ rfl⟩
 have grow:∀(base:Option Addr) (cap:Nat),(base=none→xs.length=0∧cap=0)→(∀a,base=some a→∀(j:Nat) (u:Value),(xs.map (Value.int .i64))[j]? =some u→W.cell? (a.add j)=some u)→cap < xs.length + ys.length→v= .slice base xs.length cap→
   ∃v' W' b',(∀ty,(Builtin.append_ #[44,44] ty #[v,.slice (some ad) ys.length c]).run Tryz.prog W= .ok v' W')∧Ints W' v' (xs ++ ys) b'∧W'.os=W.os∧W'.tape=W.tape∧W'.output=W.output∧W.heap.size≤W'.heap.size∧
    (∀k,k < W.heap.size→b≠some k→W'.heap[k]? =W.heap[k]?)∧∃g,b'=some g∧(b=some g∨W.heap.size≤g)∧g < W'.heap.size:=by
  intro base cap hb0 hold hg hv
  subst hv
  have hge:=grownCap_ge W (xs.length + ys.length) cap 3
  refine ⟨_,_,some W.heap.size,fun ty=> run_app_grow (P:=Tryz.prog) W Tryz.underlying44 hi hz (olds:=xs.map (Value.int .i64)) (by rw [List.length_map,hsz,Nat.mul_one]) hb0 hold (ad:=ad) (k:=ys.length) (c:=c) (news:=ys.map (Value.int .i64)) (by rw [List.length_map,hsz,Nat.mul_one]) hnews hg hy (by rw [hby];omega) (by omega),⟨h1',Or.inr ⟨W.heap.size,_,_,_,rfl,by rw [hlen,List.length_append],heap_alloc_new W.drew _,by rw [hlen,List.length_append];exact hge,grownCap_le_maxLen W _ cap 3 (by simp only [maxLen];omega),?_,cellAt _ (fun i x hx=> ?_) _⟩⟩,rfl,rfl,rfl,by simp,fun k hk _=> Below.heap_alloc W.drew _ k hk,W.heap.size,rfl,Or.inr (Nat.le_refl _),by simp⟩
  ·simp only [Array.size_append,List.size_toArray,size_zeroCells,List.length_map]
   show xs.length + ys.length + (grownCap W (xs.length + ys.length) cap 3 - (xs.length + ys.length)) * 1=_
   omega
  ·have hlt:=(List.getElem?_eq_some_iff.1 hx).1
   rw [List.length_append] at hlt
   rw [Array.getElem?_append_left (by simp;omega)]
   rw [List.append_toArray,←List.map_append,List.getElem?_toArray]
   rw [List.getElem?_map,hx]
   rfl
 rcases h2 with ⟨rfl,hx,a,rfl⟩ | ⟨g,ty,cur,cap,rfl,rfl,hg,hc1,hc2,hcs,ht⟩
 ·have:xs= []:=List.map_eq_nil_iff.1 hx
  subst this
  exact grow a 0 (fun _=> ⟨rfl,rfl⟩) (fun a _ j u hu=> by simp at hu) (by simpa using hy) rfl
 ·rw [hlen] at hc1
  have hcur:∀(i:Nat) (x:Int),xs[i]? =some x→cur[i]? =some (Value.int .i64 x):=fun i x hx=> by
   obtain ⟨y,hy,hr⟩:=ht i 0 (encI .i64 x) _ (by rw [List.getElem?_map,hx];rfl) rfl
   rw [Nat.mul_one,Nat.add_zero] at hy
   rw [hy,relD_v hr]
  have hold:∀(j:Nat) (u:Value),(xs.map (Value.int .i64))[j]? =some u→W.cell? ((⟨g,0,none⟩:Addr).add j)=some u:=fun j u hj=> by
   rw [List.getElem?_map] at hj
   cases hq:xs[j]? with
   | none=> rw [hq] at hj;cases hj
   | some x=>
    rw [hq] at hj
    injection hj with hj
    rw [add_eq,Nat.zero_add,cell_of_row _ _ _ cur ty (0,0) hg,hcur j x hq,←hj]
  by_cases hroom:xs.length + ys.length≤cap
  ·have hfit:xs.length * it.size + (ys.map (Value.int .i64)).length≤cur.size:=by
    rw [hsz,hcs,List.length_map]
    omega
   have hs:=setRow_heap W g cur (over cur.toList (xs.length * it.size) (ys.map (Value.int .i64))).toArray ty (0,0) hg
   refine ⟨_,_,some g,fun tt=> by rw [hlen];exact run_app_room (P:=Tryz.prog) W Tryz.underlying44 hi hg (news:=ys.map (Value.int .i64)) (k:=ys.length) (by rw [List.length_map,hsz,Nat.mul_one]) hnews (fun u hu=> by obtain ⟨z,_,rfl⟩:=List.mem_map.1 hu;rfl) hroom hfit,⟨h1',Or.inr ⟨g,ty,_,cap,rfl,by rw [hlen,List.length_append],hs,by rw [hlen,List.length_append];exact hroom,hc2,?_,cellAt _ (fun i x hx=> ?_) _⟩⟩,rfl,rfl,rfl,(grown_setRow W g _).size,fun k _ hk=> (grown_setRow W g _).block k ‹_› (fun e=> hk e.symm),g,rfl,Or.inl rfl,?_⟩
   ·unfold over
    simp only [List.size_toArray,List.length_append,List.length_take,List.length_drop,Array.length_toList,List.length_map,hsz]
    omega
   ·unfold over
    rw [hsz,Nat.mul_one,List.getElem?_toArray]
    by_cases hix:i < xs.length
    ·rw [List.append_assoc,List.getElem?_append_left (by simp;omega),List.getElem?_take_of_lt hix]
     rw [List.getElem?_append_left hix] at hx
     simpa using hcur i x hx
    ·rw [List.getElem?_append_right (by omega)] at hx
     have hiy:=(List.getElem?_eq_some_iff.1 hx).1
     have e:(cur.toList.take xs.length).length=xs.length:=by simp;omega
     rw [List.append_assoc,List.getElem?_append_right (by omega),e,List.getElem?_append_left (by simpa using hiy),List.getElem?_map,hx]
     rfl
   ·have:=(grown_setRow W g (over cur.toList (xs.length * it.size) (ys.map (Value.int .i64))).toArray).size
    have h3:=lt_of_block hg
    omega
  ·exact grow (some ⟨g,0,none⟩) cap (fun h=> by cases h) (fun a ha=> by injection ha with ha;subst ha;exact hold) (by omega) (by rw [hlen])
theorem clone_any {A:Nat→Prop} {W:World} {fl:List Int} {v:Value} (hI:Inv W) (hA:∀b,A b→b < W.heap.size) (h:RelD A W (.fz (fl.map (encI .i64))) v) (hl:fl.length≤1000000):
  Calls Tryz.prog 71 #[v] W fun r W'=> ∃x b,r= .returned x∧Below W.heap.size W W'∧Ints W' x fl b∧∀c,b=some c→W.heap.size≤c∧c < W'.heap.size:=by
 have hc:slices_Clone_int_int fl=some fl:=by simp [slices_Clone_int_int,chkO,hl]
 refine ((slices_Clone_int_int_fn (dr:=False) hc).2 W A #[v] hI hA ⟨rfl,fun j c u hc hu=> by
  match j,hc,hu with
  | 0,hc,hu=>
   injection hc with hc
   injection hu with hu
   subst hc hu
   exact .d h⟩).mono ?_
 rintro r W' ⟨v',S',bs,rfl,hb,_,hres,_,hbs⟩
 obtain ⟨b,rfl,ho⟩:=hres
 have ho:OwnAt S' W' 1 (fl.map (encI .i64)) v' b:=ho
 refine ⟨v',b,rfl,hb.toBelow,?_,fun c hc=> by
  have:=hbs c (by rw [hc];exact .head _)
  exact ⟨this.1,this.2.1⟩⟩
 obtain ⟨h1,h2⟩:=ho
 refine ⟨h1,?_⟩
 rcases h2 with h2 | ⟨g,ty,cur,cap,e1,e2,e3,e4,e5,e6,e7⟩
 ·exact Or.inl h2
 ·refine Or.inr ⟨g,ty,cur,cap,e1,e2,e3,e4,e5,e6,fun i j e x he hx=> ?_⟩
  obtain ⟨y,hy,hr⟩:=e7 i j e x he hx
  rw [List.getElem?_map] at he
  cases hq:fl[i]? with
  | none=> rw [hq] at he;cases he
  | some z=>
   rw [hq] at he
   injection he with he
   subst he
   match j,hx with
   | 0,hx=>
    injection hx with hx
    subst hx
    exact ⟨y,hy,by rw [relD_v hr];exact .v _ rfl⟩
structure MRow (w:World) (n g lb B:Nat) (Ms:List Nat) (Ss:Nat→Int→Prop) (Ns:Nat→Nat) (f:Int→Option Int) (nf:Nat) (W:World):Prop where
 below:Below w.heap.size w W
 row:∃cur T,W.heap[g]? =some (.cells cur T (0,0))∧cur.size=n∧∀(j m:Nat),Ms[j]? =some m→cur[j]? =some (Value.map (some m))
 sets:∀j m,Ms[j]? =some m→SetAt W m (Ns j) (Ss j)
 tab:TabAt 3 (Lit.int .i64) inI W lb nf f
 ge:w.heap.size≤g∧w.heap.size≤lb∧g < B∧lb < B∧g≠lb∧B≤W.heap.size
 ms:∀m∈Ms,w.heap.size≤m∧m < B∧m≠g∧m≠lb
 nd:Ms.Nodup
section
variable {w : World} {n g lb B : Nat} {Ms : List Nat} {Ss : Nat → Int → Prop} {Ns : Nat → Nat} {f : Int → Option Int} {nf : Nat} {W : World}
theorem MRow.next (h:MRow w n g lb B Ms Ss Ns f nf W) {W':World} (hb:Below B W W') (hsz:W.heap.size≤W'.heap.size):MRow w n g lb B Ms Ss Ns f nf W':=by
 obtain ⟨g1,g2,g3,g4,g5,g6⟩:=h.ge
 obtain ⟨cur,T,hh,hc⟩:=h.row
 exact ⟨h.below.trans (hb.mono (by omega)),⟨cur,T,(hb.block g g3).trans hh,hc⟩,fun j m hj=> (h.sets j m hj).of_block (hb.block m (h.ms m (List.mem_of_getElem? hj)).2.1),h.tab.of_block (hb.block lb g4),⟨g1,g2,g3,g4,g5,by omega⟩,h.ms,h.nd⟩
theorem MRow.next' (h:MRow w n g lb B Ms Ss Ns f nf W) {W':World} (hb:Below W.heap.size W W'):MRow w n g lb B Ms Ss Ns f nf W':=h.next (hb.mono h.ge.2.2.2.2.2) hb.size
theorem MRow.congr (h:MRow w n g lb B Ms Ss Ns f nf W) {Ss':Nat→Int→Prop} {Ns':Nat→Nat} (hS:∀j m,Ms[j]? =some m→SetAt W m (Ns' j) (Ss' j)):MRow w n g lb B Ms Ss' Ns' f nf W:=⟨h.below,h.row,hS,h.tab,h.ge,h.ms,h.nd⟩
theorem MRow.cell (h:MRow w n g lb B Ms Ss Ns f nf W) {j m:Nat} (hj:Ms[j]? =some m):W.cell? ⟨g,j,none⟩=some (.map (some m)):=by
 obtain ⟨cur,T,hh,_,hc⟩:=h.row
 rw [cell_of_row _ _ _ cur T (0,0) hh]
 exact hc j m hj
theorem MRow.push (h:MRow w n g lb B Ms Ss Ns f nf W) (hn:Ms.length < n):
  MRow w n g lb (W.heap.size + 1) (Ms ++ [W.heap.size]) (fun j=> if j=Ms.length then fun _=> False else Ss j) (fun j=> if j=Ms.length then 0 else Ns j) f nf ((W.alloc (.map #[] 0)).setCell ⟨g,Ms.length,none⟩ (.map (some W.heap.size))):=by
 obtain ⟨g1,g2,g3,g4,g5,g6⟩:=h.ge
 obtain ⟨cur,T,hh,hcz,hc⟩:=h.row
 have hh':(W.alloc (.map #[] 0)).heap[g]? =some (.cells cur T (0,0)):=(Below.heap_alloc W _ g (by omega)).trans hh
 have hset:(W.alloc (.map #[] 0)).setCell ⟨g,Ms.length,none⟩ (.map (some W.heap.size))=(W.alloc (.map #[] 0)).setRow g (cur.setIfInBounds Ms.length (.map (some W.heap.size))):=by
  simp only [World.setCell,World.setRow]
  congr 1
  apply Array.ext_getElem?
  intro i
  rw [Array.getElem?_modify,Array.getElem?_modify]
  by_cases hi:g=i
  ·subst hi
   rw [if_pos rfl,if_pos rfl,hh']
   rfl
  ·rw [if_neg hi,if_neg hi]
 rw [hset]
 have hg:=grown_setRow (W.alloc (.map #[] 0)) g (cur.setIfInBounds Ms.length (.map (some W.heap.size)))
 have hsz:((W.alloc (.map #[] 0)).setRow g (cur.setIfInBounds Ms.length (.map (some W.heap.size)))).heap.size=W.heap.size + 1:=by simp [World.setRow]
 have blk:∀k,k < W.heap.size→k≠g→((W.alloc (.map #[] 0)).setRow g (cur.setIfInBounds Ms.length (.map (some W.heap.size)))).heap[k]? =W.heap[k]? :=fun k hk hne=> (hg.block k (by simp;omega) (fun e=> hne (by injection e))).trans (Below.heap_alloc W _ k hk)
 have hmm:∀j m,(Ms ++ [W.heap.size])[j]? =some m→(Ms[j]? =some m∧j < Ms.length)∨(j=Ms.length∧m=W.heap.size):=fun j m hj=> by
  by_cases hlt:j < Ms.length
  ·rw [List.getElem?_append_left hlt] at hj
   exact Or.inl ⟨hj,hlt⟩
  ·rw [List.getElem?_append_right (by omega)] at hj
   have:j - Ms.length=0:=by
    have:=(List.getElem?_eq_some_iff.1 hj).1
    simp at this
    omega
   rw [this] at hj
   injection hj with hj
   exact Or.inr ⟨by omega,hj.symm⟩
 refine ⟨⟨hg.os.trans h.below.os,hg.tape.trans h.below.tape,hg.output.trans h.below.output,by have:=h.below.size;omega,fun k hk=> (blk k (by have:=h.below.size;omega) (by omega)).trans (h.below.block k hk)⟩,
  ⟨_,T,setRow_heap (W.alloc (.map #[] 0)) g cur _ T (0,0) hh',by simpa using hcz,fun j m hj=> ?_⟩,fun j m hj=> ?_,h.tab.of_block (blk lb (by omega) (by omega)),⟨g1,g2,by omega,by omega,g5,by omega⟩,fun m hm=> ?_,?_⟩
 ·rcases hmm j m hj with ⟨h1,h2⟩ | ⟨rfl,rfl⟩
  ·rw [Array.getElem?_setIfInBounds_ne (by omega)]
   exact hc j m h1
  ·rw [Array.getElem?_setIfInBounds_self_of_lt (by omega)]
 ·rcases hmm j m hj with ⟨h1,h2⟩ | ⟨rfl,rfl⟩
  ·have hm:=h.ms m (List.mem_of_getElem? h1)
   rw [if_neg (by omega),if_neg (by omega)]
   exact (h.sets j m h1).of_block (blk m (by omega) hm.2.2.1)
  ·rw [if_pos rfl,if_pos rfl]
   exact (SetAt.new W).of_block (hg.block _ (by simp) (fun e=> by injection e;omega))
 ·rcases List.mem_append.1 hm with hm | hm
  ·have:=h.ms m hm
   exact ⟨this.1,by omega,this.2.2⟩
  ·rw [List.mem_singleton.1 hm]
   have:=h.below.size
   exact ⟨this,by omega,by omega,by omega⟩
 ·refine List.nodup_append.2 ⟨h.nd,by simp,fun a ha b hb e=> ?_⟩
  rw [List.mem_singleton.1 hb] at e
  have:=(h.ms a ha).2.1
  omega
theorem MRow.note (h:MRow w n g lb B Ms Ss Ns f nf W) (hn:nf < maxLen) {a v:Int} (ha:inI a) (hv:inI v):
  ∃W',(Instr.mapUpdate 157 (.map (some lb)) (.int .i64 a) (.int .i64 v)).run Tryz.prog W= .ok () W'∧MRow w n g lb B Ms Ss Ns (fun b=> if b=a then some v else f b) (nf + 1) W'∧W.grownBy W' (some lb):=by
 obtain ⟨g1,g2,g3,g4,g5,g6⟩:=h.ge
 obtain ⟨W',hrun,ht,hg⟩:=h.tab.put keyInt Tryz.underlying157 hn ha hv
 obtain ⟨cur,T,hh,hc⟩:=h.row
 have blk:∀k,k < W.heap.size→k≠lb→W'.heap[k]? =W.heap[k]? :=fun k hk hne=> hg.block k hk (fun e=> hne (by injection e))
 exact ⟨W',hrun,⟨h.below.grown hg h.below.size (fun k e=> by injection e with e;omega),⟨cur,T,(blk g (by omega) g5).trans hh,hc⟩,fun j m hj=> (h.sets j m hj).of_block (blk m (by have:=h.ms m (List.mem_of_getElem? hj);omega) (h.ms m (List.mem_of_getElem? hj)).2.2.2),ht,⟨g1,g2,g3,g4,g5,Nat.le_trans g6 hg.size⟩,h.ms,h.nd⟩,hg⟩
theorem MRow.turn (h:MRow w n g lb B Ms Ss Ns f nf W) {i m:Nat} (hi:Ms[i]? =some m) {W':World} {S:Int→Prop} {N:Nat} (hs:SetAt W' m N S) (hg:W.grownBy W' (some m)):MRow w n g lb B Ms (fun j=> if j=i then S else Ss j) (fun j=> if j=i then N else Ns j) f nf W':=by
 obtain ⟨g1,g2,g3,g4,g5,g6⟩:=h.ge
 obtain ⟨cur,T,hh,hc⟩:=h.row
 have hm:=h.ms m (List.mem_of_getElem? hi)
 have blk:∀k,k < W.heap.size→k≠m→W'.heap[k]? =W.heap[k]? :=fun k hk hne=> hg.block k hk (fun e=> hne (by injection e))
 refine ⟨h.below.grown hg h.below.size (fun k e=> by injection e with e;omega),⟨cur,T,(blk g (by omega) (fun e=> hm.2.2.1 e.symm)).trans hh,hc⟩,fun j m' hj=> ?_,h.tab.of_block (blk lb (by omega) (fun e=> hm.2.2.2 e.symm)),⟨g1,g2,g3,g4,g5,Nat.le_trans g6 hg.size⟩,h.ms,h.nd⟩
 by_cases hji:j=i
 ·subst hji
  rw [hi] at hj
  injection hj with hj
  subst hj
  rw [if_pos rfl,if_pos rfl]
  exact hs
 ·rw [if_neg hji,if_neg hji]
  have hne:m'≠m:=fun e=> by
   subst e
   exact hji ((List.getElem?_inj (List.getElem?_eq_some_iff.1 hj).1 h.nd).1 (hj.trans hi.symm))
  exact (h.sets j m' hj).of_block (blk m' (by have:=h.ms m' (List.mem_of_getElem? hj);omega) hne)
end
end Go.Proofs.YtiklglcjecopcaaGreatDoor
namespace Go.Proofs.YtiklglcjecopcaaGreatDoor
open Go.RowKit Go.Maps Go.Shelf
def Kn (l:List api_Event) (i j:Nat):Prop:=∃k:Nat,(k:Int)∈namesOf l i∧k < i∧Reach l k j
theorem Reach.le {l:List api_Event} {i j:Nat} (h:Reach l i j):j≤i:=by
 induction h with
 | self=> exact Nat.le_refl _
 | step _ _ h ih=> omega
theorem Reach.head {l:List api_Event} {i k j:Nat} (hk:(k:Int)∈namesOf l i) (hlt:k < i) (h:Reach l k j):Reach l i j:=by
 induction h with
 | self=> exact .step (.self i) hk hlt
 | step _ h1 h2 ih=> exact .step ih h1 h2
theorem Kn.lt {l:List api_Event} {i j:Nat} (h:Kn l i j):j < i:=by
 obtain ⟨k,_,h1,h2⟩:=h
 have:=h2.le
 omega
theorem reach_kn {l:List api_Event} {i j:Nat}:Reach l i j↔j=i∨Kn l i j:=by
 constructor
 ·intro h
  induction h with
  | self=> exact Or.inl rfl
  | @step k j h h1 h2 ih=>
   rcases ih with rfl | ⟨m,m1,m2,m3⟩
   ·exact Or.inr ⟨j,h1,h2,.self j⟩
   ·exact Or.inr ⟨m,m1,m2,.step m3 h1 h2⟩
 ·rintro (rfl | ⟨k,h1,h2,h3⟩)
  ·exact .self j
  ·exact h3.head h1 h2
def Sf (l:List api_Event) (i:Nat) (x:Int):Prop:=∃j:Nat,x=j∧Kn l i j
def St (l:List api_Event) (ns:List Int) (i t:Nat) (x:Int):Prop:=∃j:Nat,x=j∧∃k:Nat,(k:Int)∈ns.take t∧k < i∧Reach l k j
theorem St.lt {l:List api_Event} {ns:List Int} {i t:Nat} {x:Int} (h:St l ns i t x):0≤x∧x < (i:Int):=by
 obtain ⟨j,rfl,k,_,h1,h2⟩:=h
 have:=h2.le
 omega
theorem Sf.lt {l:List api_Event} {i:Nat} {x:Int} (h:Sf l i x):0≤x∧x < (i:Int):=by
 obtain ⟨j,rfl,h⟩:=h
 have:=h.lt
 omega
theorem St_zero {l:List api_Event} {ns:List Int} {i:Nat} (x:Int):¬St l ns i 0 x:=by
 rintro ⟨j,_,k,h,_⟩
 simp at h
theorem St_skip {l:List api_Event} {ns:List Int} {i t:Nat} {y:Int} (hy:ns[t]? =some y) (h:¬(0≤y∧y < (i:Int))) (x:Int):St l ns i (t + 1) x↔St l ns i t x:=by
 unfold St
 rw [List.take_add_one,hy]
 simp only [Option.toList_some,List.mem_append,List.mem_singleton]
 constructor
 ·rintro ⟨j,hj,k,(h1 | h1),h2,h3⟩
  ·exact ⟨j,hj,k,h1,h2,h3⟩
  ·exact absurd ⟨by omega,by omega⟩ h
 ·rintro ⟨j,hj,k,h1,h2,h3⟩
  exact ⟨j,hj,k,Or.inl h1,h2,h3⟩
theorem St_take {l:List api_Event} {ns:List Int} {i t k:Nat} (hy:ns[t]? =some (k:Int)) (h:k < i) (x:Int):St l ns i (t + 1) x↔(St l ns i t x∨x=(k:Int))∨Sf l k x:=by
 unfold St Sf
 rw [List.take_add_one,hy]
 simp only [Option.toList_some,List.mem_append,List.mem_singleton]
 constructor
 ·rintro ⟨j,hj,m,(h1 | h1),h2,h3⟩
  ·exact Or.inl (Or.inl ⟨j,hj,m,h1,h2,h3⟩)
  ·have:m=k:=by omega
   subst this
   rcases reach_kn.1 h3 with rfl | h3
   ·exact Or.inl (Or.inr hj)
   ·exact Or.inr ⟨j,hj,h3⟩
 ·rintro ((⟨j,hj,m,h1,h2,h3⟩ | rfl) | ⟨j,hj,h3⟩)
  ·exact ⟨j,hj,m,Or.inl h1,h2,h3⟩
  ·exact ⟨k,rfl,k,Or.inr rfl,h,.self k⟩
  ·exact ⟨j,hj,k,Or.inr rfl,h,reach_kn.2 (Or.inr h3)⟩
def lastF (l:List api_Event) (i:Nat) (a:Int):Option Int:=if 0≤lastOf l a i then some (lastOf l a i) else none
theorem lastF_succ {l:List api_Event} {i:Nat} {e:api_Event} (he:l[i]? =some e):lastF l (i + 1)=fun b=> if b=e.Author then some (i:Int) else lastF l i b:=by
 have hd:l.getD i default=e:=by rw [List.getD_eq_getElem?_getD,he];rfl
 funext b
 unfold lastF
 rw [show lastOf l b (i + 1)=(bif (l.getD i default).Author==b then (i:Int) else lastOf l b i) from rfl,hd]
 by_cases hb:b=e.Author
 ·subst hb
  simp
 ·have:(e.Author==b)=false:=by simpa using fun h=> hb h.symm
  rw [this,if_neg hb,cond_false]
theorem lastF_zero {l:List api_Event}:lastF l 0=fun _=> none:=by
 funext a
 simp [lastF,lastOf]
def namesB (l:List api_Event) (i:Nat) (e:api_Event):List Int:=(e.Causes ++ [e.Target,e.Quote]) ++ (match lastF l i e.Author with | some k=> [k] | none=> [])
theorem St_all {l:List api_Event} {i:Nat} {e:api_Event} (he:l[i]? =some e) (x:Int):St l (namesB l i e) i (namesB l i e).length x↔Sf l i x:=by
 have hd:l.getD i default=e:=by rw [List.getD_eq_getElem?_getD,he];rfl
 unfold St Sf Kn
 rw [List.take_length]
 have key:∀k:Nat,((k:Int)∈namesB l i e↔(k:Int)∈namesOf l i):=fun k=> by
  unfold namesB namesOf lastF
  rw [hd]
  by_cases h:0≤lastOf l e.Author i
  ·rw [if_pos h]
   simp [or_assoc]
  ·rw [if_neg h]
   have:(k:Int)≠lastOf l e.Author i:=by omega
   simp [this,or_assoc]
 constructor
 ·rintro ⟨j,hj,k,h1,h2⟩
  exact ⟨j,hj,k,(key k).1 h1,h2⟩
 ·rintro ⟨j,hj,k,h1,h2⟩
  exact ⟨j,hj,k,(key k).2 h1,h2⟩
end Go.Proofs.YtiklglcjecopcaaGreatDoor

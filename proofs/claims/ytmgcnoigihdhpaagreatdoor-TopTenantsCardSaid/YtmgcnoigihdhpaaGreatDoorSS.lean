/-
convert.Path: that it comes to its end, and hands back a row of numbers.
-/
import Derived.Test.YtmgcnoigihdhpaaGreatDoorQ17
namespace Go.Proofs.YtmgcnoigihdhpaaGreatDoor
open Go.RowKit Go.Maps Go.Shelf
theorem inv_below {w W:World} (hI:Inv w) (h:Below w.heap.size w W):Inv W:=hI.keep fun b hb=> h.block b (hI.lt hb)
theorem relD_below {A:Nat→Prop} {w W:World} (hA:∀b,A b→b < w.heap.size) {x:D} {v:Value} (h:RelD A w x v) (hW:Below w.heap.size w W):RelD A W x v:=h.mono (fun _ h=> h) fun b hb=> hW.block b (hA b hb)
theorem ch_slice {A:Nat→Prop} {w:World} (hA:∀b,A b→b < w.heap.size) {l:List api_Change} {v:Value} (h:RelD A w (.fz (l.map api_Change.enc)) v):∃a c,v= .slice a l.length c∧∀i x,l[i]? =some x→∃b o,a=some ⟨b,o,none⟩∧b < w.heap.size∧w.cell? ⟨b,o + i * 3,none⟩=some (.string x.From)∧w.cell? ⟨b,o + i * 3 + 1,none⟩=some (.string x.To)∧w.cell? ⟨b,o + i * 3 + 2,none⟩=some (.int .i64 x.Most):=by
 generalize hes:l.map api_Change.enc=es at h
 cases h with
 | fz0 a c _=>
  have:l= []:=List.map_eq_nil_iff.1 hes
  subst this
  exact ⟨_,_,rfl,fun i x hi=> by simp at hi⟩
 | fz _ b o sz c vs hs hb hcap hc hr=>
  have hlen:es.length=l.length:=by rw [←hes,List.length_map]
  rw [hlen]
  refine ⟨_,_,rfl,fun i x hx=> ⟨b,o,rfl,hA b hb,?_⟩⟩
  have hei:es[i]? =some (api_Change.enc x):=by rw [←hes,List.getElem?_map,hx];rfl
  have hil:i < es.length:=(List.getElem?_eq_some_iff.1 hei).1
  have hsz:sz=3:=by rw [←hs _ (List.mem_of_getElem? hei)];rfl
  subst hsz
  have v:∀j y,(api_Change.enc x)[j]? =some (.v y)→j < 3→w.cell? ⟨b,o + (i * 3 + j),none⟩=some y:=fun j y hy hj=> by
   rw [hc _ (by omega),relD_v (hr i j _ _ hei hy)]
  refine ⟨v 0 _ rfl (by omega),?_,?_⟩
  ·rw [Nat.add_assoc]
   exact v 1 _ rfl (by omega)
  ·rw [Nat.add_assoc]
   exact v 2 _ rfl (by omega)
theorem wp_insert {o:Oper} {a:Act} {w w':World} {K:Act→World→Prop} {Q:Exit→Act→World→Prop} (m s v:Operand) (ho:o.op= .insert 101 m s v) {mv sv vv:Value} (hm:a.eval m=mv) (hs:a.eval s=sv) (hv:a.eval v=vv) (h:(Instr.mapUpdate 101 mv sv vv).run Tryz.prog w= .ok () w') (hk:K (a.put o.dst undef) w'):o.wp Tryz.prog a w K Q:=by
 unfold Oper.wp execOp
 simp only [ho,hm,hs,hv,Sem.run_bind,h,Result.andThen_ok,Sem.run_pure]
 exact hk
structure PW (B:Nat) (w:World) (mb n:Nat) (D:DataW Value) (v:Value) (qs:List ByteArray) (W:World):Prop where
 below:Below B w W
 ways:WM B W mb n D
 queue:QAt B W v qs
 le:B≤W.heap.size
 has_:∀s∈qs,s.size≤20∧has D (.string s.data.toList)=true
 apart:∀k x,has D k=true→(∀z,D.atKey k z= .held x)→∀g,rowOf x=some g→g < W.heap.size∧rowOf v≠some g
theorem PW.next {B:Nat} {w W W':World} {mb n:Nat} {D:DataW Value} {v:Value} {qs:List ByteArray} (h:PW B w mb n D v qs W) (hb:Below W.heap.size W W'):PW B w mb n D v qs W':=
 ⟨h.below.trans (hb.mono h.le),h.ways.keep hb.size fun k _ hk=> hb.block k hk,h.queue.keep fun k _ hk=> hb.block k hk,Nat.le_trans h.le hb.size,h.has_,fun k x hk hx g hg=> ⟨Nat.lt_of_lt_of_le (h.apart k x hk hx g hg).1 hb.size,(h.apart k x hk hx g hg).2⟩⟩
def PathR (B:Nat) (w:World) (e:Ending) (W':World):Prop:=∃v xs bl ok,e= .returned (.tuple #[v,.bool ok])∧Below B w W'∧Ints W' v xs bl∧xs.length≤1000∧∀g,bl=some g→B≤g∧g < W'.heap.size
theorem e_look101 {o:Oper} {a:Act} {w:World} {x:Value} (m k:Operand) (ho:o.op= .lookup 101 m k false) {mv kk:Value} (hm:a.eval m=mv) (hk:a.eval k=kk) (h:(Instr.lookup 101 mv kk false).run Tryz.prog w= .ok x w):(execOp a.eval o).run Tryz.prog w= .ok (.value x) w:=by
 unfold execOp
 simp only [ho,hm,hk,Sem.run_bind,h,Result.andThen_ok,Sem.run_pure]
theorem wp_mput101 {o:Oper} {a:Act} {w w':World} {K:Act→World→Prop} {Q:Exit→Act→World→Prop} (m s v:Operand) (ho:o.op= .mapUpdate 101 m s v) {mv sv vv:Value} (hm:a.eval m=mv) (hs:a.eval s=sv) (hv:a.eval v=vv) (h:(Instr.mapUpdate 101 mv sv vv).run Tryz.prog w= .ok () w') (hk:K (a.put o.dst undef) w'):o.wp Tryz.prog a w K Q:=by
 unfold Oper.wp execOp
 simp only [ho,hm,hs,hv,Sem.run_bind,h,Result.andThen_ok,Sem.run_pure]
 exact hk
theorem QAt.keep_map {base mb:Nat} {W W':World} {v:Value} {qs:List ByteArray} (h:QAt base W v qs) {es:Array MapEntry} {cl:Nat} (hm:W.heap[mb]? =some (.map es cl)) (hg:W.grownBy W' (some mb)):QAt base W' v qs:=by
 obtain ⟨a,c,h1,h2,h3⟩:=h
 refine ⟨a,c,h1,h2,?_⟩
 rcases h3 with h3 | ⟨g,o,cur,e1,e2,e3,e4⟩
 ·exact Or.inl h3
 ·refine Or.inr ⟨g,o,cur,e1,e2,(hg.block g (Array.getElem?_eq_some_iff.1 e3).1 fun e=> ?_).trans e3,e4⟩
  rw [Option.some.inj e,hm] at e3
  cases e3
theorem PW.put {B:Nat} {w W:World} {mb n:Nat} {D:DataW Value} {v:Value} {qs:List ByteArray} (h:PW B w mb n D v qs W) (hn:n≤1000000) {s:ByteArray} (hs:s.size≤20) {x:Value} {xs:List Int} {bl:Option Nat} (hx:Ints W x xs bl) (hxl:xs.length≤n + 1) (hb:∀g,bl=some g→B≤g∧g < W.heap.size) (hap:∀g,rowOf x=some g→g < W.heap.size∧rowOf v≠some g):
  ∃W',(Instr.mapUpdate 101 (.map (some mb)) (.string s) x).run Tryz.prog W= .ok () W'∧PW B w mb (n + 1) (D.put (.string s.data.toList) (.held x)) v qs W'∧W.grownBy W' (some mb):=by
 obtain ⟨W',hrun,h1,hg⟩:=h.ways.put (by simp only [maxLen];omega) (s:=s) (by omega) hx hxl hb
 obtain ⟨es,cl,hm⟩:=h.ways.block
 refine ⟨W',hrun,⟨h.below.grown hg h.le fun k e=> by have:=Option.some.inj e;have:=h.ways.1;omega,h1,h.queue.keep_map hm hg,Nat.le_trans h.le hg.size,fun t ht=> ⟨(h.has_ t ht).1,?_⟩,fun k y hk hy=> ?_⟩,hg⟩
 ·by_cases e:t.data.toList=s.data.toList
  ·rw [e]
   exact has_put_same h.ways.2.1.isMap (litS (by omega)) _
  ·rw [has_put_other (fun e2=> e (Lit.string.inj e2))]
   exact (h.has_ t ht).2
 ·by_cases e:k= .string s.data.toList
  ·subst e
   have e2:=(hy (.map [])).symm.trans (atKey_put_same h.ways.2.1.isMap (litS (by omega)) _ _)
   rw [DataW.held.inj e2]
   exact fun g hg2=> ⟨Nat.lt_of_lt_of_le (hap g hg2).1 hg.size,(hap g hg2).2⟩
  ·rw [has_put_other e] at hk
   have h5:=h.apart k y hk fun z=> by rw [←hy z,atKey_put_other e]
   exact fun g hg2=> ⟨Nat.lt_of_lt_of_le (h5 g hg2).1 hg.size,(h5 g hg2).2⟩
theorem Ints.row {W:World} {v:Value} {xs:List Int} {b:Option Nat} (h:Ints W v xs b) {g:Nat} (hg:b=some g):rowOf v=some g:=by
 rcases h.2 with ⟨h1,_⟩ | ⟨g',ty,cur,cap,h1,rfl,_⟩
 ·rw [h1] at hg
  cases hg
 ·rw [h1] at hg
  exact hg
theorem PW.row_ne {B:Nat} {w W:World} {mb n:Nat} {D:DataW Value} {v:Value} {qs:List ByteArray} (h:PW B w mb n D v qs W) {c:Nat} (hc:W.heap.size≤c):rowOf v≠some c:=fun e=> by
 obtain ⟨cur,h2⟩:=h.queue.row e
 have h3:=(Array.getElem?_eq_some_iff.1 h2).1
 omega
theorem has_put_mono {D:DataW Value} (hm:IsMap D) {l:Lit} (hl:WideAt.IsKeyLit l) (v:DataW Value):∀k,has D k=true→has (D.put l v) k=true:=fun k hk=> by
 by_cases e:k=l
 ·rw [e]
  exact has_put_same hm hl v
 ·rw [has_put_other e]
  exact hk
theorem PW.push {B:Nat} {w W:World} {mb n:Nat} {D:DataW Value} {v:Value} {qs:List ByteArray} (h:PW B w mb n D v qs W) (hl:qs.length≤1000000) {s:ByteArray} (hs:s.size≤20∧has D (.string s.data.toList)=true) {ad:Addr} {cp:Nat} (hc:W.cell? ad=some (.string s)):
  ∃v' W',(∀ty,(Builtin.append_ #[24,24] ty #[v,.slice (some ad) 1 cp]).run Tryz.prog W= .ok v' W')∧PW B w mb n D v' (qs ++ [s]) W':=by
 obtain ⟨v',W',hrun,hq,o1,o2,o3,o4,g,hg,hr,hro,hk⟩:=h.queue.push h.le hl (cp:=cp) hc
 have hnm:mb≠g:=fun e=> by
  obtain ⟨es,cl,hm⟩:=h.ways.block
  rcases hro with h1 | h1
  ·obtain ⟨cur,h2⟩:=h.queue.row h1
   rw [←e,hm] at h2
   cases h2
  ·have:=(Array.getElem?_eq_some_iff.1 hm).1
   omega
 refine ⟨v',W',hrun,⟨h.below.trans ⟨o1,o2,o3,o4,fun k hkb=> hk k (Nat.lt_of_lt_of_le hkb h.le) (by omega)⟩,?_,hq,Nat.le_trans h.le o4,fun t ht=> ?_,fun k x hkx hx q hq1=> ?_⟩⟩
 ·obtain ⟨h0,⟨es,cl,h1,h2⟩,h3⟩:=h.ways
  refine ⟨h0,⟨es,cl,(hk mb (Array.getElem?_eq_some_iff.1 h1).1 hnm).trans h1,h2⟩,fun kl hkl=> ?_⟩
  obtain ⟨x,xs,bl,e1,e2,e3,e4⟩:=h3 kl hkl
  refine ⟨x,xs,bl,e1,e2.kept fun q hq=> hk q (e4 q hq).2 fun e=> ?_,e3,fun q hq=> ⟨(e4 q hq).1,Nat.lt_of_lt_of_le (e4 q hq).2 o4⟩⟩
  subst e
  rcases hro with h4 | h4
  ·exact (h.apart kl x hkl e1 q (e2.row hq)).2 h4
  ·have:=(e4 q hq).2
   omega
 ·rcases List.mem_append.1 ht with ht | ht
  ·exact h.has_ t ht
  ·rw [List.mem_singleton.1 ht]
   exact hs
 ·have h5:=h.apart k x hkx hx q hq1
  refine ⟨Nat.lt_of_lt_of_le h5.1 o4,fun hq2=> ?_⟩
  rw [hr] at hq2
  have e:=Option.some.inj hq2
  subst e
  rcases hro with h4 | h4
  ·exact h5.2 h4
  ·have:=h5.1
   omega
theorem ints_nil (W:World) (a:Option Addr):Ints W (.slice a 0 0) [] none:=⟨by simp,Or.inl ⟨rfl,rfl,a,rfl⟩⟩
theorem contains_any {A:Nat→Prop} {W:World} {ts:List ByteArray} {tv:Value} {s:ByteArray} {r:Bool} (hr:slices_Contains_string_string ts s=some r) (hI:Inv W) (hA:∀b,A b→b < W.heap.size) (h:RelD A W (.fz (ts.map encS)) tv):
  Calls Tryz.prog 24 #[tv,.string s] W fun e W'=> e= .returned (.bool r)∧Below W.heap.size W W':=by
 refine ((slices_Contains_string_string_fn (dr:=False) hr).2 W A #[tv,.string s] hI hA ⟨rfl,fun j c u hc hu=> by
  match j,hc,hu with
  | 0,hc,hu=>
   have hc:=Option.some.inj hc
   have hu:=Option.some.inj hu
   subst hc hu
   exact .d h
  | 1,hc,hu=>
   have hc:=Option.some.inj hc
   have hu:=Option.some.inj hu
   subst hc hu
   exact .d (.v _ rfl)⟩).mono ?_
 rintro e W' ⟨v',S',bs,rfl,hb,_,hres,_,_⟩
 obtain ⟨b,_,h1⟩:=hres
 have hrel:RelD S' W' (.v (.bool r)) v':=h1.1
 rw [relD_v hrel]
 exact ⟨rfl,hb.toBelow⟩
set_option maxRecDepth 100000 in
set_option maxHeartbeats 8000000 in
theorem path_walk (A:Nat→Prop) (w:World) (hI:Inv w) (hA:∀b,A b→b < w.heap.size) (l:List api_Change) (cv:Value) (hc:RelD A w (.fz (l.map api_Change.enc)) cv) (from_:ByteArray) (ts:List ByteArray) (tv:Value) (ht:RelD A w (.fz (ts.map encS)) tv) (bytes:Int) (hl:l.length≤12) (hf:from_.size≤20) (hto:∀c∈l,c.From.size≤20∧c.To.size≤20) (htl:ts.length≤1000000):
  Calls Tryz.prog 9 #[cv,.string from_,tv,.int .i64 bytes] w fun e W'=> PathR w.heap.size w e W':=by
 obtain ⟨ca,cc,rfl,hch⟩:=ch_slice hA hc
 have HCH:=Lib.hid hch
 have HI:=Lib.hid hI
 have HA:=Lib.hid hA
 have HT:=Lib.hid ht
 have HTO:=Lib.hid hto
 clear hch hI hA ht hc hto
 generalize hm:l.length=m at *
 have HM:=Lib.hid hm
 clear hm
 have hmm:= @run_makeMap Tryz.prog
 by_cases hb0:bytes < 0
 ·go_enter Tryz.func9,Tryz.ntmps9
  go_wp2_with fail
  go_ret2
  exact ⟨_,[],none,false,rfl,Below.refl _ _,ints_nil _ _,by simp,fun g h=> by cases h⟩
 ·go_enter Tryz.func9,Tryz.ntmps9
  have HW1:Hid (WM w.heap.size (w.alloc (.map #[] 0)) w.heap.size 0 (.map [])):=Lib.hid ⟨Nat.le_refl _,World.ownsMap_made _ _ _ _,fun kl h=> by cases h⟩
  go_upto_region 3 with fail
  refine wp_region_lit ?_
  (refine wpList_plain rfl fun K0 hK0=> ?_;go_simp;refine hK0 _ _ ?_;clear hK0 K0;try (simp only [Act.put,sA,sB,sC]))
  (refine rdT ?_;simp only [Act.put,sA,sB,sC])
  (refine wpList_plain rfl fun K0 hK0=> ?_;go_simp;refine hK0 _ _ ?_;clear hK0 K0;try (simp only [Act.put,sA,sB,sC]))
  have HW2:Hid (WM w.heap.size ((w.alloc (.map #[] 0)).alloc (.cells #[] 3)) w.heap.size 0 (.map [])):=Lib.hid (HW1.out.keep (by simp) fun k _ hk=> Below.heap_alloc _ _ k hk)
  have HB2:Hid (Below w.heap.size w ((w.alloc (.map #[] 0)).alloc (.cells #[] 3))):=Lib.hid ((below_alloc w _).trans ((below_alloc _ _).mono (by simp)))
  have HZ2:Hid (w.heap.size + 2≤((w.alloc (.map #[] 0)).alloc (.cells #[] 3)).heap.size):=Lib.hid (by simp)
  generalize (w.alloc (.map #[] 0)).alloc (.cells #[] 3)=W2 at HW2 HB2 HZ2 ⊢
  clear HW1
  obtain ⟨W3,hput,hwm,hg3⟩:=HW2.out.put (by simp only [maxLen];omega) (s:=from_) (by omega) (v:= .slice (some ⟨w.heap.size + 1,0,none⟩) 0 0) (ints_nil W2 _) (by simp) (fun g h=> by cases h)
  have HW3:=Lib.hid hwm
  have HB3:Hid (Below w.heap.size w W3):=Lib.hid (HB2.out.grown hg3 HB2.out.size fun k e=> by have:=Option.some.inj e;omega)
  have HZ3:Hid (w.heap.size + 2≤W3.heap.size):=Lib.hid (Nat.le_trans HZ2.out hg3.size)
  clear hwm hg3 HW2 HB2 HZ2
  refine wpList_plain rfl fun K0 hK0=> wp_insert (.tmp 24) (.tmp 25) (.tmp 26) rfl rfl rfl rfl hput (hK0 _ _ ?_)
  clear hK0 K0 hput
  (simp only [Act.put])
  (refine rdT ?_;simp only [Act.put,sA,sB,sC])
  (refine rdT ?_;simp only [Act.put,sA,sB,sC])
  refine wpList_nil ?_
  go_upto_region 4 with fail
  refine wp_region_lit ?_
  (refine rdT ?_;simp only [Act.put,sA,sB,sC])
  (refine wpList_plain rfl fun K0 hK0=> ?_;go_simp;refine hK0 _ _ ?_;clear hK0 K0;try (simp only [Act.put,sA,sB,sC]))
  (refine rdT ?_;simp only [Act.put,sA,sB,sC])
  refine wpList_nil ?_
  have HW4:Hid (WM w.heap.size (W3.alloc (.cells #[.string from_] 9)) w.heap.size 1 ((DataW.map []).put (.string from_.data.toList) (.held (.slice (some ⟨w.heap.size + 1,0,none⟩) 0 0)))):=Lib.hid (HW3.out.keep (by simp) fun k _ hk=> Below.heap_alloc _ _ k hk)
  have HB4:Hid (Below w.heap.size w (W3.alloc (.cells #[.string from_] 9))):=Lib.hid (HB3.out.alloc HB3.out.size _)
  have HQ4:Hid (QAt w.heap.size (W3.alloc (.cells #[.string from_] 9)) (.slice (some ⟨W3.heap.size,0,none⟩) 1 1) [from_]):=Lib.hid ⟨_,_,rfl,by simp only [maxLen];omega,Or.inr ⟨W3.heap.size,0,#[.string from_],rfl,HB3.out.size,heap_alloc_new W3 _,by simp,by simp,fun j s hs=> by
   match j,hs with
   | 0,hs=> rw [←Option.some.inj hs];rfl⟩⟩
  have HAP4:Hid (∀k x,has ((DataW.map []:DataW Value).put (.string from_.data.toList) (.held (.slice (some ⟨w.heap.size + 1,0,none⟩) 0 0))) k=true→(∀z,((DataW.map []:DataW Value).put (.string from_.data.toList) (.held (.slice (some ⟨w.heap.size + 1,0,none⟩) 0 0))).atKey k z= .held x)→∀g,rowOf x=some g→g < (W3.alloc (.cells #[.string from_] 9)).heap.size∧rowOf (.slice (some ⟨W3.heap.size,0,none⟩) 1 1)≠some g):=Lib.hid fun k x hk hx g hg=> by
   by_cases e:k= .string from_.data.toList
   ·subst e
    have e2:=(hx (.map [])).symm.trans (atKey_put_same ⟨[],rfl⟩ (litS (by omega)) _ _)
    rw [DataW.held.inj e2] at hg
    have e3:w.heap.size + 1=g:=Option.some.inj hg
    have:=HZ3.out
    refine ⟨by simp;omega,fun e4=> ?_⟩
    have e5:W3.heap.size=g:=Option.some.inj e4
    omega
   ·rw [has_put_other e] at hk
    cases hk
  generalize W3.alloc (.cells #[.string from_] 9)=W4 at HW4 HB4 HQ4 HAP4 ⊢
  generalize Value.slice (some ⟨W3.heap.size,0,none⟩) 1 1=qv at HQ4 HAP4 ⊢
  have HX:Hid (∃D4,PW w.heap.size w w.heap.size 1 D4 qv [from_] W4∧rem D4 (l.map fun c=> c.To.data.toList)≤m):=Lib.hid ⟨_,⟨HB4.out,HW4.out,HQ4.out,HB4.out.size,fun s hs=> by
   rw [List.mem_singleton.1 hs]
   exact ⟨hf,has_put_same ⟨[],rfl⟩ (litS (by omega)) _⟩,HAP4.out⟩,by
   refine Nat.le_trans (rem_len _ _) ?_
   rw [List.length_map,HM.out]
   exact Nat.le_refl _⟩
  obtain ⟨D4,hp4,hr4⟩:=HX.out
  have HP4:=Lib.hid hp4
  have HR4:=Lib.hid hr4
  clear hp4 hr4 HX
  clear HW4 HB4 HQ4 HW3 HB3 HAP4 HZ3
  generalize hB:w.heap.size=B at *
  have HBB:=Lib.hid hB
  clear hB
  go_wp2_with fail
  go_loopg [11] (m + 1) (fun q v W=> ∃(qs:List ByteArray) (n:Nat) (D:DataW Value),Hid (PW B w B n D v qs W)∧Hid (qs.length + rem D (l.map fun c=> c.To.data.toList)≤q∧n + rem D (l.map fun c=> c.To.data.toList)≤m + 1∧q≤m + 1))
  case atStart=> exact ⟨[from_],1,D4,HP4,Lib.hid ⟨by have:=HR4.out;simp;omega,by have:=HR4.out;omega,Nat.le_refl _⟩⟩
  case round=>
   obtain ⟨qs,n,D,HP,HG⟩:=hrel
   clear HP4 HR4
   cases qs with
   | nil=>
    obtain ⟨qa,qc,hq,_⟩:=HP.out.queue
    subst hq
    go_wp2_with fail
    go_ret2
    exact ⟨_,[],none,false,rfl,by rw [HBB.out];exact HP.out.below,ints_nil _ _,by simp,fun g h=> by cases h⟩
   | cons at_ qs=>
    obtain ⟨g,o,c,hq,hcell,hlen,hrow,hq2⟩:=HP.out.queue.head
    subst hq
    have HQ2:=Lib.hid hq2
    have HRO:=Lib.hid hrow
    clear hq2 hrow
    go_upto_region 8 with fail
    generalize Value.slice (if c=1 then some ⟨g,o,none⟩ else some ⟨g,o + 1,none⟩) qs.length (c - 1)=q2 at HQ2 HRO ⊢
    have HH:=Lib.hid (HP.out.has_ at_ (by simp))
    have HP2:Hid (PW B w B n D q2 qs wr):=Lib.hid ⟨HP.out.below,HP.out.ways,HQ2.out,HP.out.le,fun s hs=> HP.out.has_ s (by simp [hs]),fun k x hk hx g hg=> by rw [HRO.out];exact HP.out.apart k x hk hx g hg⟩
    have HG2:Hid (qs.length + rem D (l.map fun c=> c.To.data.toList) + 1≤gk∧n + rem D (l.map fun c=> c.To.data.toList)≤m + 1∧gk≤m + 1):=Lib.hid (by
     have:=HG.out
     rw [List.length_cons] at this
     omega)
    clear HP HQ2 HG HRO hcell hlen
    obtain ⟨r,hr⟩:=contains_total ts at_ htl
    have HCT:Hid (Calls Tryz.prog 24 #[tv,.string at_] wr fun e W'=> e= .returned (.bool r)∧Below wr.heap.size wr W'):=Lib.hid (contains_any hr (inv_below HI.out (by rw [HBB.out];exact HP2.out.below)) (fun b hb=> Nat.lt_of_lt_of_le (HA.out b hb) HP2.out.le) (relD_below (by rw [HBB.out];exact HA.out) HT.out (by rw [HBB.out];exact HP2.out.below)))
    clear hr
    cases r with
    | true=>
     go_upto_region 9 with (go_at_call 24;refine HCT.out.mono ?_;rintro r w5 ⟨rfl,hb5⟩;have HP5:=Lib.hid (HP2.out.next hb5);clear hb5)
     obtain ⟨v,xs,bl,hlk,hv,hxl,hbl⟩:=HP5.out.ways.look (s:=at_) (by have:=HH.out.1;omega) HH.out.2
     have HV:=Lib.hid hv
     have HXL:Hid (xs.length≤1000):=Lib.hid (by have:=HG2.out;omega)
     have HBL:=Lib.hid hbl
     clear hv hxl hbl
     go_wp2_with fail
     go_ret2
     exact ⟨v,xs,bl,true,rfl,by rw [HBB.out];exact HP5.out.below,HV.out,HXL.out,by rw [HBB.out];exact HBL.out⟩
    | false=>
     go_upto_region 10 with (go_at_call 24;refine HCT.out.mono ?_;rintro r w5 ⟨rfl,hb5⟩;have HP5:=Lib.hid (HP2.out.next hb5);clear hb5)
     clear HCT HP2
     go_wp2_with fail
     have HGK:Hid (∃G,G=gk):=Lib.hid ⟨_,rfl⟩
     obtain ⟨G,hG⟩:=HGK.out
     rw [←hG] at HG2
     go_loopg [11,46] m (fun q v y W=> ∃(i:Nat) (qs:List ByteArray) (n:Nat) (D:DataW Value),i + q=m∧y= .int .i64 i∧Hid (PW B w B n D v qs W)∧Hid (qs.length + rem D (l.map fun c=> c.To.data.toList) + 1≤G∧n + rem D (l.map fun c=> c.To.data.toList)≤m + 1∧G≤m + 1)∧Hid (at_.size≤20∧has D (.string at_.data.toList)=true))
     case atStart=> exact ⟨0,qs,n,D,by omega,rfl,HP5,HG2,HH⟩
     case round=>
      clear HP5 HG2 HH
      obtain ⟨i,qs,n,D,hi,rfl,HP,HG,HH⟩:=hrel
      by_cases hlt:i < m
      ·obtain ⟨x,hx⟩:∃x,l[i]? =some x:=⟨_,List.getElem?_eq_getElem (by rw [HM.out];exact hlt)⟩
       obtain ⟨cb,co,rfl,hcb,k0,k1,k2⟩:=HCH.out i x hx
       have HX:=Lib.hid (HTO.out x (List.mem_of_getElem? hx))
       have HXM:=Lib.hid (List.mem_of_getElem? hx)
       have e0:wr.cell? ⟨cb,co + i * 3,none⟩=some (.string x.From):=by rw [HP.out.below.cell (p:=⟨cb,co + i * 3,none⟩) hcb];exact k0
       have e1:wr.cell? ⟨cb,co + i * 3 + 1,none⟩=some (.string x.To):=by rw [HP.out.below.cell (p:=⟨cb,co + i * 3 + 1,none⟩) hcb];exact k1
       have e2:wr.cell? ⟨cb,co + i * 3 + 2,none⟩=some (.int .i64 x.Most):=by rw [HP.out.below.cell (p:=⟨cb,co + i * 3 + 2,none⟩) hcb];exact k2
       clear k0 k1 k2 hcb hx
       go_upto_region 13 with fail
       have HP1:=Lib.hid (HP.out.next (below_alloc wr (.cells #[.string x.From,.string x.To,.int .i64 x.Most] 93)))
       have hx3:=heap_alloc_new wr (.cells #[.string x.From,.string x.To,.int .i64 x.Most] 93)
       have f0:(wr.alloc (.cells #[.string x.From,.string x.To,.int .i64 x.Most] 93)).cell? ⟨wr.heap.size,0,none⟩=some (.string x.From):=by rw [cell_of_row _ _ _ _ 93 (0,0) hx3];rfl
       have f1:(wr.alloc (.cells #[.string x.From,.string x.To,.int .i64 x.Most] 93)).cell? ⟨wr.heap.size,1,none⟩=some (.string x.To):=by rw [cell_of_row _ _ _ _ 93 (0,0) hx3];rfl
       have f2:(wr.alloc (.cells #[.string x.From,.string x.To,.int .i64 x.Most] 93)).cell? ⟨wr.heap.size,2,none⟩=some (.int .i64 x.Most):=by rw [cell_of_row _ _ _ _ 93 (0,0) hx3];rfl
       have HEB:Hid (B < wr.heap.size):=Lib.hid (by
        obtain ⟨es,cl,hm⟩:=HP.out.ways.block
        exact (Array.getElem?_eq_some_iff.1 hm).1)
       clear hx3 e0 e1 e2 HP
       generalize wr.alloc (.cells #[.string x.From,.string x.To,.int .i64 x.Most] 93)=W1 at HP1 f0 f1 f2 ⊢
       generalize wr.heap.size=eb at f0 f1 f2 HEB ⊢
       have hi6:i < 1000000:=by omega
       go_upto_region 14 with fail
       ·go_roundg (gk - 1)
        case measure=> omega
        exact ⟨i + 1,qs,n,D,by omega,by rw [Int.natCast_add];rfl,HP1,HG,HH⟩
       ·obtain ⟨v0,hlk⟩:=HP1.out.ways.look_ok (s:=x.To) (by have:=HX.out.2;omega)
        cases hhas:has D (.string x.To.data.toList) with
        | true=>
         rw [hhas] at hlk
         clear hhas
         go_wp2_with fail
         go_roundg (gk - 1)
         case measure=> omega
         exact ⟨i + 1,qs,n,D,by omega,by rw [Int.natCast_add];rfl,HP1,HG,HH⟩
        | false=>
         rw [hhas] at hlk
         have HHAS:=Lib.hid hhas
         clear hhas
         go_upto_region 16 with fail
         clear hlk
         have HPD:=Lib.hid (HP1.out.next (below_drew0 (n:=1)))
         obtain ⟨vv,xs,bl,hat,hv,hxl,hbl⟩:=HPD.out.ways.has_at HH.out.2
         have HAT:=Lib.hid hat
         have HV:=Lib.hid hv
         have HXL:=Lib.hid hxl
         have HBL:=Lib.hid hbl
         have HS1:Hid (W1.drew.cell? ⟨eb,1,none⟩=some (.string x.To)∧(Instr.lookup 101 (.map (some B)) (.string at_) false).run Tryz.prog W1.drew= .ok vv W1.drew):=Lib.hid ⟨f1,HPD.out.ways.look_at (by have:=HH.out.1;omega) hat⟩
         have hebl:eb < W1.drew.heap.size:=World.block_lt_of_cell? W1.drew _ HS1.out.1
         have HEL:=Lib.hid hebl
         clear hat hv hxl hbl hebl f0 f2 HP1
         refine wp_region_held_drew (S:=fun W=> W.cell? ⟨eb,1,none⟩=some (.string x.To)∧(Instr.lookup 101 (.map (some B)) (.string at_) false).run Tryz.prog W= .ok vv W) (by kernel_rfl) ?_ (fun hHeld=> ?_)
         focus (exact HS1.out)
         refine wpAnyH_takes (by kernel_rfl) (fun d _ _ _ _ h=> by cases d <;> exact h) [0,1,2,3,4,5,7] 4 _ _ _ ?_ _ (by rfl) (by kernel_rfl) ?_ (by assumption) ?_
         rotate_left
         focus
          simp only [pick_lit,tA,tB,tC,tD]
          (refine twT ?_;try simp only [Act.put,sA,sC,sB])
          (refine twT ?_;try simp only [Act.put,sA,sC,sB])
          (refine twT ?_;try simp only [Act.put,sA,sC,sB])
          (refine twT ?_;try simp only [Act.put,sA,sC,sB])
          (refine twT ?_;try simp only [Act.put,sA,sC,sB])
          (refine Takes.want vv (by rfl) (fun w' hw'=> e_look101 (.tmp 73) (.tmp 74) rfl rfl rfl hw'.2) ?_;try simp only [Act.put,sA,sC,sB])
          (refine twT ?_;try simp only [Act.put,sA,sC,sB])
          exact Takes.done
         refine wpAnyH_two 6 8 (fuel:=3) (by kernel_rfl) (by rfl) (fun K hK=> ?_) (fun K hK=> ?_)
         ·simp only [pick_lit,tA,tB,tC,tD,AtOps]
          go_simp
          (go_at_call 25;refine (clone_any (inv_below HI.out (by rw [HBB.out];exact HPD.out.below)) (fun g hg=> (HBL.out g hg).2) HV.out.relD (by have:=HXL.out;have:=HG.out.2.1;omega)).mono ?_;rintro r W5 ⟨x5,b5,rfl,hb5,hin5,hbg5⟩;have HB5:=Lib.hid hb5;have HP5:=Lib.hid (HPD.out.next hb5);have HI5:=Lib.hid hin5;have HG5:=Lib.hid hbg5;clear hb5 hin5 hbg5)
          have HS5:Hid (W5.cell? ⟨eb,1,none⟩=some (.string x.To)∧(Instr.lookup 101 (.map (some B)) (.string at_) false).run Tryz.prog W5= .ok vv W5):=Lib.hid ⟨by rw [HB5.out.cell (p:=⟨eb,1,none⟩) HEL.out];exact HS1.out.1,HP5.out.ways.look_at (by have:=HH.out.1;omega) HAT.out⟩
          refine hK.out _ _ ?_ (fun hHeld=> ?_)
          focus (exact HS5.out)
          clear hK K
          try simp only [Act.put,sA,sC,sB]
          refine wpAnyH_one 8 (fuel:=2) (by kernel_rfl) (by rfl) (fun K hK=> ?_)
          simp only [pick_lit,tA,tB,tC,tD,AtOps]
          go_simp
          have HB6:Hid (Below W1.drew.heap.size W1.drew (W5.alloc (.cells #[.int .i64 (i:Int)] 3))):=Lib.hid (HB5.out.trans ((below_alloc W5 (.cells #[.int .i64 (i:Int)] 3)).mono HB5.out.size))
          have HP6:=Lib.hid (HP5.out.next (below_alloc W5 (.cells #[.int .i64 (i:Int)] 3)))
          have HS6:Hid ((W5.alloc (.cells #[.int .i64 (i:Int)] 3)).cell? ⟨eb,1,none⟩=some (.string x.To)∧(Instr.lookup 101 (.map (some B)) (.string at_) false).run Tryz.prog (W5.alloc (.cells #[.int .i64 (i:Int)] 3))= .ok vv (W5.alloc (.cells #[.int .i64 (i:Int)] 3))):=Lib.hid ⟨by rw [HB6.out.cell (p:=⟨eb,1,none⟩) HEL.out];exact HS1.out.1,HP6.out.ways.look_at (by have:=HH.out.1;omega) HAT.out⟩
          have HI6:=Lib.hid (HI5.out.kept (W':=W5.alloc (.cells #[.int .i64 (i:Int)] 3)) fun g hg=> Below.heap_alloc _ _ g (HG5.out g hg).2)
          have HG6:Hid (∀g,b5=some g→W1.drew.heap.size≤g∧g < (W5.alloc (.cells #[.int .i64 (i:Int)] 3)).heap.size):=Lib.hid fun g hg=> ⟨(HG5.out g hg).1,Nat.lt_of_lt_of_le (HG5.out g hg).2 (below_alloc W5 (.cells #[.int .i64 (i:Int)] 3)).size⟩
          have HN6:=Lib.hid (heap_alloc_new W5 (.cells #[.int .i64 (i:Int)] 3))
          generalize W5.alloc (.cells #[.int .i64 (i:Int)] 3)=W6 at HB6 HP6 HS6 HI6 HG6 HN6 ⊢
          generalize W5.heap.size=ab at HN6 ⊢
          clear HS5 HB5 HP5 HI5 HG5
          refine hK.out _ _ ?_ (fun hHeld=> ?_)
          focus (exact HS6.out)
          clear hK K
          try simp only [Act.put,sA,sC,sB]
          refine wpAnyH_one 9 (fuel:=1) (by kernel_rfl) (by rfl) (fun K hK=> ?_)
          simp only [pick_lit,tA,tB,tC,tD,AtOps]
          rw [if_pos (by rfl)]
          obtain ⟨v7,W7,b7,hrun,hi7,o1,o2,o3,o4,o5,g7,q1,q2,q3⟩:=HI6.out.append (ys:= [(i:Int)]) (by simp) (by have:=HXL.out;have:=HG.out.2.1;simp;omega) (ad:=⟨ab,0,none⟩) (c:=1) (fun j y hj=> by match j,hj with | 0,hj=> rw [Addr.add_mid,cell_of_row _ _ _ _ 3 (0,0) HN6.out,←Option.some.inj hj];rfl)
          have HB7:Hid (Below W1.drew.heap.size W1.drew W7):=Lib.hid ⟨o1.trans HB6.out.os,o2.trans HB6.out.tape,o3.trans HB6.out.output,Nat.le_trans HB6.out.size o4,fun k hk=> (o5 k (Nat.lt_of_lt_of_le hk HB6.out.size) (fun e=> by have h7:W1.drew.heap.size≤k:=(HG6.out k e).1;omega)).trans (HB6.out.block k hk)⟩
          have HP7:=Lib.hid (HPD.out.next HB7.out)
          have HI7:=Lib.hid hi7
          have HG7:Hid (∀c,b7=some c→W1.drew.heap.size≤c∧c < W7.heap.size):=Lib.hid fun c hc=> by rw [q1] at hc;have e:=Option.some.inj hc;subst e;exact ⟨by rcases q2 with h | h;(exact (HG6.out _ h).1);(exact Nat.le_trans HB6.out.size h),q3⟩
          have HS7:Hid (W7.cell? ⟨eb,1,none⟩=some (.string x.To)∧(Instr.lookup 101 (.map (some B)) (.string at_) false).run Tryz.prog W7= .ok vv W7):=Lib.hid ⟨by rw [HB7.out.cell (p:=⟨eb,1,none⟩) HEL.out];exact HS1.out.1,HP7.out.ways.look_at (by have:=HH.out.1;omega) HAT.out⟩
          refine wp_append_run _ (.tmp 76) (.tmp 78) 35 35 rfl _ _ v7 W7 rfl rfl (hrun _) ?_
          refine hK.out _ _ ?_ (fun hHeld=> ?_)
          focus (exact HS7.out)
          clear hK K
          try simp only [Act.put,sA,sC,sB]
          refine wpAnyH_one 10 (fuel:=0) (by kernel_rfl) (by rfl) (fun K hK=> ?_)
          simp only [pick_lit,tA,tB,tC,tD,AtOps]
          rw [if_pos (by rfl)]
          obtain ⟨W8,hput,hp8,hg8⟩:=HP7.out.put (by have:=HG.out.2.1;omega) HX.out.2 HI7.out (by have:=HXL.out;simp;omega) (fun c hc=> ⟨Nat.le_trans HPD.out.le (HG7.out c hc).1,(HG7.out c hc).2⟩) (fun c hc=> by have e:=hc.symm.trans (hi7.row q1);have e:=Option.some.inj e;subst e;exact ⟨q3,HPD.out.row_ne (HG7.out _ q1).1⟩)
          have HP8:=Lib.hid hp8
          have HS8:Hid (W8.cell? ⟨eb,1,none⟩=some (.string x.To)∧(Instr.lookup 101 (.map (some B)) (.string at_) false).run Tryz.prog W8= .ok vv W8):=Lib.hid ⟨hg8.cell HS7.out.1 (fun e=> absurd (Option.some.inj e) (by have:=HEB.out;show eb≠B;omega)),HP8.out.ways.look_at (by have:=HH.out.1;omega) (at_put (fun e=> by have h1:=HHAS.out;rw [←e,HH.out.2] at h1;cases h1) HAT.out)⟩
          clear hp8 hg8
          refine wp_mput101 (.tmp 70) (.tmp 72) (.tmp 79) rfl rfl rfl rfl hput ?_
          refine hK.out _ _ ?_ (fun hHeld=> ?_)
          focus (exact HS8.out)
          clear hK K
          try simp only [Act.put]
          refine wpAnyH_done (by kernel_rfl) ?_ _
          clear hHeld hput hrun o1 o2 o3 o4 o5 q1 q2 q3 hi7
          have HD8:=Lib.hid (has_put_same HP7.out.ways.2.1.isMap (litS (s:=x.To) (by have:=HX.out.2;omega)) (.held v7))
          have HM8:=Lib.hid (has_put_mono HP7.out.ways.2.1.isMap (litS (s:=x.To) (by have:=HX.out.2;omega)) (.held v7))
          clear hHeld
          have c8:=HS8.out.1
          go_upto_region 17 with fail
          refine wp_region_lit ?_
          (refine rdT ?_;simp only [Act.put,sA,sB,sC])
          (refine rdT ?_;simp only [Act.put,sA,sB,sC])
          (refine rdT ?_;simp only [Act.put,sA,sB,sC])
          (refine wpList_plain rfl fun K0 hK0=> ?_;go_simp;refine hK0 _ _ ?_;clear hK0 K0;try (simp only [Act.put,sA,sB,sC]))
          have HP9:=Lib.hid (HP8.out.next (below_alloc W8 (.cells #[.string x.To] 9)))
          obtain ⟨v10,W10,hpush,hp10⟩:=HP9.out.push (by have:=HG.out;omega) (s:=x.To) ⟨HX.out.2,HD8.out⟩ (ad:=⟨W8.heap.size,0,none⟩) (cp:=1) (by rw [cell_of_row _ _ _ _ 9 (0,0) (heap_alloc_new W8 _)];rfl)
          have HP10:=Lib.hid hp10
          clear hp10
          refine wpList_plain rfl fun K0 hK0=> wp_append_run _ (.tmp 80) (.tmp 83) 24 24 rfl _ _ v10 W10 rfl rfl (hpush _) (hK0 _ _ ?_)
          clear hK0 K0 hpush c8
          (simp only [Act.put,sA,sB,sC])
          (refine rdT ?_;simp only [Act.put,sA,sB,sC])
          refine wpList_nil ?_
          have HG10:Hid ((qs ++ [x.To]).length + rem (D.put (.string x.To.data.toList) (.held v7)) (l.map fun c=> c.To.data.toList) + 1≤G∧n + 1 + rem (D.put (.string x.To.data.toList) (.held v7)) (l.map fun c=> c.To.data.toList)≤m + 1∧G≤m + 1):=Lib.hid (by have h1:=rem_lt HM8.out HHAS.out HD8.out (l.map fun c=> c.To.data.toList) (List.mem_map_of_mem (f:=fun c:api_Change=> c.To.data.toList) HXM.out);have h2:=HG.out;rw [List.length_append];simp only [List.length_cons,List.length_nil];omega)
          have HH10:Hid (at_.size≤20∧has (D.put (.string x.To.data.toList) (.held v7)) (.string at_.data.toList)=true):=Lib.hid ⟨HH.out.1,HM8.out _ HH.out.2⟩
          go_wp2_with fail
          go_roundg (gk - 1)
          case measure=> omega
          exact ⟨i + 1,qs ++ [x.To],n + 1,_,by omega,by rw [Int.natCast_add];rfl,HP10,HG10,HH10⟩
         ·simp only [pick_lit,tA,tB,tC,tD,AtOps]
          go_simp
          have HB4:Hid (Below W1.drew.heap.size W1.drew (W1.alloc (.cells #[.int .i64 (i:Int)] 3)).drew):=Lib.hid (below_alloc W1.drew (.cells #[.int .i64 (i:Int)] 3))
          have HP4:=Lib.hid (HPD.out.next HB4.out)
          have HS4:Hid ((W1.alloc (.cells #[.int .i64 (i:Int)] 3)).drew.cell? ⟨eb,1,none⟩=some (.string x.To)∧(Instr.lookup 101 (.map (some B)) (.string at_) false).run Tryz.prog (W1.alloc (.cells #[.int .i64 (i:Int)] 3)).drew= .ok vv (W1.alloc (.cells #[.int .i64 (i:Int)] 3)).drew):=Lib.hid ⟨by rw [HB4.out.cell (p:=⟨eb,1,none⟩) HEL.out];exact HS1.out.1,HP4.out.ways.look_at (by have:=HH.out.1;omega) HAT.out⟩
          have HV4:=Lib.hid (HV.out.kept (W':=(W1.alloc (.cells #[.int .i64 (i:Int)] 3)).drew) fun g hg=> HB4.out.block g (HBL.out g hg).2)
          have HN4:Hid ((W1.alloc (.cells #[.int .i64 (i:Int)] 3)).drew.heap[W1.drew.heap.size]? =some (.cells #[.int .i64 (i:Int)] 3 (0,0))):=Lib.hid (heap_alloc_new W1.drew (.cells #[.int .i64 (i:Int)] 3))
          have HL4:Hid (W1.drew.heap.size < (W1.alloc (.cells #[.int .i64 (i:Int)] 3)).drew.heap.size):=Lib.hid (by show W1.drew.heap.size < (W1.drew.alloc (.cells #[.int .i64 (i:Int)] 3)).heap.size;simp)
          generalize (W1.alloc (.cells #[.int .i64 (i:Int)] 3)).drew=W4 at HB4 HP4 HS4 HV4 HN4 HL4 ⊢
          refine hK.out _ _ ?_ (fun hHeld=> ?_)
          focus (exact HS4.out)
          clear hK K
          try simp only [Act.put,sA,sC,sB]
          refine wpAnyH_one 6 (fuel:=2) (by kernel_rfl) (by rfl) (fun K hK=> ?_)
          simp only [pick_lit,tA,tB,tC,tD,AtOps]
          go_simp
          (go_at_call 25;refine (clone_any (inv_below HI.out (by rw [HBB.out];exact HP4.out.below)) (fun g hg=> Nat.lt_trans (HBL.out g hg).2 HL4.out) HV4.out.relD (by have:=HXL.out;have:=HG.out.2.1;omega)).mono ?_;rintro r W5 ⟨x5,b5,rfl,hb5,hin5,hbg5⟩;have HB5:=Lib.hid hb5;have HP5:=Lib.hid (HP4.out.next hb5);have HI5:=Lib.hid hin5;have HG5:=Lib.hid hbg5;clear hb5 hin5 hbg5)
          have HB6:Hid (Below W1.drew.heap.size W1.drew W5):=Lib.hid (HB4.out.trans (HB5.out.mono HB4.out.size))
          have HP6:=HP5
          have HS6:Hid (W5.cell? ⟨eb,1,none⟩=some (.string x.To)∧(Instr.lookup 101 (.map (some B)) (.string at_) false).run Tryz.prog W5= .ok vv W5):=Lib.hid ⟨by rw [HB6.out.cell (p:=⟨eb,1,none⟩) HEL.out];exact HS1.out.1,HP6.out.ways.look_at (by have:=HH.out.1;omega) HAT.out⟩
          have HI6:=HI5
          have HG6:Hid (∀g,b5=some g→W1.drew.heap.size≤g∧g < W5.heap.size):=Lib.hid fun g hg=> ⟨Nat.le_trans HB4.out.size (HG5.out g hg).1,(HG5.out g hg).2⟩
          have HN6:=Lib.hid ((HB5.out.block _ HL4.out).trans HN4.out)
          have HAB:Hid (∃ab,ab=W1.drew.heap.size):=Lib.hid ⟨_,rfl⟩
          clear HS4 HB4 HB5 HP5 HI5 HG5 HP4 HV4 HN4 HL4
          refine hK.out _ _ ?_ (fun hHeld=> ?_)
          focus (exact HS6.out)
          clear hK K
          try simp only [Act.put,sA,sC,sB]
          refine wpAnyH_one 9 (fuel:=1) (by kernel_rfl) (by rfl) (fun K hK=> ?_)
          simp only [pick_lit,tA,tB,tC,tD,AtOps]
          rw [if_pos (by rfl)]
          obtain ⟨v7,W7,b7,hrun,hi7,o1,o2,o3,o4,o5,g7,q1,q2,q3⟩:=HI6.out.append (ys:= [(i:Int)]) (by simp) (by have:=HXL.out;have:=HG.out.2.1;simp;omega) (ad:=⟨W1.drew.heap.size,0,none⟩) (c:=1) (fun j y hj=> by match j,hj with | 0,hj=> rw [Addr.add_mid,cell_of_row _ _ _ _ 3 (0,0) HN6.out,←Option.some.inj hj];rfl)
          have HB7:Hid (Below W1.drew.heap.size W1.drew W7):=Lib.hid ⟨o1.trans HB6.out.os,o2.trans HB6.out.tape,o3.trans HB6.out.output,Nat.le_trans HB6.out.size o4,fun k hk=> (o5 k (Nat.lt_of_lt_of_le hk HB6.out.size) (fun e=> by have h7:W1.drew.heap.size≤k:=(HG6.out k e).1;omega)).trans (HB6.out.block k hk)⟩
          have HP7:=Lib.hid (HPD.out.next HB7.out)
          have HI7:=Lib.hid hi7
          have HG7:Hid (∀c,b7=some c→W1.drew.heap.size≤c∧c < W7.heap.size):=Lib.hid fun c hc=> by rw [q1] at hc;have e:=Option.some.inj hc;subst e;exact ⟨by rcases q2 with h | h;(exact (HG6.out _ h).1);(exact Nat.le_trans HB6.out.size h),q3⟩
          have HS7:Hid (W7.cell? ⟨eb,1,none⟩=some (.string x.To)∧(Instr.lookup 101 (.map (some B)) (.string at_) false).run Tryz.prog W7= .ok vv W7):=Lib.hid ⟨by rw [HB7.out.cell (p:=⟨eb,1,none⟩) HEL.out];exact HS1.out.1,HP7.out.ways.look_at (by have:=HH.out.1;omega) HAT.out⟩
          refine wp_append_run _ (.tmp 76) (.tmp 78) 35 35 rfl _ _ v7 W7 rfl rfl (hrun _) ?_
          refine hK.out _ _ ?_ (fun hHeld=> ?_)
          focus (exact HS7.out)
          clear hK K
          try simp only [Act.put,sA,sC,sB]
          refine wpAnyH_one 10 (fuel:=0) (by kernel_rfl) (by rfl) (fun K hK=> ?_)
          simp only [pick_lit,tA,tB,tC,tD,AtOps]
          rw [if_pos (by rfl)]
          obtain ⟨W8,hput,hp8,hg8⟩:=HP7.out.put (by have:=HG.out.2.1;omega) HX.out.2 HI7.out (by have:=HXL.out;simp;omega) (fun c hc=> ⟨Nat.le_trans HPD.out.le (HG7.out c hc).1,(HG7.out c hc).2⟩) (fun c hc=> by have e:=hc.symm.trans (hi7.row q1);have e:=Option.some.inj e;subst e;exact ⟨q3,HPD.out.row_ne (HG7.out _ q1).1⟩)
          have HP8:=Lib.hid hp8
          have HS8:Hid (W8.cell? ⟨eb,1,none⟩=some (.string x.To)∧(Instr.lookup 101 (.map (some B)) (.string at_) false).run Tryz.prog W8= .ok vv W8):=Lib.hid ⟨hg8.cell HS7.out.1 (fun e=> absurd (Option.some.inj e) (by have:=HEB.out;show eb≠B;omega)),HP8.out.ways.look_at (by have:=HH.out.1;omega) (at_put (fun e=> by have h1:=HHAS.out;rw [←e,HH.out.2] at h1;cases h1) HAT.out)⟩
          clear hp8 hg8
          refine wp_mput101 (.tmp 70) (.tmp 72) (.tmp 79) rfl rfl rfl rfl hput ?_
          refine hK.out _ _ ?_ (fun hHeld=> ?_)
          focus (exact HS8.out)
          clear hK K
          try simp only [Act.put]
          refine wpAnyH_done (by kernel_rfl) ?_ _
          clear hHeld hput hrun o1 o2 o3 o4 o5 q1 q2 q3 hi7
          have HD8:=Lib.hid (has_put_same HP7.out.ways.2.1.isMap (litS (s:=x.To) (by have:=HX.out.2;omega)) (.held v7))
          have HM8:=Lib.hid (has_put_mono HP7.out.ways.2.1.isMap (litS (s:=x.To) (by have:=HX.out.2;omega)) (.held v7))
          clear hHeld
          have c8:=HS8.out.1
          go_upto_region 17 with fail
          refine wp_region_lit ?_
          (refine rdT ?_;simp only [Act.put,sA,sB,sC])
          (refine rdT ?_;simp only [Act.put,sA,sB,sC])
          (refine rdT ?_;simp only [Act.put,sA,sB,sC])
          (refine wpList_plain rfl fun K0 hK0=> ?_;go_simp;refine hK0 _ _ ?_;clear hK0 K0;try (simp only [Act.put,sA,sB,sC]))
          have HP9:=Lib.hid (HP8.out.next (below_alloc W8 (.cells #[.string x.To] 9)))
          obtain ⟨v10,W10,hpush,hp10⟩:=HP9.out.push (by have:=HG.out;omega) (s:=x.To) ⟨HX.out.2,HD8.out⟩ (ad:=⟨W8.heap.size,0,none⟩) (cp:=1) (by rw [cell_of_row _ _ _ _ 9 (0,0) (heap_alloc_new W8 _)];rfl)
          have HP10:=Lib.hid hp10
          clear hp10
          refine wpList_plain rfl fun K0 hK0=> wp_append_run _ (.tmp 80) (.tmp 83) 24 24 rfl _ _ v10 W10 rfl rfl (hpush _) (hK0 _ _ ?_)
          clear hK0 K0 hpush c8
          (simp only [Act.put,sA,sB,sC])
          (refine rdT ?_;simp only [Act.put,sA,sB,sC])
          refine wpList_nil ?_
          have HG10:Hid ((qs ++ [x.To]).length + rem (D.put (.string x.To.data.toList) (.held v7)) (l.map fun c=> c.To.data.toList) + 1≤G∧n + 1 + rem (D.put (.string x.To.data.toList) (.held v7)) (l.map fun c=> c.To.data.toList)≤m + 1∧G≤m + 1):=Lib.hid (by have h1:=rem_lt HM8.out HHAS.out HD8.out (l.map fun c=> c.To.data.toList) (List.mem_map_of_mem (f:=fun c:api_Change=> c.To.data.toList) HXM.out);have h2:=HG.out;rw [List.length_append];simp only [List.length_cons,List.length_nil];omega)
          have HH10:Hid (at_.size≤20∧has (D.put (.string x.To.data.toList) (.held v7)) (.string at_.data.toList)=true):=Lib.hid ⟨HH.out.1,HM8.out _ HH.out.2⟩
          go_wp2_with fail
          go_roundg (gk - 1)
          case measure=> omega
          exact ⟨i + 1,qs ++ [x.To],n + 1,_,by omega,by rw [Int.natCast_add];rfl,HP10,HG10,HH10⟩
       ·go_roundg (gk - 1)
        case measure=> omega
        exact ⟨i + 1,qs,n,D,by omega,by rw [Int.natCast_add];rfl,HP1,HG,HH⟩
      ·obtain rfl:i=m:=by omega
       go_wp2_with fail
       go_roundg (G - 1)
       case measure=> have:=HG.out;omega
       exact ⟨qs,n,D,HP,Lib.hid (by have:=HG.out;omega)⟩
end Go.Proofs.YtmgcnoigihdhpaaGreatDoor

/-
  The walk of audit.Causal: which items come first; no network is given an event before something that it knows.
  The walk of audit.Causal.
  Layer 49, plain law: audit.Causal answers as the reference does; its contract.
  Layer 49, plain law: whether the audit finds that nothing was given twice.
  Plain programs of functions, and that the functions do what they say. Printed by wip/tools/gen.py.
  Layer 49, plain law: the audit's set of what is due.
-/
import Derived.Test.YtiklglcjecopcaaGreatDoorC2
import Derived.Test.YtiklglcjecopcaaGreatDoorQ22
import Derived.Test.YtiklglcjecopcaaGreatDoorQ23
import Derived.Test.YtiklglcjecopcaaGreatDoorQ17
import Derived.Test.YtiklglcjecopcaaGreatDoorQ18
namespace Go.Proofs.YtiklglcjecopcaaGreatDoor
open Go.RowKit Go.Maps Go.Shelf
def prO (x:audit_given):Pr:=(x.net,x.event)
def firstF (L:List audit_given):Nat→Pr→Option Int
 | 0,_=> none
 | i + 1,p=> if (firstF L i p).isSome then firstF L i p else if p=prO (L.getD i default) then some (i:Int) else firstF L i p
theorem firstF_hit {L:List audit_given} {i:Nat} {x:audit_given} (hx:L[i]? =some x) {t:Int} (h:firstF L i (x.net,x.event)=some t):firstF L (i + 1)=firstF L i:=by
 have hd:L.getD i default=x:=by rw [List.getD_eq_getElem?_getD,hx];rfl
 funext p
 show (if (firstF L i p).isSome then firstF L i p else if p=prO (L.getD i default) then some (i:Int) else firstF L i p)=_
 rw [hd]
 by_cases hp:p=prO x
 ·subst hp
  have h:firstF L i (prO x)=some t:=h
  rw [h]
  rfl
 ·rw [if_neg hp,ite_self]
theorem firstF_new {L:List audit_given} {i:Nat} {x:audit_given} (hx:L[i]? =some x) (h:firstF L i (x.net,x.event)=none):firstF L (i + 1)=fun p=> if p=(x.net,x.event) then some (i:Int) else firstF L i p:=by
 have hd:L.getD i default=x:=by rw [List.getD_eq_getElem?_getD,hx];rfl
 funext p
 show (if (firstF L i p).isSome then firstF L i p else if p=prO (L.getD i default) then some (i:Int) else firstF L i p)=_
 rw [hd]
 by_cases hp:p=(x.net,x.event)
 ·subst hp
  rw [h,if_pos rfl]
  show (if false=true then _ else if (x.net,x.event)=(x.net,x.event) then _ else _)=_
  rw [if_neg (by decide),if_pos rfl]
 ·rw [if_neg hp,if_neg (show ¬p=prO x from hp),ite_self]
def BadI (ev:List api_Event) (L:List audit_given) (i:Nat):Prop:=∃x,L[i]? =some x∧0≤x.event∧x.event < (ev.length:Int)∧∃k:Int,Sf ev x.event.toNat k∧∃t:Int,firstF L L.length (x.net,k)=some t∧(i:Int) < t
def Giv (W:World) (v:Value) (L:List audit_given) (b:Option Nat):Prop:=OwnAt (fun _=> False) W 3 (L.map audit_given.enc) v b
theorem Giv.kept {W W':World} {v:Value} {L:List audit_given} {b:Option Nat} (h:Giv W v L b) (hb:∀g,b=some g→W'.heap[g]? =W.heap[g]?):Giv W' v L b:=by
 obtain ⟨h1,h2⟩:=h
 refine ⟨h1,?_⟩
 rcases h2 with h2 | ⟨g,ty,cur,cap,e1,e2,e3,e4,e5,e6,e7⟩
 ·exact Or.inl h2
 ·refine Or.inr ⟨g,ty,cur,cap,e1,e2,(hb g e1).trans e3,e4,e5,e6,fun i j e x he hx=> ?_⟩
  obtain ⟨y,hy,hr⟩:=e7 i j e x he hx
  exact ⟨y,hy,hr.mono (fun _ h=> h) (fun _ h=> h.elim)⟩
theorem Giv.slice {W:World} {v:Value} {L:List audit_given} {b:Option Nat} (h:Giv W v L b):∃a c,v= .slice a L.length c∧∀i x,L[i]? =some x→∃g,a=some ⟨g,0,none⟩∧W.cell? ⟨g,i * 3,none⟩=some (.int .i64 x.net)∧W.cell? ⟨g,i * 3 + 1,none⟩=some (.int .i64 x.event)∧W.cell? ⟨g,i * 3 + 2,none⟩=some (.int .i64 x.part):=by
 obtain ⟨h1,h2⟩:=h
 rcases h2 with ⟨_,hx,a,rfl⟩ | ⟨g,ty,cur,cap,e1,rfl,e3,e4,e5,e6,e7⟩
 ·have:L= []:=List.map_eq_nil_iff.1 hx
  subst this
  exact ⟨a,0,rfl,fun i x h=> by simp at h⟩
 ·refine ⟨_,_,by rw [List.length_map],fun i x hx=> ⟨g,rfl,?_⟩⟩
  have key:∀j y,(audit_given.enc x)[j]? =some (.v y)→W.cell? ⟨g,i * 3 + j,none⟩=some y:=fun j y hj=> by
   obtain ⟨z,hz,hr⟩:=e7 i j (audit_given.enc x) _ (by rw [List.getElem?_map,hx];rfl) hj
   rw [cell_of_row _ _ _ cur ty (0,0) e3,hz,relD_v hr]
  exact ⟨key 0 _ rfl,key 1 _ rfl,key 2 _ rfl⟩
structure CS (w:World) (L:List audit_given) (v:Value) (gb:Option Nat) (fb B nf:Nat) (f:Pr→Option Int) (W:World):Prop where
 below:Below w.heap.size w W
 giv:Giv W v L gb
 tab:TabAt 91 klit inR W fb nf f
 ge:w.heap.size≤fb∧fb < B∧B≤W.heap.size
 own:∀c,gb=some c→w.heap.size≤c∧c < B∧c≠fb
section
variable {w : World} {L : List audit_given} {v : Value} {gb : Option Nat} {fb B nf : Nat} {f : Pr → Option Int} {W : World}
theorem CS.next (h:CS w L v gb fb B nf f W) {W':World} (hb:Below W.heap.size W W'):CS w L v gb fb B nf f W':=by
 obtain ⟨g1,g2,g3⟩:=h.ge
 exact ⟨h.below.trans (hb.mono h.below.size),h.giv.kept fun c hc=> hb.block c (by have:=(h.own c hc).2.1;omega),h.tab.of_block (hb.block fb (by omega)),⟨g1,g2,Nat.le_trans g3 hb.size⟩,h.own⟩
theorem CS.put (h:CS w L v gb fb B nf f W) (hn:nf < maxLen) {x:audit_given} (hx:inR (x.net,x.event)) {k:Int} (hk:inI k):
  ∃W',(Instr.mapUpdate 88 (.map (some fb)) (.agg #[.int .i64 x.net,.int .i64 x.event]) (.int .i64 k)).run Tryz.prog W= .ok () W'∧CS w L v gb fb B (nf + 1) (fun p=> if p=(x.net,x.event) then some k else f p) W':=by
 obtain ⟨g1,g2,g3⟩:=h.ge
 have hp:=h.tab.put keyAt Tryz.underlying88 hn hx hk
 clear hn hx hk
 unfold pairV at hp
 obtain ⟨W',hrun,ht,hg⟩:=hp
 refine ⟨W',hrun,?_⟩
 clear hrun
 have hb:Below w.heap.size w W':=h.below.grown hg h.below.size (fun k e=> by injection e with e;omega)
 have hgv:Giv W' v L gb:=h.giv.kept fun c hc=> hg.block c (by have:=(h.own c hc).2.1;omega) (fun e=> (h.own c hc).2.2 (by injection e))
 exact ⟨hb,hgv,ht,⟨g1,g2,Nat.le_trans g3 hg.size⟩,h.own⟩
theorem CS.mono (h:CS w L v gb fb B nf f W) {nf':Nat} (hn:nf≤nf'):CS w L v gb fb B nf' f W:=by
 obtain ⟨D,h1,h2⟩:=h.tab
 exact ⟨h.below,h.giv,⟨D,h1.mono hn,h2⟩,h.ge,h.own⟩
theorem CS.look (h:CS w L v gb fb B nf f W) {a b:Int} (ha:inR (a,b)):(Instr.lookup 88 (.map (some fb)) (.agg #[.int .i64 a,.int .i64 b]) true).run Tryz.prog W= .ok (.tuple #[.int .i64 ((f (a,b)).getD 0),.bool (f (a,b)).isSome]) W:=by
 have:=h.tab.look keyAt Tryz.underlying88 ha
 unfold pairV at this
 exact this
end
structure CD (w:World) (L:List audit_given) (v:Value) (gb:Option Nat) (fb B nf:Nat) (f:Pr→Option Int) (ev:List api_Event) (n:Nat) (w1:World) (g lb B2:Nat) (Ms:List Nat) (W:World):Prop where
 cs:CS w L v gb fb B nf f W
 row:MRow w1 n g lb B2 Ms (Sf ev) (fun j=> j) (lastF ev n) n W
theorem CD.next {w:World} {L:List audit_given} {v:Value} {gb:Option Nat} {fb B nf:Nat} {f:Pr→Option Int} {ev:List api_Event} {n:Nat} {w1:World} {g lb B2:Nat} {Ms:List Nat} {W:World} (h:CD w L v gb fb B nf f ev n w1 g lb B2 Ms W) {W':World} (hb:Below W.heap.size W W'):CD w L v gb fb B nf f ev n w1 g lb B2 Ms W':=⟨h.cs.next hb,h.row.next' hb⟩
theorem items_any {A:Nat→Prop} {W:World} {outs:List (List api_Out)} {L:List audit_given} {v:Value} (hL:audit_items outs=some L) (hI:Inv W) (hA:∀b,A b→b < W.heap.size) (h:RelD A W (.fz (outs.map (encL api_Out.enc))) v):
  Calls Tryz.prog 20 #[v] W fun r W'=> ∃xa xc b,r= .returned (.slice xa L.length xc)∧Below W.heap.size W W'∧Giv W' (.slice xa L.length xc) L b∧∀c,b=some c→W.heap.size≤c∧c < W'.heap.size:=by
 refine ((audit_items_fn (dr:=False) hL).2 W A #[v] hI hA ⟨rfl,fun j c u hc hu=> by
  match j,hc,hu with
  | 0,hc,hu=>
   injection hc with hc
   injection hu with hu
   subst hc hu
   exact .d h⟩).mono ?_
 rintro r W' ⟨v',S',bs,rfl,hb,_,hres,_,hbs⟩
 obtain ⟨b,rfl,ho⟩:=hres
 have ho:OwnAt S' W' 3 (L.map audit_given.enc) v' b:=ho
 have hg:Giv W' v' L b:=ownAt_plain (fun e he d hd=> by
  obtain ⟨x,_,rfl⟩:=List.mem_map.1 he
  simp only [audit_given.enc,List.mem_cons,List.not_mem_nil,or_false] at hd
  rcases hd with rfl | rfl | rfl <;> exact ⟨_,rfl⟩) ho
 obtain ⟨xa,xc,rfl,_⟩:=hg.slice
 exact ⟨xa,xc,b,rfl,hb.toBelow,hg,fun c hc=> by
  have:=hbs c (by rw [hc];exact .head _)
  exact ⟨this.1,this.2.1⟩⟩
end Go.Proofs.YtiklglcjecopcaaGreatDoor
namespace Go.Proofs.YtiklglcjecopcaaGreatDoor
open Go.RowKit Go.Maps Go.Shelf
set_option maxRecDepth 100000 in
set_option maxHeartbeats 8000000 in
theorem causal_walk (A:Nat→Prop) (w:World) (ev:List api_Event) (outs:List (List api_Out)) (L:List audit_given) (a:Option Addr) (c:Nat) (ov:Value) (hI:Inv w) (hA:∀b,A b→b < w.heap.size) (h:RelD A w (.fz (ev.map api_Event.enc)) (.slice a ev.length c)) (ho:RelD A w (.fz (outs.map (encL api_Out.enc))) ov) (hL:audit_items outs=some L)
  (hl:ev.length≤1000) (hl2:L.length≤1000) (hin:∀e∈ev,inI e.Author) (hcs:∀e∈ev,e.Causes.length≤1000) (hr:∀x∈L,inR (x.net,x.event)):
  Calls Tryz.prog 10 #[.slice a ev.length c,ov] w fun r w'=> ∃b:Bool,r= .returned (.bool b)∧Below w.heap.size w w'∧(b=false↔∃i,BadI ev L i):=by
 have HIN:=Lib.hid hin
 have HR:=Lib.hid h
 have HO:=Lib.hid ho
 have HA:=Lib.hid hA
 have HCS:=Lib.hid hcs
 have HI:=Lib.hid hI
 have HL:=Lib.hid hL
 have HRR:=Lib.hid hr
 clear hin h hA hcs hI ho hL hr
 generalize hn:ev.length=n at *
 have HN:=Lib.hid hn
 clear hn
 have hmm:= @run_makeMap Tryz.prog
 go_enter Tryz.func10,Tryz.ntmps10
 go_wp2_with (go_at_call 20;refine (items_any HL.out (inv_below HI.out (below_alloc w (.map #[] 0))) (fun b hb=> Nat.lt_of_lt_of_le (HA.out b hb) (below_alloc w (.map #[] 0)).size) (relD_below HA.out HO.out (below_alloc w (.map #[] 0)))).mono ?_;rintro r W1 ⟨xa,xc,gb,rfl,hb1,hgv,hgb⟩;have HB1:=Lib.hid hb1;have HGV:=Lib.hid hgv;have HGB:=Lib.hid hgb;clear hb1 hgv hgb)
 have HS1:Hid (CS w L (.slice xa L.length xc) gb w.heap.size W1.heap.size 0 (firstF L 0) W1):=Lib.hid (by
  have h0:=TabAt.new (kt:=91) (kl:=klit) (ok:=inR) w
  have h1:=HB1.out.size
  rw [World.size_alloc] at h1
  refine ⟨(below_alloc w _).trans (HB1.out.mono (by simp)),HGV.out,h0.of_block (HB1.out.block _ (by simp)),⟨by omega,by omega,Nat.le_refl _⟩,fun c hc=> ?_⟩
  have h2:=HGB.out c hc
  rw [World.size_alloc] at h2
  exact ⟨by omega,by omega,by omega⟩)
 clear HGV HGB
 generalize hN:L.length=N at *
 have HNN:=Lib.hid hN
 clear hN
 generalize W1.heap.size=B at HS1
 generalize hfb:w.heap.size=fb at *
 have HFB:=Lib.hid hfb
 clear hfb
 go_loopg [22] N (fun q i W=> ∃k:Nat,k + q=N∧i= .int .i64 k∧Hid (CS w L (.slice xa N xc) gb fb B k (firstF L k) W))
 case atStart=> exact ⟨0,by omega,rfl,HS1⟩
 case round=>
  obtain ⟨k,hk,rfl,HS⟩:=hrel
  by_cases hlt:k < N
  ·obtain ⟨y,hy⟩:∃y,L[k]? =some y:=⟨_,List.getElem?_eq_getElem (by rw [HNN.out];exact hlt)⟩
   obtain ⟨xa',xc',hv',hat'⟩:=HS.out.giv.slice
   obtain ⟨ng,hna,e0,e1,e2⟩:=hat' k y hy
   injection hv' with hv1 hv2 hv3
   rw [hna] at hv1
   have HY:=Lib.hid hy
   clear hat' hv2 hv3 hna hy
   subst hv1
   go_upto_region 5 with fail
   obtain ⟨W3,hW3⟩:∃X,wr.alloc (.cells #[.int .i64 y.net,.int .i64 y.event,.int .i64 y.part] 86)=X:=⟨_,rfl⟩
   have HS3:Hid (CS w L (.slice (some ⟨ng,0,none⟩) N xc) gb fb B k (firstF L k) W3):=Lib.hid (by rw [←hW3];exact HS.out.next (below_alloc wr _))
   have hx3:W3.heap[wr.heap.size]? =some (.cells #[.int .i64 y.net,.int .i64 y.event,.int .i64 y.part] 86 (0,0)):=by rw [←hW3];exact heap_alloc_new wr _
   rw [hW3]
   generalize wr.heap.size=eb at hx3 ⊢
   have f0:W3.cell? ⟨eb,0,none⟩=some (.int .i64 y.net):=by rw [cell_of_row _ _ _ _ 86 (0,0) hx3];rfl
   have f1:W3.cell? ⟨eb,1,none⟩=some (.int .i64 y.event):=by rw [cell_of_row _ _ _ _ 86 (0,0) hx3];rfl
   clear hW3 e0 e1 e2 hx3 HS
   have HRY:=Lib.hid (HRR.out y (List.mem_of_getElem? HY.out))
   have hlook:=HS3.out.look HRY.out
   obtain ⟨W4,hput,hs4⟩:=HS3.out.put (by simp only [maxLen];omega) HRY.out (inI_nat (show k≤1000000 by omega))
   have HS4:=Lib.hid hs4
   clear hs4
   generalize hq:firstF L k (y.net,y.event)=q at hlook
   have HQ:=Lib.hid hq
   clear hq
   cases q with
   | none=>
    simp only [Option.isSome_none] at hlook
    go_wp2_with fail
    go_roundg (gk - 1)
    case measure=> omega
    exact ⟨k + 1,by omega,by rw [Int.natCast_add];rfl,Lib.hid (by rw [firstF_new HY.out HQ.out];exact HS4.out)⟩
   | some t=>
    simp only [Option.isSome_some,Option.getD_some] at hlook
    go_wp2_with fail
    go_roundg (gk - 1)
    case measure=> omega
    exact ⟨k + 1,by omega,by rw [Int.natCast_add];rfl,Lib.hid (by rw [firstF_hit HY.out HQ.out];exact HS3.out.mono (Nat.le_succ k))⟩
  ·obtain rfl:k=N:=by omega
   have HKW:Hid (Calls Tryz.prog 22 #[.slice a n c] wr fun r w'=> ∃(g lb B2 cap:Nat) (Ms:List Nat),r= .returned (.slice (some ⟨g,0,none⟩) n cap)∧Ms.length=n∧MRow wr n g lb B2 Ms (Sf ev) (fun j=> j) (lastF ev n) n w'):=Lib.hid (by
    have e:=HN.out
    subst e
    have hA':∀b,A b→b < w.heap.size:=by rw [HFB.out];exact HA.out
    exact known_walk A wr ev a c (inv_below HI.out HS.out.below) (fun b hb=> Nat.lt_of_lt_of_le (hA' b hb) HS.out.below.size) (relD_below hA' HR.out HS.out.below) hl HIN.out HCS.out)
   go_upto_region 10 with (go_at_call 22;refine HKW.out.mono ?_;rintro r W5 ⟨g,lb,B2,kc,Ms,rfl,hms,hrow⟩;have HMS:=Lib.hid hms;have HD:=Lib.hid (CD.mk (HS.out.next hrow.below) hrow);clear hms hrow)
   go_wp2_with fail
   clear HKW HS1
   go_loopg [51] k (fun q i W=> ∃j:Nat,j + q=k∧i= .int .i64 j∧Hid (CD w L (.slice xa k xc) gb fb B k (firstF L k) ev n wr g lb B2 Ms W)∧Hid (∀i',i' < j→¬BadI ev L i'))
   case atStart=> exact ⟨0,by omega,rfl,HD,Lib.hid fun i' h=> absurd h (by omega)⟩
   case round=>
    obtain ⟨j,hj,rfl,HE,HNB⟩:=hrel
    by_cases hlt2:j < k
    ·obtain ⟨y,hy⟩:∃y,L[j]? =some y:=⟨_,List.getElem?_eq_getElem (by rw [HNN.out];exact hlt2)⟩
     obtain ⟨xa',xc',hv',hat'⟩:=HE.out.cs.giv.slice
     obtain ⟨ng,hna,e0,e1,e2⟩:=hat' j y hy
     injection hv' with hv1 hv2 hv3
     rw [hna] at hv1
     have HY:=Lib.hid hy
     clear hat' hv2 hv3 hna hy
     subst hv1
     go_upto_region 13 with fail
     obtain ⟨W3,hW3⟩:∃X,wr.alloc (.cells #[.int .i64 y.net,.int .i64 y.event,.int .i64 y.part] 86)=X:=⟨_,rfl⟩
     have HD3:Hid (CD w L (.slice (some ⟨ng,0,none⟩) k xc) gb fb B k (firstF L k) ev n _ g lb B2 Ms W3):=Lib.hid (by rw [←hW3];exact HE.out.next (below_alloc wr _))
     have HX3:Hid (W3.heap[wr.heap.size]? =some (.cells #[.int .i64 y.net,.int .i64 y.event,.int .i64 y.part] 86 (0,0))):=Lib.hid (by rw [←hW3];exact heap_alloc_new wr _)
     rw [hW3]
     generalize wr.heap.size=eb at HX3 ⊢
     have f0:W3.cell? ⟨eb,0,none⟩=some (.int .i64 y.net):=by rw [cell_of_row _ _ _ _ 86 (0,0) HX3.out];rfl
     have f1:W3.cell? ⟨eb,1,none⟩=some (.int .i64 y.event):=by rw [cell_of_row _ _ _ _ 86 (0,0) HX3.out];rfl
     clear hW3 e0 e1 e2 HE
     by_cases h0:y.event < 0
     ·have HNB2:Hid (∀i',i' < j + 1→¬BadI ev L i'):=Lib.hid fun i' hi' hb=> by
       by_cases hij:i'=j
       ·subst hij
        obtain ⟨x,hx,b1,_⟩:=hb
        rw [HY.out] at hx
        injection hx with hx
        subst hx
        omega
       ·exact HNB.out i' (by omega) hb
      go_wp2_with fail
      go_roundg (gk - 1)
      case measure=> omega
      exact ⟨j + 1,by omega,by rw [Int.natCast_add];rfl,HD3,HNB2⟩
     ·by_cases h1:(n:Int)≤y.event
      ·have HNB2:Hid (∀i',i' < j + 1→¬BadI ev L i'):=Lib.hid fun i' hi' hb=> by
        by_cases hij:i'=j
        ·subst hij
         obtain ⟨x,hx,_,b1,_⟩:=hb
         rw [HY.out] at hx
         injection hx with hx
         subst hx
         rw [HN.out] at b1
         omega
        ·exact HNB.out i' (by omega) hb
       go_wp2_with fail
       go_roundg (gk - 1)
       case measure=> omega
       exact ⟨j + 1,by omega,by rw [Int.natCast_add];rfl,HD3,HNB2⟩
      ·obtain ⟨p,hp⟩:∃p:Nat,y.event=p:=⟨y.event.toNat,by omega⟩
       have HP:=Lib.hid hp
       have hpn:p < n:=by omega
       rw [hp] at f1 h0 h1
       clear hp
       obtain ⟨mp,hmp⟩:∃mp,Ms[p]? =some mp:=⟨_,List.getElem?_eq_getElem (by rw [HMS.out];exact hpn)⟩
       have f2:=HD3.out.row.cell hmp
       obtain ⟨D,hown,hD⟩:=HD3.out.row.sets p mp hmp
       have HDD:=Lib.hid hD
       clear hD hmp
       go_wp2_with (first
        | (at_range;refine wpList_range_own _ rfl _ 94 rfl 3 4 keyInt.keyed Tryz.underlying94 _ mp p _ rfl hown ?_;intro w0 hrg0 hg0 hs0)
        | go_in)
       obtain ⟨R0,hR0⟩:∃x,W3.heap.size=x:=⟨_,rfl⟩
       rw [hR0] at hrg0 hs0
       simp only [hR0]
       have HB0:Hid (Below R0 W3 w0):=Lib.hid (by rw [←hR0];exact (Below.refl _ W3).grown hg0 (Nat.le_refl _) (fun k e=> by cases e))
       have HR0:=Lib.hid hR0
       have HEB:Hid (eb < R0):=Lib.hid (by rw [←hR0];exact lt_of_block HX3.out)
       have HRY:=Lib.hid (HRR.out y (List.mem_of_getElem? HY.out))
       clear hg0 hs0 hR0 hown f0 f1 f2
       go_loopw [72] (fun _ W=> ∃(left:Lit→Bool) (cnt:Nat),W.ranges Tryz.prog 3 (plainElem Tryz.prog 4) mp R0 p D left cnt∧Hid (Below R0 W3 W)∧Hid (∀x,inI x→has D (.int .i64 x)=true→left (.int .i64 x)=false→¬∃t,firstF L k (y.net,x)=some t∧(j:Int) < t))
        (fun _ W=> W.rangeLeft mp R0)
       case atStart=> exact ⟨_,_,hrg0,HB0,Lib.hid fun x _ h1 h2=> by rw [h1] at h2;cases h2⟩
       case round=>
        obtain ⟨left,cnt,hrg,HBW,HNO⟩:=hrel
        have HSZ:Hid (R0≤wr.heap.size):=Lib.hid (by rw [←HR0.out];exact HBW.out.size)
        go_wp2_with (first
         | (at_next;refine wpList_next_ranges _ rfl _ rfl 3 keyInt.keyed (plainElem Tryz.prog 4) (Value.int .i64) id (fun key kl hk=> by obtain ⟨x,rfl,_⟩:=Maps.keyOf_int_inv Tryz.underlying3 hk;exact ⟨x,rfl⟩) (fun v _ _=> ⟨v,rfl⟩) mp R0 p _ _ _ rfl hrg ?_ ?_)
         | go_in)
        ·intro hc0 hl0
         have HNB2:Hid (∀i',i' < j + 1→¬BadI ev L i'):=Lib.hid fun i' hi' hb=> by
          by_cases hij:i'=j
          ·subst hij
           obtain ⟨x,hx,_,_,kk,hS,t,ht,hlt⟩:=hb
           rw [HY.out] at hx
           injection hx with hx
           subst hx
           rw [HP.out,Int.toNat_natCast] at hS
           rw [HNN.out] at ht
           have h3:=hS.lt
           obtain ⟨kn,rfl⟩:∃kn:Nat,kk=kn:=⟨kk.toNat,by omega⟩
           have hwk:inI (kn:Int):=inI_nat (by omega)
           exact HNO.out kn hwk ((HDD.out kn hwk).2 hS) (hl0 _) ⟨t,ht,hlt⟩
          ·exact HNB.out i' (by omega) hb
         have HDE:=Lib.hid (HD3.out.next (by rw [HR0.out];exact HBW.out))
         clear hl0 hc0 hrg
         go_wp2_with fail
         go_roundg (k - j - 1)
         case measure=> omega
         exact ⟨j + 1,by omega,by rw [Int.natCast_add];rfl,HDE,HNB2⟩
        ·intro x cv kl yd yp w1 cnt1 hkey hlx hv hat hrg1 hlt1 hg1 hs1 hen
         obtain ⟨x',hx',hkl,hwx⟩:=Maps.keyOf_int_inv Tryz.underlying3 hkey
         injection hx' with _ hx'
         subst hx' hkl
         have HBW1:Hid (Below R0 W3 w1):=Lib.hid (HBW.out.grown hg1 HSZ.out (fun k e=> by injection e with e;omega))
         have HD1:=Lib.hid (HD3.out.next (by rw [HR0.out];exact HBW1.out))
         have f0:w1.cell? ⟨eb,0,none⟩=some (.int .i64 y.net):=by rw [cell_of_row _ _ _ _ 86 (0,0) ((HBW1.out.block eb HEB.out).trans HX3.out)];rfl
         have hlook:=HD1.out.cs.look (a:=y.net) (b:=x) ⟨HRY.out.1,hwx⟩
         have HSX:Hid (Sf ev p x):=Lib.hid ((HDD.out x hwx).1 (has_true_of_atKey hat))
         have HWX:=Lib.hid hwx
         have HG1:=Lib.hid hrg1
         have HME:Hid (w1.rangeLeft mp R0 < wr.rangeLeft mp R0):=Lib.hid (by rw [hrg1.left_eq,hrg.left_eq];exact hlt1)
         clear hkey hlx hv hat hrg1 hlt1 hg1 hs1 hwx hrg
         generalize hq:firstF L k (y.net,x)=q at hlook
         have HQ:=Lib.hid hq
         clear hq
         have HNO2:Hid ((¬∃t,q=some t∧(j:Int) < t)→∀z,inI z→has D (.int .i64 z)=true→(left (.int .i64 z) && !(Lit.int .i64 z).sameKey (.int .i64 x))=false→¬∃t,firstF L k (y.net,z)=some t∧(j:Int) < t):=Lib.hid fun hno z hz h1 h2=> by
          by_cases hzx:z=x
          ·subst hzx
           rw [HQ.out]
           exact hno
          ·rw [sameKey_ne (fun e=> hzx (by injection e)),Bool.not_false,Bool.and_true] at h2
           exact HNO.out z hz h1 h2
         cases q with
         | none=>
          simp only [Option.isSome_none] at hlook
          go_wp2_with fail
          go_roundw
          case rel=> exact ⟨_,cnt1,HG1.out,HBW1,Lib.hid (HNO2.out fun ⟨t,h,_⟩=> by cases h)⟩
          case measure=> exact HME.out
         | some t=>
          simp only [Option.isSome_some,Option.getD_some] at hlook
          by_cases hjt:(j:Int) < t
          ·have HBAD:Hid (∃i,BadI ev L i):=Lib.hid ⟨j,y,HY.out,by rw [HP.out];omega,by rw [HP.out,HN.out];omega,x,by rw [HP.out,Int.toNat_natCast];exact HSX.out,t,by rw [HNN.out];exact HQ.out,hjt⟩
           have HBE:=Lib.hid HD1.out.cs.below
           go_wp2_with fail
           go_ret
           exact Or.inl ⟨rfl,HBE.out,HBAD.out⟩
          ·go_wp2_with fail
           go_roundw
           case rel=> exact ⟨_,cnt1,HG1.out,HBW1,Lib.hid (HNO2.out fun ⟨t',h,h2⟩=> by injection h with h;subst h;exact hjt h2)⟩
           case measure=> exact HME.out
    ·obtain rfl:j=k:=by omega
     have HFIN:Hid (¬∃i,BadI ev L i):=Lib.hid fun ⟨i,hi⟩=> by
      have hi2:=hi
      obtain ⟨x,hx,_⟩:=hi
      have:=(List.getElem?_eq_some_iff.1 hx).1
      rw [HNN.out] at this
      exact HNB.out i this hi2
     have HBE:=Lib.hid HE.out.cs.below
     go_wp2_with fail
     go_ret
     exact ⟨true,rfl,HBE.out,⟨fun h=> (by cases h),fun h=> absurd h HFIN.out⟩⟩
theorem firstF_spec (L:List audit_given):∀(m:Nat) (p:Pr) (t:Int),firstF L m p=some t↔∃s:Nat,t=s∧s < m∧prO (L.getD s default)=p∧∀r,r < s→prO (L.getD r default)≠p
 | 0,p,t=> by
  constructor
  ·intro h;cases h
  ·rintro ⟨s,_,h,_⟩;omega
 | m + 1,p,t=> by
  have ih:=firstF_spec L m p
  show (if (firstF L m p).isSome then firstF L m p else if p=prO (L.getD m default) then some (m:Int) else firstF L m p)=some t↔_
  cases hq:firstF L m p with
  | some u=>
   rw [if_pos (show (some u).isSome=true from rfl)]
   obtain ⟨s0,e0,e1,e2,e3⟩:=(ih u).1 hq
   constructor
   ·intro h
    injection h with h
    subst h
    exact ⟨s0,e0,by omega,e2,e3⟩
   ·rintro ⟨s,rfl,h1,h2,h3⟩
    have:s=s0:=by
     rcases Nat.lt_trichotomy s s0 with h | h | h
     ·exact absurd h2 (e3 s h)
     ·exact h
     ·exact absurd e2 (h3 s0 h)
    rw [e0,this]
  | none=>
   have hno:∀s,s < m→(∀r,r < s→prO (L.getD r default)≠p)→prO (L.getD s default)≠p:=fun s h1 h2 h3=> by
    have:=(ih (s:Int)).2 ⟨s,rfl,h1,h3,h2⟩
    rw [hq] at this
    cases this
   have hall:∀s,s < m→prO (L.getD s default)≠p:=fun s=> by
    induction s using Nat.strongRecOn with
    | _ s ihs=> exact fun h=> hno s h fun r hr=> ihs r hr (by omega)
   rw [if_neg (by simp)]
   by_cases hp:p=prO (L.getD m default)
   ·rw [if_pos hp]
    constructor
    ·intro h
     injection h with h
     exact ⟨m,h.symm,Nat.lt_succ_self m,hp.symm,fun r hr=> hall r hr⟩
    ·rintro ⟨s,rfl,h1,h2,h3⟩
     have:s=m:=by
      rcases Nat.lt_or_ge s m with h | h
      ·exact absurd h2 (hall s h)
      ·omega
     rw [this]
   ·rw [if_neg hp]
    constructor
    ·intro h;cases h
    ·rintro ⟨s,rfl,h1,h2,h3⟩
     rcases Nat.lt_or_ge s m with h | h
     ·exact absurd h2 (hall s h)
     ·have:s=m:=by omega
      rw [this] at h2
      exact absurd h2.symm hp
theorem firstB_iff (l:List api_Out) (k:Nat) (hk:k≤l.length):firstB l k=true↔∀r,r < k→((l.getD r default).Net,(l.getD r default).Item.Event)≠((l.getD k default).Net,(l.getD k default).Item.Event):=by
 unfold firstB
 rw [List.all_eq_true]
 have ho:∀y,otherG (l.getD k default) y=true↔(y.Net,y.Item.Event)≠((l.getD k default).Net,(l.getD k default).Item.Event):=fun y=> by
  unfold otherG
  by_cases h:y.Net=(l.getD k default).Net
  ·have:(y.Net !=(l.getD k default).Net)=false:=by simpa using h
   rw [this,cond_false]
   simp [h]
  ·have:(y.Net !=(l.getD k default).Net)=true:=by simpa using h
   rw [this,cond_true]
   exact ⟨fun _ e=> h (congrArg Prod.fst e),fun _=> rfl⟩
 constructor
 ·intro h r hr
  refine (ho _).1 (h _ ?_)
  have h1:r < l.length:=by omega
  rw [List.getD_eq_getElem?_getD,List.getElem?_eq_getElem h1]
  exact List.mem_of_getElem? (by rw [List.getElem?_take_of_lt hr,List.getElem?_eq_getElem h1];rfl)
 ·intro h y hy
  obtain ⟨r,hr⟩:=List.getElem?_of_mem hy
  have hrk:r < k:=by
   have:=(List.getElem?_eq_some_iff.1 hr).1
   rw [List.length_take] at this
   omega
  rw [List.getElem?_take_of_lt hrk] at hr
  have:=h r hrk
  rw [List.getD_eq_getElem?_getD,hr] at this
  exact (ho y).2 this
theorem badI_late (ev:List api_Event) (l:List api_Out) (i:Nat):BadI ev (l.map givenOf) i↔∃k,Late ev l i k:=by
 have hg:∀s,s < l.length→(l.map givenOf).getD s default=givenOf (l.getD s default):=fun s hs=> by
  rw [List.getD_eq_getElem?_getD,List.getD_eq_getElem?_getD,List.getElem?_map,List.getElem?_eq_getElem hs]
  rfl
 constructor
 ·rintro ⟨x,hx,h0,h1,kk,⟨j,rfl,hj⟩,t,ht,hit⟩
  rw [List.getElem?_map] at hx
  have hil:i < l.length:=by
   rcases Nat.lt_or_ge i l.length with h | h
   ·exact h
   ·rw [List.getElem?_eq_none h] at hx
    cases hx
  rw [List.getElem?_eq_getElem hil] at hx
  have hxe:x=givenOf (l.getD i default):=by
   rw [List.getD_eq_getElem?_getD,List.getElem?_eq_getElem hil]
   injection hx with hx
   exact hx.symm
  subst hxe
  obtain ⟨s,rfl,s1,s2,s3⟩:=(firstF_spec _ _ _ _).1 ht
  rw [List.length_map] at s1
  rw [hg s s1] at s2
  injection s2 with n1 n2
  have n1:(l.getD s default).Net=(l.getD i default).Net:=n1
  have n2:(l.getD s default).Item.Event=(j:Int):=n2
  have h0:0≤(l.getD i default).Item.Event:=h0
  have h1:(l.getD i default).Item.Event < (ev.length:Int):=h1
  have hj:Kn ev (l.getD i default).Item.Event.toNat j:=hj
  have hlt:=hj.lt
  refine ⟨s,by omega,s1,n1,by omega,by omega,by omega,⟨h0,h1,?_⟩,(firstB_iff l s (by omega)).2 fun r hr he=> ?_⟩
  ·rw [n2,Int.toNat_natCast]
   exact reach_kn.2 (Or.inr hj)
  ·have:=s3 r hr
   rw [hg r (by omega)] at this
   refine this ?_
   show ((l.getD r default).Net,(l.getD r default).Item.Event)=((l.getD i default).Net,(j:Int))
   rw [he,n1,n2]
 ·rintro ⟨k,h1,h2,h3,h4,h5,h6,⟨h7,h8,h9⟩,h10⟩
  have hil:i < l.length:=by omega
  refine ⟨givenOf (l.getD i default),by rw [List.getElem?_map,List.getD_eq_getElem?_getD,List.getElem?_eq_getElem hil];rfl,h7,h8,(l.getD k default).Item.Event,⟨(l.getD k default).Item.Event.toNat,by omega,?_⟩,k,(firstF_spec _ _ _ _).2 ⟨k,rfl,by rw [List.length_map];exact h2,?_,fun r hr=> ?_⟩,by omega⟩
  ·rcases reach_kn.1 h9 with h | h
   ·exact absurd (show (l.getD k default).Item.Event=(l.getD i default).Item.Event by omega) h6
   ·exact h
  ·rw [hg k h2]
   show ((l.getD k default).Net,(l.getD k default).Item.Event)=((l.getD i default).Net,(l.getD k default).Item.Event)
   rw [h3]
  ·rw [hg r (by omega)]
   have:=(firstB_iff l k (by omega)).1 h10 r hr
   intro he
   refine this ?_
   have he:((l.getD r default).Net,(l.getD r default).Item.Event)=((l.getD i default).Net,(l.getD k default).Item.Event):=he
   rw [he,h3]
def okE (e:api_Event):Bool:=(Lit.int .i64 e.Author).wf && decide (e.Causes.length≤1000)
def okO (x:api_Out):Bool:=(Lit.int .i64 x.Net).wf && (Lit.int .i64 x.Item.Event).wf
def okC (events:List api_Event) (outs:List (List api_Out)):Bool:=decide (events.length≤1000) && (events.all okE && (decide (outs.length≤20) && (outs.all (fun l=> decide (l.length≤12)) && (itemsL outs).all okO)))
noncomputable def propB (p:Prop):Bool:= @decide p (Classical.propDecidable p)
theorem propB_t {p:Prop} (h:p):propB p=true:= @decide_eq_true p (Classical.propDecidable p) h
theorem propB_f {p:Prop} (h:¬p):propB p=false:= @decide_eq_false p (Classical.propDecidable p) h
noncomputable def audit_Causal (events_:List api_Event) (outs_:List (List api_Out)):Option Bool:=(chkO (okC events_ outs_)).bind fun _=> some (propB (¬∃i k,Late events_ (itemsL outs_) i k))
theorem audit_Causal_fn {events_:List api_Event} {outs_:List (List api_Out)} {r:Bool} (h:audit_Causal events_ outs_=some r):Fn False Tryz.prog 10 [VF (List.map api_Event.enc events_),VF (List.map (encL api_Out.enc) outs_)] (VB r):=by
 unfold audit_Causal at h
 cases hc:okC events_ outs_
 ·rw [hc] at h;cases h
 rw [hc] at h
 injection h with h
 unfold okC at hc
 simp only [Bool.and_eq_true,decide_eq_true_eq,List.all_eq_true] at hc
 obtain ⟨c1,c2,c3,c4,c5⟩:=hc
 have hE:∀e∈events_,inI e.Author∧e.Causes.length≤1000:=fun e he=> by
  have:=c2 e he
  unfold okE at this
  simp only [Bool.and_eq_true,decide_eq_true_eq] at this
  exact this
 have hit:=aitems_eq outs_ c3 c4
 have hlen:((itemsL outs_).map givenOf).length≤1000:=by
  rw [List.length_map]
  have h1:=itemsL_le outs_ outs_.length
  have h2:=flat_le outs_ c4 outs_.length
  rw [List.take_length] at h1 h2
  omega
 refine ⟨Tryz.call10,fun w A vals hI hA hrel=> ?_⟩
 obtain ⟨v1,vs1,hvs,hs1,hrel2⟩:=hrel.cons_inv
 obtain ⟨v2,vs2,hvs2,hs2,hnil⟩:=hrel2.cons_inv
 have:=hnil.nil_inv
 subst this hvs2
 have hvals:vals= #[v1,v2]:=by apply Array.ext';simpa using hvs
 subst hvals
 have hs1:RelD A w (.fz (events_.map api_Event.enc)) v1:=by
  cases hs1 with
  | d h=> exact h
 have hs2:RelD A w (.fz (outs_.map (encL api_Out.enc))) v2:=by
  cases hs2 with
  | d h=> exact h
 obtain ⟨a,c,rfl,_⟩:=ev_slice hs1
 refine (causal_walk A w events_ outs_ ((itemsL outs_).map givenOf) a c v2 hI hA hs1 hs2 hit c1 hlen (fun e he=> (hE e he).1) (fun e he=> (hE e he).2) fun x hx=> ?_).mono ?_
 ·obtain ⟨y,hy,rfl⟩:=List.mem_map.1 hx
  have:=c5 y hy
  unfold okO at this
  rw [Bool.and_eq_true] at this
  exact this
 ·rintro e w' ⟨b,rfl,hb,hiff⟩
  have hbr:b=r:=by
   rw [←h]
   have:(∃i,BadI events_ ((itemsL outs_).map givenOf) i)↔∃i k,Late events_ (itemsL outs_) i k:=exists_congr fun i=> badI_late _ _ i
   rw [this] at hiff
   cases b
   ·exact (propB_f (fun hn=> hn (hiff.1 rfl))).symm
   ·exact (propB_t (fun hx=> by cases hiff.2 hx)).symm
  subst hbr
  exact ⟨_,A,[none],rfl,⟨hb,fun h=> h.elim⟩,fun q hq=> ⟨Nat.lt_of_lt_of_le (hA q hq) hb.size,Or.inl hq⟩,⟨none,rfl,.v _ rfl,rfl⟩,by simp [Apart],fun b hb=> by simp at hb⟩
theorem aCausal_eq (events:List api_Event) (outs:List (List api_Out)) (hok:okC events outs=true):∃b,audit_Causal events outs=some b∧(b=false↔∃i k,Late events (itemsL outs) i k):=by
 unfold audit_Causal
 rw [hok]
 refine ⟨_,rfl,fun h=> ?_,fun h=> propB_f fun hn=> hn h⟩
 refine Classical.byContradiction fun hn=> ?_
 rw [propB_t hn] at h
 cases h
end Go.Proofs.YtiklglcjecopcaaGreatDoor
namespace Go.Proofs.YtiklglcjecopcaaGreatDoor
open Go.RowKit
theorem mget_mputK {K V:Type} [BEq K] [LawfulBEq K] (k:K) (v z:V) (a:K):∀(m:List (K×V)),mgetT a (mputT k v m) z=bif a==k then v else mgetT a m z
 | []=> by
  simp only [mputT,mgetT]
 | p::r=> by
  simp only [mputT]
  cases h:k==p.1
  ·simp only [cond_false,mgetT,mget_mputK k v z a r]
   cases h1:a==p.1
   ·rfl
   ·have h1:=eq_of_beq h1
    subst h1
    have:(p.1==k)=false:=by
     cases h2:p.1==k
     ·rfl
     ·have h2:=eq_of_beq h2
      rw [←h2] at h
      simp at h
    rw [this]
    rfl
  ·have h:=eq_of_beq h
   subst h
   simp only [cond_true,mgetT]
   cases h1:a==p.1 <;> rfl
instance:LawfulBEq audit_given where
 eq_of_beq {a b} h:=by
  obtain ⟨a1,a2,a3⟩:=a
  obtain ⟨b1,b2,b3⟩:=b
  have h:(a1==b1 && (a2==b2 && (a3==b3 && true)))=true:=h
  simp at h
  obtain ⟨rfl,rfl,rfl⟩:=h
  rfl
 rfl {a}:=by
  show (a.net==a.net && (a.event==a.event && (a.part==a.part && true)))=true
  simp
theorem given_same (x y:api_Out):(givenOf x==givenOf y)=sameGiven x y:=by
 show (x.Net==y.Net && (x.Item.Event==y.Item.Event && (x.Item.Part==y.Item.Part && true)))=_
 unfold sameGiven
 rw [Bool.and_true]
theorem aOnce_eq (outs:List (List api_Out)) (hn:outs.length≤20) (hl:∀l∈outs,l.length≤12) (h240:(itemsL outs).length≤240):audit_Once outs=some (onceR (itemsL outs)):=by
 unfold audit_Once
 rw [aitems_eq outs hn hl,Option.bind_some]
 generalize itemsL outs=l at *
 have hlen:(l.map givenOf).length=l.length:=List.length_map ..
 have k:=loopF_inv (body:=audit_Once_L1 (l.map givenOf)) l.length (fun i s=> s.1=(i:Int)∧(∀x,mgetT (givenOf x) s.2 false=(l.take i).any (sameGiven x))∧∀j,j < i→(l.take j).any (sameGiven (l.getD j default))=false)
  (fun r=> r=some (bif onceR l then .inl () else .inr false))
  (by
   rintro i ⟨a,m⟩ hi ⟨h1,h2,h3⟩
   dsimp only at h1 h2
   subst h1
   have hg:getI (l.map givenOf) (i:Int)=some (givenOf (l.getD i default)):=by
    rw [getI_in (givenOf default) (by rw [hlen];exact hi)]
    rw [List.getD_eq_getElem?_getD,List.getD_eq_getElem?_getD,List.getElem?_map,List.getElem?_eq_getElem hi]
    rfl
   have hbody:audit_Once_L1 (l.map givenOf) ((i:Int),m)=some (bif (l.take i).any (sameGiven (l.getD i default)) then .inr (.inr false) else .inl (((i + 1:Nat):Int),mputT (givenOf (l.getD i default)) true m)):=by
    unfold audit_Once_L1
    dsimp only
    rw [hlen,decide_eq_true (by omega),cond_true,chk_true (by simp <;> omega),bind_some_of hg,h2,wrap64 (by omega) (by omega)]
    cases (l.take i).any _ <;> rfl
   rw [hbody]
   cases hq:(l.take i).any (sameGiven (l.getD i default))
   ·left
    refine ⟨_,rfl,rfl,fun x=> ?_,fun j hj=> ?_⟩
    ·dsimp only
     rw [mget_mputK,h2,given_same,take_succ_getD l default hi,List.any_append]
     simp only [List.any_cons,List.any_nil,Bool.or_false]
     cases sameGiven x (l.getD i default) <;> simp
    ·by_cases hji:j=i
     ·rw [hji];exact hq
     ·exact h3 j (by omega)
   ·right
    refine ⟨_,rfl,?_⟩
    have:onceR l=false:=by
     unfold onceR
     rw [List.all_eq_false]
     exact ⟨i,List.mem_range.2 hi,by rw [hq];simp⟩
    rw [this]
    rfl)
  (by
   rintro ⟨a,m⟩ ⟨h1,_,h3⟩
   dsimp only at h1
   subst h1
   refine ⟨.inl (),?_,?_⟩
   ·unfold audit_Once_L1
    dsimp only
    rw [hlen,decide_eq_false (by omega)]
    rfl
   ·have:onceR l=true:=by
     unfold onceR
     rw [List.all_eq_true]
     intro j hj
     rw [h3 j (List.mem_range.1 hj)]
     rfl
    rw [this]
    rfl)
  (s0:=((0:Int),([]:List (audit_given×Bool)))) ⟨rfl,fun x=> rfl,fun j hj=> by omega⟩
 rw [k]
 cases onceR l <;> rfl
attribute [local irreducible] IntKind.wrap AW runL Step.wp
set_option linter.unusedVariables false
set_option maxHeartbeats 4000000
set_option maxRecDepth 100000
noncomputable def audit_Debts_L1 (x138:(List api_Out)) (s33:Int×(List (api_Debt×Bool))):Option ((Int×(List (api_Debt×Bool)))⊕(((List (api_Debt×Bool)))⊕((Int×(List (api_Debt×Bool)))⊕(((List (api_Debt×Bool)))⊕(Bool))))):=
 (bif (decide (s33.1 < (x138.length:Int))) then
  (getI x138 s33.1).bind fun x144=>
  (bif (x144.Kind==(2:Int)) then
   some (.inl ((IntKind.i64.wrap (s33.1 + (1:Int))),(mputT (api_Debt.mk x144.Event x144.Net) true s33.2)))
  else
   some (.inl ((IntKind.i64.wrap (s33.1 + (1:Int))),s33.2)))
 else
  some (.inr (.inl s33.2)))
noncomputable def audit_Debts_L2 (inputs_:(List api_Input)) (outs_:(List (List api_Out))) (s18:Int×(List (api_Debt×Bool))):Option ((Int×(List (api_Debt×Bool)))⊕(((List (api_Debt×Bool)))⊕(Bool))):=
 (bif (decide (s18.1 < (inputs_.length:Int))) then
  (seqF (A:=(List (api_Debt×Bool))) (
   (getI inputs_ s18.1).bind fun x133=>
   (seqF (A:=(List (api_Debt×Bool))) (
    (bif (x133.Kind==(8:Int)) then
     (gate_Right (api_Input.mk x133.Kind x133.Net x133.Event x133.Local x133.N (api_Raw.mk x133.Raw.Account x133.Raw.Seq x133.Raw.Kind x133.Raw.Group x133.Raw.On x133.Raw.Quote x133.Raw.Who x133.Raw.N x133.Raw.Text x133.Raw.Files) (api_Note.mk x133.Note.Message x133.Note.Who x133.Note.Level x133.Note.Step x133.Note.Not) (api_Proof.mk x133.Proof.Kind x133.Proof.A x133.Proof.B) (api_Verdict.mk x133.Verdict.Name x133.Verdict.Step x133.Verdict.Bad) (api_Hold.mk x133.Hold.Id x133.Hold.Event x133.Hold.From x133.Hold.To) (api_Order.mk x133.Order.Kind x133.Order.Event x133.Order.By x133.Order.Step) x133.Up)).bind fun y137=>
     (bif y137 then
      some (.inl (mdelT (api_Debt.mk x133.Event x133.Net) s18.2))
     else
      some (.inl s18.2))
    else
     some (.inl s18.2)))
   fun s32=>
    (getI outs_ s18.1).bind fun x138=>
    loopF (audit_Debts_L1 x138) ((0:Int),s32)))
  fun s31=>
   some (.inl ((IntKind.i64.wrap (s18.1 + (1:Int))),s31)))
 else
  some (.inr (.inl s18.2)))
noncomputable def audit_Debts (inputs_:(List api_Input)) (outs_:(List (List api_Out))) (debts_:(List api_Debt)):Option (Bool):=
 (bif ((inputs_.length:Int) !=(outs_.length:Int)) then
  some false
 else
  (seqF (A:=(List (api_Debt×Bool))) (
   loopF (audit_Debts_L2 inputs_ outs_) ((0:Int),([]:List (api_Debt×Bool))))
  fun s17=>
   (sortedDF (List.map Prod.fst s17)).bind fun y145=>
   (slices_Equal_api_Debt_api_Debt debts_ y145).bind fun y146=>
   some y146))
theorem audit_Debts_fn {inputs_:(List api_Input)} {outs_:(List (List api_Out))} {debts_:(List api_Debt)} {r:Bool} (h:audit_Debts inputs_ outs_ debts_=some r):Fn False Tryz.prog 12 [VF (List.map api_Input.enc inputs_),VF (List.map (encL api_Out.enc) outs_),VF (List.map api_Debt.enc debts_)] (VB r):=by
 refine Fn.of_AW (dr:=False) (F:=FnX False Tryz.prog) (base:=0) (js:= [9,15,16]) mixed tok noeqs (fun _ _ _ h=> h) Tryz.call12 Tryz.func12 rfl Tryz.ntmps12 (by rw [Tryz.results12]) (by simp) ?_;have hG:(fun x=> x=r) r:=rfl;unfold audit_Debts at h;refine Zap 9 rfl ?_;refine Y1 rfl ?_;refine W.len rfl ?_;refine Zpp 1 rfl ?_;refine Y1 rfl ?_;refine W.len rfl ?_;refine Zpc 3 rfl ?_;refine A.condB rfl h (fun _ h=> ?_) (fun _ h=> ?_)
 ·refine Zcb 7 rfl ?_;cases h;cases hG;exact ⟨rfl,trivial⟩
 ·refine Zcp 4 rfl ?_;refine Zm (.mp 18 1) (Mem.add _ 18 (.mapi (.st 2) (mapE api_Debt.key vB ([]:List (api_Debt×Bool))))) rfl rfl ?_;refine Zo (.mp 18 1) rfl rfl ?_;refine Zpc 2 rfl ?_;refine A.join (fun (s17:(List (api_Debt×Bool)))=> [(2,VF (List.map api_Debt.enc debts_)),(7,.mp 900000 1)]) (fun s17=> [(900000,.mapi (.st 2) (mapE api_Debt.key vB s17))]) _ h hG rfl ?_ ?_
  ·intro J f h hG;refine Zap 3 rfl ?_;refine Y1 rfl ?_;refine W.len rfl ?_;refine Zpc 4 rfl ?_;refine A.loop (fun (s18:Int×(List (api_Debt×Bool)))=> [(1,VF (List.map (encL api_Out.enc) outs_)),(2,VF (List.map api_Debt.enc debts_)),(7,.mp 900000 1),(19,VF (List.map api_Input.enc inputs_)),(20,VI (inputs_.length:Int)),(21,VI s18.1)]) (fun s18=> [(900000,.mapi (.st 2) (mapE api_Debt.key vB s18.2))]) _ h hG (Zf [] [(900000,(18,1))] rfl rfl (Ze rfl rfl (Ze rfl rfl (Ze rfl rfl (Ze rfl rfl (Ze rfl rfl (Ze rfl rfl trivial)))))) (Zc rfl rfl trivial)) ?_;intro J s18 f h hG;unfold audit_Debts_L2 at h;refine Zac 6 rfl ?_;refine A.condB rfl h (fun _ h=> ?_) (fun _ h=> ?_)
   ·refine Zcc 2 rfl ?_;refine A.join (fun (s31:(List (api_Debt×Bool)))=> [(1,VF (List.map (encL api_Out.enc) outs_)),(2,VF (List.map api_Debt.enc debts_)),(7,.mp 900000 1),(19,VF (List.map api_Input.enc inputs_)),(20,VI (inputs_.length:Int)),(21,VI s18.1)]) (fun s31=> [(900000,.mapi (.st 2) (mapE api_Debt.key vB s31))]) _ h hG rfl ?_ ?_
    ·intro J f h hG;refine Zap 4 rfl ?_;refine Y1 rfl ?_;refine bindK h fun x133 hx133 h=> ?_;refine W.chk rfl (elemB hx133) ?_;refine W.elem rfl (elemG hx133) ?_;refine W.chk rfl rfl ?_;refine W.det (.fp [.v (.int .i64 x133.Kind),.v (.int .i64 x133.Net),.v (.int .i64 x133.Event),.v (.int .i64 x133.Local),.v (.int .i64 x133.N),.v (.int .i64 x133.Raw.Account),.v (.int .i64 x133.Raw.Seq),.v (.int .i64 x133.Raw.Kind),.v (.int .i64 x133.Raw.Group),.v (.int .i64 x133.Raw.On),.v (.int .i64 x133.Raw.Quote),.v (.int .i64 x133.Raw.Who),.v (.int .i64 x133.Raw.N),.v (.string x133.Raw.Text),.fz (List.map (encI .i64) x133.Raw.Files),.v (.int .i64 x133.Note.Message),.v (.int .i64 x133.Note.Who),.v (.int .i64 x133.Note.Level),.v (.int .i64 x133.Note.Step),.v (.bool x133.Note.Not),.v (.int .i64 x133.Proof.Kind),.v (.int .i64 x133.Proof.A),.v (.int .i64 x133.Proof.B),.v (.int .i64 x133.Verdict.Name),.v (.int .i64 x133.Verdict.Step),.v (.bool x133.Verdict.Bad),.v (.int .i64 x133.Hold.Id),.v (.int .i64 x133.Hold.Event),.v (.int .i64 x133.Hold.From),.v (.int .i64 x133.Hold.To),.v (.int .i64 x133.Order.Kind),.v (.int .i64 x133.Order.Event),.v (.int .i64 x133.Order.By),.v (.int .i64 x133.Order.Step),.fz (List.map encB x133.Up)]) _ rfl ?_;refine Zo (.agg [VI x133.Kind,VI x133.Net,VI x133.Event,VI x133.Local,VI x133.N,VI x133.Raw.Account,VI x133.Raw.Seq,VI x133.Raw.Kind,VI x133.Raw.Group,VI x133.Raw.On,VI x133.Raw.Quote,VI x133.Raw.Who,VI x133.Raw.N,VS x133.Raw.Text,VF (List.map (encI .i64) x133.Raw.Files),VI x133.Note.Message,VI x133.Note.Who,VI x133.Note.Level,VI x133.Note.Step,VB x133.Note.Not,VI x133.Proof.Kind,VI x133.Proof.A,VI x133.Proof.B,VI x133.Verdict.Name,VI x133.Verdict.Step,VB x133.Verdict.Bad,VI x133.Hold.Id,VI x133.Hold.Event,VI x133.Hold.From,VI x133.Hold.To,VI x133.Order.Kind,VI x133.Order.Event,VI x133.Order.By,VI x133.Order.Step,VF (List.map encB x133.Up)]) rfl rfl ?_;refine Zm (.lp 9 2 0) (Mem.add (Mem.add (Mem.add _ 983049 (.rows 1 (List.map (encI .i64) ([]:List Int)) false)) 2293769 (.rows 1 (List.map encB ([]:List Bool)) false)) 9 (.box [VI 0,VI 0,VI 0,VI 0,VI 0,VI 0,VI 0,VI 0,VI 0,VI 0,VI 0,VI 0,VI 0,VS (ByteArray.mk #[]),.row 983049 2 0,VI 0,VI 0,VI 0,VI 0,VB false,VI 0,VI 0,VI 0,VI 0,VI 0,VB false,VI 0,VI 0,VI 0,VI 0,VI 0,VI 0,VI 0,VI 0,.row 2293769 2 0])) rfl rfl ?_;refine Zpp 1 rfl ?_;refine Zm (.tup []) (Mem.set _ 9 2 (some (.box [VI x133.Kind,VI x133.Net,VI x133.Event,VI x133.Local,VI x133.N,VI x133.Raw.Account,VI x133.Raw.Seq,VI x133.Raw.Kind,VI x133.Raw.Group,VI x133.Raw.On,VI x133.Raw.Quote,VI x133.Raw.Who,VI x133.Raw.N,VS x133.Raw.Text,VF (List.map (encI .i64) x133.Raw.Files),VI x133.Note.Message,VI x133.Note.Who,VI x133.Note.Level,VI x133.Note.Step,VB x133.Note.Not,VI x133.Proof.Kind,VI x133.Proof.A,VI x133.Proof.B,VI x133.Verdict.Name,VI x133.Verdict.Step,VB x133.Verdict.Bad,VI x133.Hold.Id,VI x133.Hold.Event,VI x133.Hold.From,VI x133.Hold.To,VI x133.Order.Kind,VI x133.Order.Event,VI x133.Order.By,VI x133.Order.Step,VF (List.map encB x133.Up)]))) rfl rfl ?_
     refine Zpc 2 rfl ?_;refine A.join (fun (s32:(List (api_Debt×Bool)))=> [(1,VF (List.map (encL api_Out.enc) outs_)),(2,VF (List.map api_Debt.enc debts_)),(7,.mp 900000 1),(8,VI s18.1),(19,VF (List.map api_Input.enc inputs_)),(20,VI (inputs_.length:Int)),(21,VI s18.1)]) (fun s32=> [(900000,.mapi (.st 2) (mapE api_Debt.key vB s32))]) _ h hG rfl ?_ ?_
     ·intro J f h hG;refine Zap 6 rfl ?_;refine YT rfl rfl rfl h (fun _ h=> ?_) (fun _ h=> ?_)
      ·refine W.det (.agg [VI x133.Kind,VI x133.Net,VI x133.Event,VI x133.Local,VI x133.N,VI x133.Raw.Account,VI x133.Raw.Seq,VI x133.Raw.Kind,VI x133.Raw.Group,VI x133.Raw.On,VI x133.Raw.Quote,VI x133.Raw.Who,VI x133.Raw.N,VS x133.Raw.Text,VF (List.map (encI .i64) x133.Raw.Files),VI x133.Note.Message,VI x133.Note.Who,VI x133.Note.Level,VI x133.Note.Step,VB x133.Note.Not,VI x133.Proof.Kind,VI x133.Proof.A,VI x133.Proof.B,VI x133.Verdict.Name,VI x133.Verdict.Step,VB x133.Verdict.Bad,VI x133.Hold.Id,VI x133.Hold.Event,VI x133.Hold.From,VI x133.Hold.To,VI x133.Order.Kind,VI x133.Order.Event,VI x133.Order.By,VI x133.Order.Step,VF (List.map encB x133.Up)]) _ rfl ?_;refine Y2 rfl rfl rfl ?_;refine bindK h fun y137 hy137 h=> ?_;refine W.call rfl (gate_Right_fn hy137) ?_;refine Zwc 4 rfl ?_;refine A.condB rfl h (fun _ h=> ?_) (fun _ h=> ?_)
       ·refine Zcp 1 rfl ?_;refine Zo (.mp 900000 1) rfl rfl ?_;refine Zpp 4 rfl ?_;refine Zo (.agg [VI x133.Event,VI x133.Net]) rfl rfl ?_;refine Y1 rfl ?_;refine W.mdel api_Debt.key vB (api_Debt.mk x133.Event x133.Net) s18.2 (fun _ _=> rfl) rfl ?_;refine Zpb 1 rfl ?_;cases h;exact Zh hG [] [(900000,(900000,1))] rfl rfl (Ze rfl rfl (Ze rfl rfl (Ze rfl rfl (Ze rfl rfl (Ze rfl rfl (Ze rfl rfl (Ze rfl rfl trivial))))))) (Zc rfl rfl trivial)
       ·refine Zcb 1 rfl ?_;cases h;exact Zh hG [] [(900000,(900000,1))] rfl rfl (Ze rfl rfl (Ze rfl rfl (Ze rfl rfl (Ze rfl rfl (Ze rfl rfl (Ze rfl rfl (Ze rfl rfl trivial))))))) (Zc rfl rfl trivial)
      ·refine Zpb 6 rfl ?_;cases h;exact Zh hG [] [(900000,(900000,1))] rfl rfl (Ze rfl rfl (Ze rfl rfl (Ze rfl rfl (Ze rfl rfl (Ze rfl rfl (Ze rfl rfl (Ze rfl rfl trivial))))))) (Zc rfl rfl trivial)
     ·intro s32 r2 h hG;refine Zcp 4 rfl ?_;refine Y1 rfl ?_;refine bindK h fun x138 hx138 h=> ?_;refine W.chk rfl (elemB hx138) ?_;refine W.elem rfl (elemG hx138) ?_;refine W.chk rfl rfl ?_;refine W.det (.fp [.fz (List.map api_Out.enc x138)]) _ rfl ?_;refine Zpp 1 rfl ?_;refine Y1 rfl ?_;refine W.len rfl ?_;refine Zpc 4 rfl ?_;refine A.loop (fun (s33:Int×(List (api_Debt×Bool)))=> [(1,VF (List.map (encL api_Out.enc) outs_)),(2,VF (List.map api_Debt.enc debts_)),(7,.mp 900000 1),(19,VF (List.map api_Input.enc inputs_)),(20,VI (inputs_.length:Int)),(21,VI s18.1),(42,VF (List.map api_Out.enc x138)),(43,VI (x138.length:Int)),(44,VI s33.1)]) (fun s33=> [(900000,.mapi (.st 2) (mapE api_Debt.key vB s33.2))]) _ h hG (Zf [] [(900000,(900000,1))] rfl rfl (Ze rfl rfl (Ze rfl rfl (Ze rfl rfl (Ze rfl rfl (Ze rfl rfl (Ze rfl rfl (Ze rfl rfl (Ze rfl rfl (Ze rfl rfl trivial))))))))) (Zc rfl rfl trivial)) ?_;intro J s33 f h hG;unfold audit_Debts_L1 at h;refine Zac 6 rfl ?_;refine A.condB rfl h (fun _ h=> ?_) (fun _ h=> ?_)
      ·refine Zcp 6 rfl ?_;refine Y1 rfl ?_;refine bindK h fun x144 hx144 h=> ?_;refine W.chk rfl (elemB hx144) ?_;refine W.elem rfl (elemG hx144) ?_;refine W.chk rfl rfl ?_;refine W.det (.fp [.v (.int .i64 x144.Kind),.v (.int .i64 x144.Net),.v (.int .i64 x144.Event),.v (.int .i64 x144.Item.Event),.v (.int .i64 x144.Item.Part),.v (.int .i64 x144.Item.Of),.v (.int .i64 x144.Item.Kind),.v (.int .i64 x144.Item.On),.v (.int .i64 x144.Item.OnPart),.v (.int .i64 x144.Item.Quote),.v (.int .i64 x144.Item.Who),.v (.int .i64 x144.Item.N),.v (.string x144.Item.Text),.fz (List.map (encI .i64) x144.Item.Files)]) _ rfl ?_;refine Zo (.agg [VI x144.Kind,VI x144.Net,VI x144.Event,VI x144.Item.Event,VI x144.Item.Part,VI x144.Item.Of,VI x144.Item.Kind,VI x144.Item.On,VI x144.Item.OnPart,VI x144.Item.Quote,VI x144.Item.Who,VI x144.Item.N,VS x144.Item.Text,VF (List.map (encI .i64) x144.Item.Files)]) rfl rfl ?_;refine Zm (.lp 11 2 0) (Mem.add (Mem.add _ 917515 (.rows 1 (List.map (encI .i64) ([]:List Int)) false)) 11 (.box [VI 0,VI 0,VI 0,VI 0,VI 0,VI 0,VI 0,VI 0,VI 0,VI 0,VI 0,VI 0,VS (ByteArray.mk #[]),.row 917515 2 0])) rfl rfl ?_;refine Zm (.tup []) (Mem.set _ 11 2 (some (.box [VI x144.Kind,VI x144.Net,VI x144.Event,VI x144.Item.Event,VI x144.Item.Part,VI x144.Item.Of,VI x144.Item.Kind,VI x144.Item.On,VI x144.Item.OnPart,VI x144.Item.Quote,VI x144.Item.Who,VI x144.Item.N,VS x144.Item.Text,VF (List.map (encI .i64) x144.Item.Files)]))) rfl rfl ?_;refine Zpc 9 rfl ?_;refine A.condB rfl h (fun _ h=> ?_) (fun _ h=> ?_)
       ·refine Zcp 1 rfl ?_;refine Zo (.mp 900000 1) rfl rfl ?_;refine Zpp 4 rfl ?_;refine Zo (.agg [VI x144.Event,VI x144.Net]) rfl rfl ?_;refine Y1 rfl ?_;refine W.mput api_Debt.key vB (api_Debt.mk x144.Event x144.Net) true s33.2 (fun _ _=> rfl) rfl ?_;refine Zpb 7 rfl ?_;cases h;exact Zh hG [] [(900000,(900000,1))] rfl rfl (Ze rfl rfl (Ze rfl rfl (Ze rfl rfl (Ze rfl rfl (Ze rfl rfl (Ze rfl rfl (Ze rfl rfl (Ze rfl rfl (Ze rfl rfl trivial))))))))) (Zc rfl rfl trivial)
       ·refine Zcb 7 rfl ?_;cases h;exact Zh hG [] [(900000,(900000,1))] rfl rfl (Ze rfl rfl (Ze rfl rfl (Ze rfl rfl (Ze rfl rfl (Ze rfl rfl (Ze rfl rfl (Ze rfl rfl (Ze rfl rfl (Ze rfl rfl trivial))))))))) (Zc rfl rfl trivial)
      ·refine Zcb 2 rfl ?_;refine headK.e ?_;refine Zob 2 rfl ?_;cases h;exact Zh hG [] [(900000,(900000,1))] rfl rfl (Ze rfl rfl (Ze rfl rfl (Ze rfl rfl (Ze rfl rfl (Ze rfl rfl (Ze rfl rfl trivial)))))) (Zc rfl rfl trivial)
    ·intro s31 r2 h hG;refine Zcb 4 rfl ?_;cases h;exact Zh hG [] [(900000,(900000,1))] rfl rfl (Ze rfl rfl (Ze rfl rfl (Ze rfl rfl (Ze rfl rfl (Ze rfl rfl (Ze rfl rfl trivial)))))) (Zc rfl rfl trivial)
   ·refine Zcb 2 rfl ?_;refine headK.e ?_;refine Zob 1 rfl ?_;cases h;exact Zh hG [] [(900000,(900000,1))] rfl rfl (Ze rfl rfl (Ze rfl rfl trivial)) (Zc rfl rfl trivial)
  ·intro s17 r2 h hG;refine Zcp 2 rfl ?_;refine Zo (.mp 900000 1) rfl rfl ?_;refine Y1 rfl ?_;refine W.call rfl maps_Keys_map_api_Debt_bool_api_Debt_bool_fnk ?_;refine W.det (.fn 78 [.lp 60 2 0]) (Mem.add _ 60 (.box [.mp 900000 1])) rfl ?_;refine Y1 rfl ?_;refine bindK h fun y145 hy145 h=> ?_;refine W.call rfl (slices_SortedFunc_api_Debt_fnx hy145) ?_;refine W.v (.row 61 2 (List.map api_Debt.enc y145).length) (.row 61 2 y145.length) (Mem.add _ 61 (.rows 2 (List.map api_Debt.enc y145) false)) rfl (by simp only [List.length_map]) ?_;refine Zo (.row 61 2 y145.length) rfl rfl ?_;refine Zpp 5 rfl ?_;refine Zo (.row 61 2 y145.length) rfl rfl ?_;refine Y1 rfl ?_;refine bindK h fun y146 hy146 h=> ?_;refine W.call rfl (slices_Equal_api_Debt_api_Debt_fn hy146) ?_;refine Zwb 5 rfl ?_;cases h;cases hG;exact ⟨rfl,trivial⟩
end Go.Proofs.YtiklglcjecopcaaGreatDoor
namespace Go.Proofs.YtiklglcjecopcaaGreatDoor
open Go.RowKit
instance:LawfulBEq api_Debt where
 eq_of_beq {a b} h:=by
  obtain ⟨a1,a2⟩:=a
  obtain ⟨b1,b2⟩:=b
  have h:(a1==b1 && (a2==b2 && true))=true:=h
  simp at h
  obtain ⟨rfl,rfl⟩:=h
  rfl
 rfl {a}:=by
  show (a.Event==a.Event && (a.Net==a.Net && true))=true
  simp
section
variable {K V : Type} [BEq K] [LawfulBEq K]
theorem mput_keys (k:K) (v:V):∀(m:List (K×V)),(m.map Prod.fst).Nodup→((mputT k v m).map Prod.fst).Nodup∧∀x,x∈(mputT k v m).map Prod.fst↔x=k∨x∈m.map Prod.fst
 | [],_=> by simp [mputT]
 | p::r,h=> by
  rw [List.map_cons,List.nodup_cons] at h
  simp only [mputT]
  cases hk:k==p.1
  ·obtain ⟨h1,h2⟩:=mput_keys k v r h.2
   simp only [cond_false,List.map_cons,List.nodup_cons,List.mem_cons]
   refine ⟨⟨fun hm=> ?_,h1⟩,fun x=> ?_⟩
   ·rcases (h2 _).1 hm with hm | hm
    ·rw [hm] at hk
     simp at hk
    ·exact h.1 hm
   ·rw [h2 x]
    constructor
    ·rintro (h | h | h)
     ·exact Or.inr (Or.inl h)
     ·exact Or.inl h
     ·exact Or.inr (Or.inr h)
    ·rintro (h | h | h)
     ·exact Or.inr (Or.inl h)
     ·exact Or.inl h
     ·exact Or.inr (Or.inr h)
  ·have hk:=eq_of_beq hk
   subst hk
   simp only [cond_true,List.map_cons,List.nodup_cons,List.mem_cons]
   exact ⟨h,fun x=> ⟨fun h=> Or.inr h,fun h=> h.elim Or.inl id⟩⟩
theorem mdel_keys (k:K):∀(m:List (K×V)),(m.map Prod.fst).Nodup→((mdelT k m).map Prod.fst).Nodup∧∀x,x∈(mdelT k m).map Prod.fst↔x≠k∧x∈m.map Prod.fst
 | [],_=> by simp [mdelT]
 | p::r,h=> by
  rw [List.map_cons,List.nodup_cons] at h
  simp only [mdelT]
  cases hk:k==p.1
  ·obtain ⟨h1,h2⟩:=mdel_keys k r h.2
   simp only [cond_false,List.map_cons,List.nodup_cons,List.mem_cons]
   refine ⟨⟨fun hm=> h.1 ((h2 _).1 hm).2,h1⟩,fun x=> ?_⟩
   rw [h2 x]
   constructor
   ·rintro (h | ⟨h3,h4⟩)
    ·subst h
     exact ⟨fun e=> by rw [e] at hk;simp at hk,Or.inl rfl⟩
    ·exact ⟨h3,Or.inr h4⟩
   ·rintro ⟨h3,h4 | h4⟩
    ·exact Or.inl h4
    ·exact Or.inr ⟨h3,h4⟩
  ·have hk:=eq_of_beq hk
   subst hk
   simp only [cond_true,List.map_cons,List.mem_cons]
   refine ⟨h.2,fun x=> ⟨fun hm=> ⟨fun e=> h.1 (e ▸ hm),Or.inr hm⟩,?_⟩⟩
   rintro ⟨h3,h4 | h4⟩
   ·exact absurd h4 h3
   ·exact h4
end
def DueN (inputs:List api_Input) (outs:List (List api_Out)) (n:Nat) (d:api_Debt):Prop:=
 ∃i,i < n∧hasE outs d.Event d.Net i=true∧∀j,i < j→j < n→¬isD d.Event d.Net (inputs.getD j default)
theorem aDebts_L1_eq (row:List api_Out) (hl:row.length≤1000000) (m:List (api_Debt×Bool)) (hm:(m.map Prod.fst).Nodup):
  ∃m',loopF (audit_Debts_L1 row) ((0:Int),m)=some (.inl m')∧(m'.map Prod.fst).Nodup∧∀x,x∈m'.map Prod.fst↔x∈m.map Prod.fst∨row.any (isE x.Event x.Net)=true:=by
 refine loopF_inv (body:=audit_Debts_L1 row) row.length (fun t s=> s.1=(t:Int)∧(s.2.map Prod.fst).Nodup∧∀x,x∈s.2.map Prod.fst↔x∈m.map Prod.fst∨(row.take t).any (isE x.Event x.Net)=true)
  (fun r=> ∃m',r=some (.inl m')∧(m'.map Prod.fst).Nodup∧∀x,x∈m'.map Prod.fst↔x∈m.map Prod.fst∨row.any (isE x.Event x.Net)=true) ?_ ?_ ⟨rfl,hm,fun x=> by simp⟩
 ·rintro t ⟨a,s⟩ ht ⟨h1,h2,h3⟩
  dsimp only at h1 h2 h3
  subst h1
  left
  have hw:IntKind.i64.wrap ((t:Int) + 1)=((t + 1:Nat):Int):=by
   rw [wrap64 (by omega) (by omega)]
   rfl
  unfold audit_Debts_L1
  dsimp only
  rw [decide_eq_true (by omega),cond_true,bind_some_of (getI_in default ht),hw]
  cases hk:((row.getD t default).Kind==(2:Int))
  ·refine ⟨_,rfl,rfl,h2,fun x=> ?_⟩
   dsimp only
   have hno:isE x.Event x.Net (row.getD t default)=false:=by
    unfold isE
    rw [hk]
    rfl
   rw [h3 x,take_succ_getD row default ht,List.any_append,List.any_cons,hno,List.any_nil,Bool.or_false,Bool.or_false]
  ·obtain ⟨q1,q2⟩:=mput_keys (api_Debt.mk (row.getD t default).Event (row.getD t default).Net) true s h2
   refine ⟨_,rfl,rfl,q1,fun x=> ?_⟩
   dsimp only
   rw [q2 x,h3 x,take_succ_getD row default ht,List.any_append]
   obtain ⟨e,n⟩:=x
   simp only [List.any_cons,List.any_nil,Bool.or_false,Bool.or_eq_true]
   unfold isE
   rw [hk]
   simp only [Bool.true_and,Bool.and_eq_true,beq_iff_eq,api_Debt.mk.injEq]
   constructor
   ·rintro (⟨h,h'⟩ | h | h)
    ·exact Or.inr (Or.inr ⟨h.symm,h'.symm⟩)
    ·exact Or.inl h
    ·exact Or.inr (Or.inl h)
   ·rintro (h | h | ⟨h,h'⟩)
    ·exact Or.inr (Or.inl h)
    ·exact Or.inr (Or.inr h)
    ·exact Or.inl ⟨h.symm,h'.symm⟩
 ·rintro ⟨a,s⟩ ⟨h1,h2,h3⟩
  dsimp only at h1 h2 h3
  subst h1
  refine ⟨.inl s,?_,s,rfl,h2,fun x=> ?_⟩
  ·unfold audit_Debts_L1
   dsimp only
   rw [decide_eq_false (by omega)]
   rfl
  ·rw [h3 x,List.take_length]
theorem DueN_succ (inputs:List api_Input) (outs:List (List api_Out)) (i:Nat) (d:api_Debt):DueN inputs outs (i + 1) d↔hasE outs d.Event d.Net i=true∨(¬isD d.Event d.Net (inputs.getD i default)∧DueN inputs outs i d):=by
 constructor
 ·rintro ⟨k,h1,h2,h3⟩
  by_cases hk:k=i
  ·exact Or.inl (hk ▸ h2)
  ·exact Or.inr ⟨h3 i (by omega) (by omega),k,by omega,h2,fun j h4 h5=> h3 j h4 (by omega)⟩
 ·rintro (h | ⟨h1,k,h2,h3,h4⟩)
  ·exact ⟨i,by omega,h,fun j h1 h2=> by omega⟩
  ·refine ⟨k,by omega,h3,fun j h5 h6=> ?_⟩
   by_cases hj:j=i
   ·rw [hj];exact h1
   ·exact h4 j h5 (by omega)
theorem aDebts_L2_eq (inputs:List api_Input) (outs:List (List api_Out)) (hio:inputs.length=outs.length) (hn:outs.length≤1000000) (hl:∀l∈outs,l.length≤1000000):
  ∃m,loopF (audit_Debts_L2 inputs outs) ((0:Int),([]:List (api_Debt×Bool)))=some (.inl m)∧(m.map Prod.fst).Nodup∧∀x,x∈m.map Prod.fst↔DueN inputs outs inputs.length x:=by
 refine loopF_inv (body:=audit_Debts_L2 inputs outs) inputs.length (fun t s=> s.1=(t:Int)∧(s.2.map Prod.fst).Nodup∧∀x,x∈s.2.map Prod.fst↔DueN inputs outs t x)
  (fun r=> ∃m,r=some (.inl m)∧(m.map Prod.fst).Nodup∧∀x,x∈m.map Prod.fst↔DueN inputs outs inputs.length x) ?_ ?_ ⟨rfl,by simp,fun x=> by
   constructor
   ·intro h;simp at h
   ·rintro ⟨i,h,_⟩;omega⟩
 ·rintro t ⟨a,s⟩ ht ⟨h1,h2,h3⟩
  dsimp only at h1 h2 h3
  subst h1
  left
  have hto:t < outs.length:=by omega
  have hrow:(outs.getD t []).length≤1000000:=by
   rw [List.getD_eq_getElem?_getD,List.getElem?_eq_getElem hto]
   exact hl _ (List.getElem_mem hto)
  have hw:IntKind.i64.wrap ((t:Int) + 1)=((t + 1:Nat):Int):=by
   rw [wrap64 (by omega) (by omega)]
   rfl
  have step:∀m1:List (api_Debt×Bool),(m1.map Prod.fst).Nodup→(∀x,x∈m1.map Prod.fst↔¬isD x.Event x.Net (inputs.getD t default)∧DueN inputs outs t x)→
    ∃m',loopF (audit_Debts_L1 (outs.getD t [])) ((0:Int),m1)=some (.inl m')∧(m'.map Prod.fst).Nodup∧∀x,x∈m'.map Prod.fst↔DueN inputs outs (t + 1) x:=by
   intro m1 q1 q2
   obtain ⟨m',k1,k2,k3⟩:=aDebts_L1_eq (outs.getD t []) hrow m1 q1
   refine ⟨m',k1,k2,fun x=> ?_⟩
   rw [k3 x,q2 x,DueN_succ]
   unfold hasE
   exact Or.comm
  have body:∃m1:List (api_Debt×Bool),(m1.map Prod.fst).Nodup∧(∀x,x∈m1.map Prod.fst↔¬isD x.Event x.Net (inputs.getD t default)∧DueN inputs outs t x)∧
    audit_Debts_L2 inputs outs ((t:Int),s)=(seqF (A:=List (api_Debt×Bool)) (loopF (audit_Debts_L1 (outs.getD t [])) ((0:Int),m1)) fun s31=> some (.inl (((t + 1:Nat):Int),s31))):=by
   unfold audit_Debts_L2
   dsimp only
   rw [decide_eq_true (by omega),cond_true,bind_some_of (getI_in default ht),hw]
   cases h8:((inputs.getD t default).Kind==(8:Int))
   ·refine ⟨s,h2,fun x=> ?_,?_⟩
    ·rw [h3 x]
     exact ⟨fun h=> ⟨fun hd=> by rw [hd.1] at h8;simp at h8,h⟩,fun h=> h.2⟩
    ·rw [cond_false]
     show seqF (A:=List (api_Debt×Bool)) ((getI outs (t:Int)).bind _) _=_
     rw [getI_in [] hto]
     rfl
   ·have h8':=eq_of_beq h8
    obtain ⟨b,k1,k2⟩:=gate_Right_eq (inputs.getD t default) h8'
    cases b
    ·refine ⟨s,h2,fun x=> ?_,?_⟩
     ·rw [h3 x]
      exact ⟨fun h=> ⟨fun hd=> by simpa using k2.2 hd.2.2.2,h⟩,fun h=> h.2⟩
     ·rw [cond_true]
      show seqF (A:=List (api_Debt×Bool)) (seqF (A:=List (api_Debt×Bool)) ((gate_Right (inputs.getD t default)).bind _) _) _=_
      rw [k1]
      show seqF (A:=List (api_Debt×Bool)) ((getI outs (t:Int)).bind _) _=_
      rw [getI_in [] hto]
      rfl
    ·obtain ⟨q1,q2⟩:=mdel_keys (api_Debt.mk (inputs.getD t default).Event (inputs.getD t default).Net) s h2
     refine ⟨_,q1,fun x=> ?_,?_⟩
     ·rw [q2 x,h3 x]
      obtain ⟨e,n⟩:=x
      constructor
      ·rintro ⟨g1,g2⟩
       refine ⟨fun hd=> g1 ?_,g2⟩
       obtain ⟨_,d1,d2,_⟩:=hd
       rw [d1,d2]
      ·rintro ⟨g1,g2⟩
       refine ⟨fun he=> g1 ?_,g2⟩
       injection he with e1 e2
       exact ⟨h8',e1.symm,e2.symm,k2.1 rfl⟩
     ·rw [cond_true]
      show seqF (A:=List (api_Debt×Bool)) (seqF (A:=List (api_Debt×Bool)) ((gate_Right (inputs.getD t default)).bind _) _) _=_
      rw [k1]
      show seqF (A:=List (api_Debt×Bool)) ((getI outs (t:Int)).bind _) _=_
      rw [getI_in [] hto]
      rfl
  obtain ⟨m1,g1,g2,g3⟩:=body
  obtain ⟨m',k1,k2,k3⟩:=step m1 g1 g2
  refine ⟨(((t + 1:Nat):Int),m'),?_,rfl,k2,k3⟩
  rw [g3,k1]
  rfl
 ·rintro ⟨a,s⟩ ⟨h1,h2,h3⟩
  dsimp only at h1 h2 h3
  subst h1
  refine ⟨.inl s,?_,s,rfl,h2,h3⟩
  unfold audit_Debts_L2
  dsimp only
  rw [decide_eq_false (by omega)]
  rfl
end Go.Proofs.YtiklglcjecopcaaGreatDoor

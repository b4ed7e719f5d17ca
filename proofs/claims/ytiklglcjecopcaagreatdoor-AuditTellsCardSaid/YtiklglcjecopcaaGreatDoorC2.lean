/-
  The walk of audit.known: for each event a new map with all that it knows.
-/
import Derived.Test.YtiklglcjecopcaaGreatDoorQ21
import Derived.Laws.MakeOwn
import Derived.Carry
import Derived.Deep.LoopGhost
import Derived.Deep.DeepCutAuto
import Derived.StillTailTactics
namespace Go.Proofs.YtiklglcjecopcaaGreatDoor
open Go.RowKit Go.Maps Go.Shelf
theorem info94:(Tryz.prog.info? 94).map (fun i=> (i.zero,i.size,i.bytes))=some (some (.map none),1,8):=by kernel_rfl
theorem run_mk (w:World) (n:Nat) (hn:n≤1000):∃cur,cur.size=n∧(Instr.makeSlice 92 (.int .i64 (n:Int)) (.int .i64 (n:Int))).run Tryz.prog w= .ok (.slice (some ⟨w.heap.size,0,none⟩) n n) (w.alloc (.cells cur 94)):=by
 obtain ⟨it,hi,hz,hsz,hby⟩:=info_parts info94
 have:=run_make (P:=Tryz.prog) w 92 94 it _ Tryz.underlying92 hi hz .i64 .i64 (n:Int) (n:Int) (by omega) (by omega) (by rw [hby];omega) (by omega)
 simp only [Int.toNat_natCast] at this
 exact ⟨_,by rw [size_madeCells,hsz,Nat.mul_one],this⟩
theorem MRow.start (w:World) {n:Nat} (cur:Array Value) (hc:cur.size=n) (l:List api_Event):MRow w n w.heap.size (w.heap.size + 1) (w.heap.size + 2) [] (Sf l) (fun j=> j) (lastF l 0) 0 ((w.alloc (.cells cur 94)).alloc (.map #[] 0)):=by
 have h0:=heap_alloc_new w (.cells cur 94)
 have h1:=TabAt.new (kt:=3) (kl:=Lit.int .i64) (ok:=inI) (w.alloc (.cells cur 94))
 rw [World.size_alloc] at h1
 rw [lastF_zero]
 exact ⟨(below_alloc w _).trans ((below_alloc _ _).mono (by simp)),⟨cur,94,(Below.heap_alloc _ _ _ (by simp)).trans h0,hc,fun j m h=> by simp at h⟩,fun j m h=> by simp at h,h1,⟨by omega,by omega,by omega,by omega,by omega,by simp⟩,fun m h=> by simp at h,List.nodup_nil⟩
def evCells (e:api_Event) (cA:Option Addr) (cN cC:Nat) (fA:Option Addr) (fN fC:Nat):Array Value:= #[.int .i64 e.Author,.int .i64 e.Seq,.slice cA cN cC,.int .i64 e.Kind,.int .i64 e.Group,.int .i64 e.Target,.int .i64 e.Quote,.int .i64 e.Who,.int .i64 e.N,.string e.Text,.slice fA fN fC,.int .i64 e.Step]
def Sk (l:List api_Event) (k:Nat):Nat→Int→Prop:=fun j=> if j=k then fun _=> False else Sf l j
def Nk (k:Nat):Nat→Nat:=fun j=> if j=k then 0 else j
theorem MRow.room {w:World} {n g lb B:Nat} {Ms:List Nat} {Ss:Nat→Int→Prop} {Ns:Nat→Nat} {f:Int→Option Int} {nf:Nat} {W:World} (h:MRow w n g lb B Ms Ss Ns f nf W) {k:Nat} (hk:k < n):∃x,W.cell? ⟨g,k,none⟩=some x∧W.frozen? ⟨g,k,none⟩=false:=by
 obtain ⟨cur,T,hh,hc,_⟩:=h.row
 exact ⟨cur[k]'(by omega),by rw [cell_of_row _ _ _ cur T (0,0) hh];exact Array.getElem?_eq_getElem _,frozen_of_row _ _ _ cur T hh⟩
structure KB (w:World) (n g lb B:Nat) (Ms:List Nat) (Ss:Nat→Int→Prop) (Ns:Nat→Nat) (f:Int→Option Int) (nf:Nat) (eb:Nat) (cs:Array Value) (W:World):Prop where
 row:MRow w n g lb B Ms Ss Ns f nf W
 box:W.heap[eb]? =some (.cells cs 69 (0,0))
 lt:eb < B
section
variable {w : World} {n g lb B : Nat} {Ms : List Nat} {Ss : Nat → Int → Prop} {Ns : Nat → Nat} {f : Int → Option Int} {nf eb : Nat} {W : World}
theorem KB.next' {cs:Array Value} (h:KB w n g lb B Ms Ss Ns f nf eb cs W) {W':World} (hb:Below B W W') (hsz:W.heap.size≤W'.heap.size):KB w n g lb B Ms Ss Ns f nf eb cs W':=⟨h.row.next hb hsz,(hb.block eb h.lt).trans h.box,h.lt⟩
theorem KB.next {cs:Array Value} (h:KB w n g lb B Ms Ss Ns f nf eb cs W) {W':World} (hb:Below W.heap.size W W'):KB w n g lb B Ms Ss Ns f nf eb cs W':=h.next' (hb.mono h.row.ge.2.2.2.2.2) hb.size
theorem KB.drew {cs:Array Value} (h:KB w n g lb B Ms Ss Ns f nf eb cs W):KB w n g lb B Ms Ss Ns f nf eb cs W.drew:=h.next (below_drew0 (n:=1))
theorem KB.inv {cs:Array Value} (h:KB w n g lb B Ms Ss Ns f nf eb cs W) (hI:Inv w):Inv W:=inv_below hI h.row.below
theorem KB.lift {cs:Array Value} (h:KB w n g lb B Ms Ss Ns f nf eb cs W) {A:Nat→Prop} (hA:∀b,A b→b < w.heap.size):∀b,A b→b < W.heap.size:=fun b hb=> Nat.lt_of_lt_of_le (hA b hb) h.row.below.size
theorem KB.cells {e:api_Event} {cA:Option Addr} {cN cC:Nat} {fA:Option Addr} {fN fC:Nat} (h:KB w n g lb B Ms Ss Ns f nf eb (evCells e cA cN cC fA fN fC) W):W.cell? ⟨eb,2,none⟩=some (.slice cA cN cC)∧W.cell? ⟨eb,5,none⟩=some (.int .i64 e.Target)∧W.cell? ⟨eb,6,none⟩=some (.int .i64 e.Quote):=by
 refine ⟨?_,?_,?_⟩ <;> (rw [cell_of_row _ _ _ _ 69 (0,0) h.box];rfl)
theorem KB.author {e:api_Event} {cA:Option Addr} {cN cC:Nat} {fA:Option Addr} {fN fC:Nat} (h:KB w n g lb B Ms Ss Ns f nf eb (evCells e cA cN cC fA fN fC) W):W.cell? ⟨eb,0,none⟩=some (.int .i64 e.Author):=by
 rw [cell_of_row _ _ _ _ 69 (0,0) h.box]
 rfl
theorem KB.start {l:List api_Event} {k:Nat} {cs:Array Value} (h:MRow w n g lb B Ms (Sf l) (fun j=> j) f nf W) (hl:Ms.length=k) (hk:k < n) (hx:W.heap[eb]? =some (.cells cs 69 (0,0))) (he:eb≠g):
  KB w n g lb (W.heap.size + 1) (Ms ++ [W.heap.size]) (Sk l k) (Nk k) f nf eb cs ((W.alloc (.map #[] 0)).setCell ⟨g,k,none⟩ (.map (some W.heap.size))):=by
 subst hl
 have hlt:=lt_of_block hx
 refine ⟨h.push hk,?_,by omega⟩
 have:((W.alloc (.map #[] 0)).setCell ⟨g,Ms.length,none⟩ (.map (some W.heap.size))).heap[eb]? =(W.alloc (.map #[] 0)).heap[eb]? :=by
  simp only [World.setCell]
  rw [Array.getElem?_modify,if_neg (fun e=> he e.symm)]
 rw [this]
 exact (Below.heap_alloc W _ eb hlt).trans hx
structure KN (w:World) (n g lb B:Nat) (Ms:List Nat) (Ss:Nat→Int→Prop) (Ns:Nat→Nat) (f:Int→Option Int) (nf:Nat) (eb:Nat) (cs:Array Value) (xs:List Int) (v:Value) (nb:Option Nat) (W:World):Prop extends KB w n g lb B Ms Ss Ns f nf eb cs W where
 ints:Ints W v xs nb
 own:∀c,nb=some c→B≤c∧c < W.heap.size
theorem KN.add {cs:Array Value} {xs:List Int} {v:Value} {nb:Option Nat} (h:KB w n g lb B Ms Ss Ns f nf eb cs W) (hi:Ints W v xs nb) (hb:∀c,nb=some c→B≤c∧c < W.heap.size) {ys:List Int} (hy:0 < ys.length) (hn:xs.length + ys.length≤1000000) {ad:Addr} {c:Nat} (hc:∀j y,ys[j]? =some y→W.cell? (ad.add j)=some (.int .i64 y)):
  ∃v' W' b',(∀ty,(Builtin.append_ #[44,44] ty #[v,.slice (some ad) ys.length c]).run Tryz.prog W= .ok v' W')∧KN w n g lb B Ms Ss Ns f nf eb cs (xs ++ ys) v' b' W':=by
 obtain ⟨v',W',b',hrun,h1,h2,h3,h4,h5,h6,gg,h7,h8,h9⟩:=hi.append hy hn hc
 refine ⟨v',W',b',hrun,h.next' ⟨h2,h3,h4,Nat.le_trans h.row.ge.2.2.2.2.2 (Nat.le_refl _) |> fun _=> h5,fun k hk=> h6 k (by have:=h.row.ge;omega) fun e=> by have:=(hb k e).1;omega⟩ h5,h1,fun c hc=> ?_⟩
 rw [h7] at hc
 injection hc with hc
 subst hc
 refine ⟨?_,h9⟩
 rcases h8 with e | e
 ·exact (hb _ e).1
 ·exact Nat.le_trans h.row.ge.2.2.2.2.2 e
end
theorem KN.next {w:World} {n g lb B:Nat} {Ms:List Nat} {Ss:Nat→Int→Prop} {Ns:Nat→Nat} {f:Int→Option Int} {nf eb:Nat} {W:World} {cs:Array Value} {xs:List Int} {v:Value} {nb:Option Nat} (h:KN w n g lb B Ms Ss Ns f nf eb cs xs v nb W) {W':World} (hb:Below W.heap.size W W'):KN w n g lb B Ms Ss Ns f nf eb cs xs v nb W':=
 ⟨h.toKB.next hb,h.ints.kept fun c hc=> hb.block c (h.own c hc).2,fun c hc=> ⟨(h.own c hc).1,Nat.lt_of_lt_of_le (h.own c hc).2 hb.size⟩⟩
theorem names_put1 {w:World} {n g lb B:Nat} {Ms:List Nat} {Ss:Nat→Int→Prop} {Ns:Nat→Nat} {f:Int→Option Int} {nf eb:Nat} {W:World} {cs:Array Value} {xs:List Int} {v:Value} {nb:Option Nat} {x:Int} (h:KN w n g lb B Ms Ss Ns f nf eb cs xs v nb W) (hn:xs.length≤2000) {p:Nat} {c:Nat} (hc:W.heap[p]? =some (.cells #[.int .i64 x] 3 (0,0))):
  ∃v' W' b',(∀ty,(Builtin.append_ #[44,44] ty #[v,.slice (some ⟨p,0,none⟩) 1 c]).run Tryz.prog W= .ok v' W')∧Hid (KN w n g lb B Ms Ss Ns f nf eb cs (xs ++ [x]) v' b' W'):=by
 obtain ⟨v',W',b',hrun,hk⟩:=KN.add h.toKB h.ints h.own (ys:= [x]) (by simp) (by simp;omega) (ad:=⟨p,0,none⟩) (c:=c) (fun j z hz=> by
  rw [add_eq,Nat.zero_add,cell_of_row _ _ _ _ 3 (0,0) hc]
  match j,hz with
  | 0,hz=> injection hz with hz;rw [←hz];rfl)
 exact ⟨v',W',b',hrun,Lib.hid hk⟩
structure KI (w:World) (n g lb B:Nat) (Ms:List Nat) (l:List api_Event) (k m:Nat) (f:Int→Option Int) (nf:Nat) (xs:List Int) (v:Value) (nb:Option Nat) (S:Int→Prop) (N:Nat) (W:World):Prop where
 row:MRow w n g lb B Ms (fun j=> if j=k then S else Sf l j) (fun j=> if j=k then N else j) f nf W
 at_:Ms[k]? =some m
 ints:Ints W v xs nb
 own:∀c,nb=some c→B≤c∧c < W.heap.size
section
variable {w : World} {n g lb B : Nat} {Ms : List Nat} {l : List api_Event} {k m : Nat} {f : Int → Option Int} {nf : Nat} {xs : List Int} {v : Value} {nb : Option Nat} {S : Int → Prop} {N : Nat} {W : World}
theorem SetAt.mono {N':Nat} (h:SetAt W m N S) (hn:N≤N'):SetAt W m N' S:=by
 obtain ⟨D,h1,h2⟩:=h
 exact ⟨D,h1.mono hn,h2⟩
theorem KI.drew (h:KI w n g lb B Ms l k m f nf xs v nb S N W):KI w n g lb B Ms l k m f nf xs v nb S N W.drew:=
 ⟨h.row.next' (below_drew0 (n:=1)),h.at_,h.ints.kept fun c hc=> rfl,h.own⟩
theorem KI.cells (h:KI w n g lb B Ms l k m f nf xs v nb S N W) {j mj:Nat} (hj:Ms[j]? =some mj):W.cell? ⟨g,k,none⟩=some (.map (some m))∧W.cell? ⟨g,j,none⟩=some (.map (some mj)):=⟨h.row.cell h.at_,h.row.cell hj⟩
theorem KI.set (h:KI w n g lb B Ms l k m f nf xs v nb S N W):SetAt W m N S:=by
 have:=h.row.sets k m h.at_
 rw [if_pos rfl,if_pos rfl] at this
 exact this
theorem KI.other (h:KI w n g lb B Ms l k m f nf xs v nb S N W) {j mj:Nat} (hj:Ms[j]? =some mj) (hne:j≠k):SetAt W mj j (Sf l j):=by
 have:=h.row.sets j mj hj
 rw [if_neg hne,if_neg hne] at this
 exact this
theorem KI.apart (h:KI w n g lb B Ms l k m f nf xs v nb S N W) {j mj:Nat} (hj:Ms[j]? =some mj) (hne:j≠k):m≠mj:=fun e=> by
 subst e
 exact hne ((List.getElem?_inj (List.getElem?_eq_some_iff.1 hj).1 h.row.nd).1 (hj.trans h.at_.symm))
theorem KI.turn (h:KI w n g lb B Ms l k m f nf xs v nb S N W) {N':Nat} {S':Int→Prop} {W':World} (hs:SetAt W' m N' S') (hg:W.grownBy W' (some m)):KI w n g lb B Ms l k m f nf xs v nb S' N' W':=by
 refine ⟨(h.row.turn h.at_ hs hg).congr fun j mj hj=> ?_,h.at_,h.ints.kept fun c hc=> ?_,fun c hc=> ⟨(h.own c hc).1,Nat.lt_of_lt_of_le (h.own c hc).2 hg.size⟩⟩
 ·have:=(h.row.turn h.at_ hs hg).sets j mj hj
  by_cases hjk:j=k
  ·subst hjk
   rw [if_pos rfl,if_pos rfl] at this
   rw [if_pos rfl,if_pos rfl]
   exact this
  ·rw [if_neg hjk,if_neg hjk,if_neg hjk,if_neg hjk] at this
   rw [if_neg hjk,if_neg hjk]
   exact this
 ·have h1:=h.own c hc
  have h2:=h.row.ms m (List.mem_of_getElem? h.at_)
  exact hg.block c h1.2 fun e=> by injection e with e;omega
theorem KI.reset (h:KI w n g lb B Ms l k m f nf xs v nb S N W) {t:Nat} (hS:∀x,inI x→(S x↔St l xs k t x)):KI w n g lb B Ms l k m f nf xs v nb (St l xs k t) k W:=by
 refine ⟨h.row.congr fun j mj hj=> ?_,h.at_,h.ints,h.own⟩
 by_cases hjk:j=k
 ·subst hjk
  rw [h.at_] at hj
  injection hj with hj
  subst hj
  rw [if_pos rfl,if_pos rfl]
  exact (h.set.congr hS).tight fun x hx=> hx.lt
 ·rw [if_neg hjk,if_neg hjk]
  exact h.other hj hjk
theorem KI.start {Ms:List Nat} {W:World} (h:MRow w n g lb B (Ms ++ [m]) (Sk l k) (Nk k) f nf W) (hl:Ms.length=k) (hi:Ints W v xs nb) (ho:∀c,nb=some c→B≤c∧c < W.heap.size):KI w n g lb B (Ms ++ [m]) l k m f nf xs v nb (St l xs k 0) k W:=by
 refine ⟨h.congr fun j mj hj=> ?_,by rw [←hl];simp,hi,ho⟩
 have:=h.sets j mj hj
 unfold Sk Nk at this
 by_cases hjk:j=k
 ·rw [if_pos hjk,if_pos hjk] at this
  rw [if_pos hjk,if_pos hjk]
  exact (this.mono (Nat.zero_le k)).congr fun x _=> ⟨fun h=> h.elim,fun h=> absurd h (St_zero x)⟩
 ·rw [if_neg hjk,if_neg hjk] at this
  rw [if_neg hjk,if_neg hjk]
  exact this
theorem KI.done {Ms:List Nat} {W:World} {e:api_Event} (h:KI w n g lb B Ms l k m f nf (namesB l k e) v nb (St l (namesB l k e) k (namesB l k e).length) k W) (he:l[k]? =some e):MRow w n g lb B Ms (Sf l) (fun j=> j) f nf W:=by
 refine h.row.congr fun j mj hj=> ?_
 by_cases hjk:j=k
 ·subst hjk
  rw [h.at_] at hj
  injection hj with hj
  subst hj
  exact h.set.congr fun x _=> St_all he x
 ·exact h.other hj hjk
end
theorem names_put {w:World} {n g lb B:Nat} {Ms:List Nat} {Ss:Nat→Int→Prop} {Ns:Nat→Nat} {f:Int→Option Int} {nf eb:Nat} {W:World} {cs:Array Value} {xs:List Int} {v:Value} {nb:Option Nat} {x y:Int} (h:KB w n g lb B Ms Ss Ns f nf eb cs W) (hi:Ints W v xs nb) (hb:∀c,nb=some c→B≤c∧c < W.heap.size) (hn:xs.length≤1000) {p:Nat} {c:Nat} (hc:W.heap[p]? =some (.cells #[.int .i64 x,.int .i64 y] 3 (0,0))):
  ∃v' W' b',(∀ty,(Builtin.append_ #[44,44] ty #[v,.slice (some ⟨p,0,none⟩) 2 c]).run Tryz.prog W= .ok v' W')∧Hid (KN w n g lb B Ms Ss Ns f nf eb cs (xs ++ [x,y]) v' b' W'):=by
 obtain ⟨v',W',b',hrun,hk⟩:=KN.add h hi hb (ys:= [x,y]) (by simp) (by simp;omega) (ad:=⟨p,0,none⟩) (c:=c) (fun j z hz=> by
  rw [add_eq,Nat.zero_add,cell_of_row _ _ _ _ 3 (0,0) hc]
  match j,hz with
  | 0,hz=> injection hz with hz;rw [←hz];rfl
  | 1,hz=> injection hz with hz;rw [←hz];rfl)
 exact ⟨v',W',b',hrun,Lib.hid hk⟩
set_option maxRecDepth 100000 in
set_option maxHeartbeats 8000000 in
theorem known_walk (A:Nat→Prop) (w:World) (l:List api_Event) (a:Option Addr) (c:Nat) (hI:Inv w) (hA:∀b,A b→b < w.heap.size) (h:RelD A w (.fz (l.map api_Event.enc)) (.slice a l.length c)) (hl:l.length≤1000) (hin:∀e∈l,inI e.Author) (hcs:∀e∈l,e.Causes.length≤1000):
  Calls Tryz.prog 22 #[.slice a l.length c] w fun r w'=> ∃(g lb B cap:Nat) (Ms:List Nat),r= .returned (.slice (some ⟨g,0,none⟩) l.length cap)∧Ms.length=l.length∧MRow w l.length g lb B Ms (Sf l) (fun j=> j) (lastF l l.length) l.length w':=by
 have HIN:=Lib.hid hin
 have HR:=Lib.hid h
 have HA:=Lib.hid hA
 have HCS:=Lib.hid hcs
 have HI:=Lib.hid hI
 clear hin h hA hcs hI
 generalize hn:l.length=n at *
 have HN:=Lib.hid hn
 clear hn
 have hmm:= @run_makeMap Tryz.prog
 obtain ⟨cur,hcur,hmk⟩:=run_mk w n hl
 have HC:=Lib.hid hcur
 clear hcur
 go_enter Tryz.func22,Tryz.ntmps22
 go_wp2_with fail
 have HM0:=Lib.hid (MRow.start w cur HC.out l)
 obtain ⟨W0,hW0⟩:∃X,(w.alloc (.cells cur 94)).alloc (.map #[] 0)=X:=⟨_,rfl⟩
 rw [hW0] at HM0 ⊢
 clear hW0 hmk HC
 generalize hg:w.heap.size=g at HM0 ⊢
 have HG:=Lib.hid hg
 clear hg
 go_loopg [18] n (fun q i W=> ∃(k B:Nat) (Ms:List Nat),k + q=n∧i= .int .i64 k∧Hid (Ms.length=k)∧Hid (MRow w n g (g + 1) B Ms (Sf l) (fun j=> j) (lastF l k) k W))
 case atStart=> exact ⟨0,_,[],by omega,rfl,Lib.hid rfl,HM0⟩
 case round=>
  obtain ⟨k,B,Ms,hk,rfl,HL,HM⟩:=hrel
  by_cases hlt:k < n
  ·have hei:l[k]? =some (l[k]'(by rw [HN.out];exact hlt)):=List.getElem?_eq_getElem _
   generalize hq:l[k]'(by rw [HN.out];exact hlt)=e at hei
   obtain ⟨b,o,hab⟩:∃b o,a=some ⟨b,o,none⟩:=by
    obtain ⟨a',c',h1,h2⟩:=ev_slice HR.out
    injection h1 with h1 h3 h4
    rw [h1]
    exact h2 k (by rw [HN.out];exact hlt)
   subst hab
   obtain ⟨cA,cN,cC,fA,fN,fC,hev⟩:=ev_at HA.out HR.out hei HM.out.below
   have HEI:=Lib.hid hei
   have HEV:=Lib.hid hev
   have e0:=hev.c0
   have e1:=hev.c1
   have e2:=hev.c2
   have e3:=hev.c3
   have e4:=hev.c4
   have e5:=hev.c5
   have e6:=hev.c6
   have e7:=hev.c7
   have e8:=hev.c8
   have e9:=hev.c9
   have e10:=hev.c10
   have e11:=hev.c11
   clear hq hei hev
   go_upto_region 6 with fail
   obtain ⟨W1,hW1⟩:∃X,wr.alloc (.cells #[.int .i64 e.Author,.int .i64 e.Seq,.slice cA cN cC,.int .i64 e.Kind,.int .i64 e.Group,.int .i64 e.Target,.int .i64 e.Quote,.int .i64 e.Who,.int .i64 e.N,.string e.Text,.slice fA fN fC,.int .i64 e.Step] 69)=X:=⟨_,rfl⟩
   have HB1:Hid (Below wr.heap.size wr W1):=Lib.hid (by rw [←hW1];exact below_alloc _ _)
   have HX1:Hid (W1.heap[wr.heap.size]? =some (.cells (evCells e cA cN cC fA fN fC) 69 (0,0))∧W1.heap.size=wr.heap.size + 1):=Lib.hid (by rw [←hW1];exact ⟨heap_alloc_new wr _,World.size_alloc _ _⟩)
   have HM1:=Lib.hid (HM.out.next' HB1.out)
   have HE1:=Lib.hid (HM.out.ge.2.2.2.2.2)
   rw [hW1]
   clear hW1 e0 e1 e2 e3 e4 e5 e6 e7 e8 e9 e10 e11
   generalize wr.heap.size=eb at HB1 HX1 HE1 ⊢
   obtain ⟨x0,hx0,hf0⟩:=(HM1.out.next' (below_alloc W1 (.map #[] 0))).room hlt
   go_upto_region 7 with fail
   have HP:=Lib.hid (KB.start HM1.out HL.out hlt HX1.out.1 (by have:=HM.out.ge;have:=HE1.out;omega))
   obtain ⟨W2,hW2⟩:∃X,(W1.alloc (.map #[] 0)).setCell ⟨g,k,none⟩ (.map (some W1.heap.size))=X:=⟨_,rfl⟩
   rw [hW2] at HP ⊢
   clear hW2 hx0 hf0 HX1
   generalize W1.heap.size=m at HP ⊢
   go_cut [7] from 27 to 35 (fun v W=> ∃nb,Hid (KN w n g (g + 1) (m + 1) (Ms ++ [m]) (Sk l k) (Nk k) (lastF l k) k eb (evCells e cA cN cC fA fN fC) (e.Causes ++ [e.Target,e.Quote]) v nb W))
   case first=>
    have HP:=Lib.hid HP.out.drew
    refine wp_region_held_drew (S:=fun W=> W.cell? ⟨eb,2,none⟩=some (.slice cA cN cC)∧W.cell? ⟨eb,5,none⟩=some (.int .i64 e.Target)∧W.cell? ⟨eb,6,none⟩=some (.int .i64 e.Quote)) (by kernel_rfl) ?_ (fun hHeld=> ?_)
    focus (exact HP.out.cells)
    refine wpAnyH_takes (by kernel_rfl) (fun d _ _ _ _ h=> by cases d <;> exact h) [0,1,3,4,5,6] 4 _ _ _ ?_ _ (by rfl) (by kernel_rfl) ?_ (by assumption) ?_
    rotate_left
    focus
     simp only [pick_lit,List.filterMap_cons,List.filterMap_nil,List.getElem?_cons_zero,List.getElem?_cons_succ]
     (refine Takes.want ?_ (by rfl) (fun w' hw'=> ?_) ?_;rotate_left;(focus ((try dsimp only at hw');go_simp;(first | done | with_reducible rfl)));try simp only [Act.put,List.setIfInBounds_toArray,List.set_cons_zero,List.set_cons_succ])
     (refine Takes.want ?_ (by rfl) (fun w' hw'=> ?_) ?_;rotate_left;(focus ((try dsimp only at hw');go_simp;(first | done | with_reducible rfl)));try simp only [Act.put,List.setIfInBounds_toArray,List.set_cons_zero,List.set_cons_succ])
     (refine Takes.want ?_ (by rfl) (fun w' hw'=> ?_) ?_;rotate_left;(focus ((try dsimp only at hw');go_simp;(first | done | with_reducible rfl)));try simp only [Act.put,List.setIfInBounds_toArray,List.set_cons_zero,List.set_cons_succ])
     (refine Takes.want ?_ (by rfl) (fun w' hw'=> ?_) ?_;rotate_left;(focus ((try dsimp only at hw');go_simp;(first | done | with_reducible rfl)));try simp only [Act.put,List.setIfInBounds_toArray,List.set_cons_zero,List.set_cons_succ])
     (refine Takes.want ?_ (by rfl) (fun w' hw'=> ?_) ?_;rotate_left;(focus ((try dsimp only at hw');go_simp;(first | done | with_reducible rfl)));try simp only [Act.put,List.setIfInBounds_toArray,List.set_cons_zero,List.set_cons_succ])
     (refine Takes.want ?_ (by rfl) (fun w' hw'=> ?_) ?_;rotate_left;(focus ((try dsimp only at hw');go_simp;(first | done | with_reducible rfl)));try simp only [Act.put,List.setIfInBounds_toArray,List.set_cons_zero,List.set_cons_succ])
     exact Takes.done
    refine wpAnyH_two 2 7 (fuel:=3) (by kernel_rfl) (by rfl) (fun K hK=> ?_) (fun K hK=> ?_)
    ·simp only [pick_lit,List.filterMap_cons,List.filterMap_nil,List.getElem?_cons_zero,List.getElem?_cons_succ,AtOps]
     go_simp
     (go_at_call 71;refine (clone_any (HP.out.inv HI.out) (HP.out.lift HA.out) (relD_below HA.out HEV.out.ca HP.out.row.below) (by have:=HCS.out e (List.mem_of_getElem? HEI.out);omega)).mono ?_;rintro r W4 ⟨x,nb,rfl,hb,hin,hnb⟩;have HNB:=Lib.hid (HP.out.row.ge.2.2.2.2.2);have HP:=Lib.hid (HP.out.next hb);have HIN4:=Lib.hid hin;have HNB4:=Lib.hid hnb;clear hb hin hnb)
     refine hK.out _ _ ?_ (fun hHeld=> ?_)
     focus (exact HP.out.cells)
     clear hK K
     try simp only [Act.put,List.setIfInBounds_toArray,List.set_cons_zero,List.set_cons_succ]
     refine wpAnyH_one 7 (fuel:=2) (by kernel_rfl) (by rfl) (fun K hK=> ?_)
     simp only [pick_lit,List.filterMap_cons,List.filterMap_nil,List.getElem?_cons_zero,List.getElem?_cons_succ,AtOps]
     go_simp
     have HP:=Lib.hid (HP.out.next (below_alloc W4 (.cells #[.int .i64 e.Target,.int .i64 e.Quote] 3)))
     refine hK.out _ _ ?_ (fun hHeld=> ?_)
     focus (exact HP.out.cells)
     clear hK K
     try simp only [Act.put,List.setIfInBounds_toArray,List.set_cons_zero,List.set_cons_succ]
     obtain ⟨v6,W6,nb6,hrun,HK6⟩:=names_put (x:=e.Target) (y:=e.Quote) (p:=W4.heap.size) (c:=2) HP.out (HIN4.out.kept fun c hc=> Below.heap_alloc _ _ _ (HNB4.out c hc).2) (fun c hc=> ⟨Nat.le_trans HNB.out (HNB4.out c hc).1,by have:=(HNB4.out c hc).2;simp;omega⟩) (HCS.out e (List.mem_of_getElem? HEI.out)) (heap_alloc_new W4 _)
     refine wpAnyH_one 8 (fuel:=1) (by kernel_rfl) (by rfl) (fun K hK=> ?_)
     simp only [pick_lit,List.filterMap_cons,List.filterMap_nil,List.getElem?_cons_zero,List.getElem?_cons_succ,AtOps]
     rw [if_pos (by rfl)]
     refine wp_append_run _ (.tmp 29) (.tmp 34) 44 44 rfl _ _ v6 W6 rfl rfl (hrun _) ?_
     refine hK.out _ _ ?_ (fun hHeld=> ?_)
     focus (exact HK6.out.cells)
     clear hK K
     try simp only [Act.put,List.setIfInBounds_toArray,List.set_cons_zero,List.set_cons_succ]
     refine wpAnyH_takes (by kernel_rfl) (fun d _ _ _ _ h=> by cases d <;> exact h) [9] 0 _ _ _ ?_ _ (by rfl) (by kernel_rfl) ?_ (by assumption) ?_
     rotate_left
     focus
      simp only [pick_lit,List.filterMap_cons,List.filterMap_nil,List.getElem?_cons_zero,List.getElem?_cons_succ]
      (refine Takes.want ?_ (by rfl) (fun w' hw'=> ?_) ?_;rotate_left;(focus ((try dsimp only at hw');go_simp;(first | done | with_reducible rfl)));try simp only [Act.put,List.setIfInBounds_toArray,List.set_cons_zero,List.set_cons_succ])
      exact Takes.done
     refine wpAnyH_done (by kernel_rfl) ?_ _
     clear hHeld hrun
     go_wp2_with fail
     go_meet
     exact ⟨nb6,HK6⟩
    ·simp only [pick_lit,List.filterMap_cons,List.filterMap_nil,List.getElem?_cons_zero,List.getElem?_cons_succ,AtOps]
     go_simp
     have HP:=Lib.hid (HP.out.next (below_alloc W2.drew (.cells #[.int .i64 e.Target,.int .i64 e.Quote] 3)))
     refine hK.out _ _ ?_ (fun hHeld=> ?_)
     focus (exact HP.out.cells)
     clear hK K
     try simp only [Act.put,List.setIfInBounds_toArray,List.set_cons_zero,List.set_cons_succ]
     refine wpAnyH_one 2 (fuel:=2) (by kernel_rfl) (by rfl) (fun K hK=> ?_)
     simp only [pick_lit,List.filterMap_cons,List.filterMap_nil,List.getElem?_cons_zero,List.getElem?_cons_succ,AtOps]
     go_simp
     (go_at_call 71;refine (clone_any (HP.out.inv HI.out) (HP.out.lift HA.out) (relD_below HA.out HEV.out.ca HP.out.row.below) (by have:=HCS.out e (List.mem_of_getElem? HEI.out);omega)).mono ?_;rintro r W4 ⟨x,nb,rfl,hb,hin,hnb⟩;have HB5:=Lib.hid hb;have HNB:=Lib.hid (HP.out.row.ge.2.2.2.2.2);have HP:=Lib.hid (HP.out.next hb);have HIN4:=Lib.hid hin;have HNB4:=Lib.hid hnb;clear hb hin hnb)
     refine hK.out _ _ ?_ (fun hHeld=> ?_)
     focus (exact HP.out.cells)
     clear hK K
     try simp only [Act.put,List.setIfInBounds_toArray,List.set_cons_zero,List.set_cons_succ]
     obtain ⟨v6,W6,nb6,hrun,HK6⟩:=names_put (x:=e.Target) (y:=e.Quote) (p:=W2.heap.size) (c:=2) HP.out HIN4.out (fun c hc=> ⟨Nat.le_trans HNB.out (HNB4.out c hc).1,(HNB4.out c hc).2⟩) (HCS.out e (List.mem_of_getElem? HEI.out)) ((HB5.out.block _ (by simp)).trans (heap_alloc_new W2.drew _))
     refine wpAnyH_one 8 (fuel:=1) (by kernel_rfl) (by rfl) (fun K hK=> ?_)
     simp only [pick_lit,List.filterMap_cons,List.filterMap_nil,List.getElem?_cons_zero,List.getElem?_cons_succ,AtOps]
     rw [if_pos (by rfl)]
     refine wp_append_run _ (.tmp 29) (.tmp 34) 44 44 rfl _ _ v6 W6 rfl rfl (hrun _) ?_
     refine hK.out _ _ ?_ (fun hHeld=> ?_)
     focus (exact HK6.out.cells)
     clear hK K
     try simp only [Act.put,List.setIfInBounds_toArray,List.set_cons_zero,List.set_cons_succ]
     refine wpAnyH_takes (by kernel_rfl) (fun d _ _ _ _ h=> by cases d <;> exact h) [9] 0 _ _ _ ?_ _ (by rfl) (by kernel_rfl) ?_ (by assumption) ?_
     rotate_left
     focus
      simp only [pick_lit,List.filterMap_cons,List.filterMap_nil,List.getElem?_cons_zero,List.getElem?_cons_succ]
      (refine Takes.want ?_ (by rfl) (fun w' hw'=> ?_) ?_;rotate_left;(focus ((try dsimp only at hw');go_simp;(first | done | with_reducible rfl)));try simp only [Act.put,List.setIfInBounds_toArray,List.set_cons_zero,List.set_cons_succ])
      exact Takes.done
     refine wpAnyH_done (by kernel_rfl) ?_ _
     clear hHeld hrun
     go_wp2_with fail
     go_meet
     exact ⟨nb6,HK6⟩
   case rest=>
    obtain ⟨nb,HK⟩:=hcut
    clear HP HB1 HM1 HM
    have ha:=HK.out.toKB.author
    have hlook:=HK.out.row.tab.look keyInt Tryz.underlying157 (a:=e.Author) (HIN.out e (List.mem_of_getElem? HEI.out))
    go_upto_if 43 with fail
    clear hlook ha
    generalize hlf:lastF l k e.Author=q
    have HQ:=Lib.hid hlf
    clear hlf
    go_cut [7] from 43 to 47 (fun v W=> ∃nb,Hid (KN w n g (g + 1) (m + 1) (Ms ++ [m]) (Sk l k) (Nk k) (lastF l k) k eb (evCells e cA cN cC fA fN fC) (namesB l k e) v nb W))
    case first=>
     obtain ⟨na,nc,hv,_⟩:=HK.out.ints.slice
     rw [show (e.Causes ++ [e.Target,e.Quote]).length=e.Causes.length + 2 by simp] at hv
     subst hv
     cases q with
     | none=>
      have HK2:Hid (KN w n g (g + 1) (m + 1) (Ms ++ [m]) (Sk l k) (Nk k) (lastF l k) k eb (evCells e cA cN cC fA fN fC) (namesB l k e) _ nb wc):=Lib.hid (by unfold namesB;rw [HQ.out,List.append_nil];exact HK.out)
      go_wp2_with fail
      go_meet
      exact ⟨nb,HK2⟩
     | some z=>
      obtain ⟨v6,W6,nb6,hrun,HK6⟩:=names_put1 (x:=z) (p:=wc.heap.size) (c:=1) (HK.out.next (below_alloc wc (.cells #[.int .i64 z] 3))) (by have:=HCS.out e (List.mem_of_getElem? HEI.out);simp;omega) (heap_alloc_new wc _)
      have HK2:Hid (KN w n g (g + 1) (m + 1) (Ms ++ [m]) (Sk l k) (Nk k) (lastF l k) k eb (evCells e cA cN cC fA fN fC) (namesB l k e) v6 nb6 W6):=Lib.hid (by unfold namesB;rw [HQ.out];exact HK6.out)
      have HRUN:=Lib.hid hrun
      clear hrun
      go_wp2_with (at_builtin;refine wpList_plain rfl fun K' hK'=> ?_;refine wp_append_run _ (.tmp 44) (.tmp 46) 44 44 rfl _ _ v6 W6 rfl rfl (HRUN.out _) (hK' _ _ ?_);go_frame)
      go_meet
      exact ⟨nb6,HK2⟩
    case rest=>
     clear HK
     obtain ⟨nb,HK⟩:=hcut
     have ha:=HK.out.toKB.author
     obtain ⟨W8,hrun8,hm8,hg8⟩:=HK.out.row.note (a:=e.Author) (v:=(k:Int)) (by simp only [maxLen];omega) (HIN.out e (List.mem_of_getElem? HEI.out)) (inI_nat (by omega))
     have HI8:Hid (KI w n g (g + 1) (m + 1) (Ms ++ [m]) l k m (lastF l (k + 1)) (k + 1) (namesB l k e) u7 nb (St l (namesB l k e) k 0) k W8):=Lib.hid (by
      rw [lastF_succ HEI.out]
      refine KI.start hm8 HL.out (HK.out.ints.kept fun c hc=> ?_) (fun c hc=> ⟨(HK.out.own c hc).1,Nat.lt_of_lt_of_le (HK.out.own c hc).2 hg8.size⟩)
      have h1:=HK.out.own c hc
      have h2:=HK.out.row.ge
      exact hg8.block c h1.2 fun e=> by injection e with e;omega)
     clear hm8 hg8
     obtain ⟨na,nc,hv,_⟩:=HK.out.ints.slice
     generalize hN:(namesB l k e).length=N at hv
     have HNN:=Lib.hid hN
     clear hN
     subst hv
     clear HK
     have hNb:N≤2000:=by
      rw [←HNN.out]
      unfold namesB
      have:=HCS.out e (List.mem_of_getElem? HEI.out)
      cases lastF l k e.Author <;> simp <;> omega
     go_wp2_with fail
     go_loopg [54] N (fun q i W=> ∃t:Nat,t + q=N∧i= .int .i64 t∧Hid (KI w n g (g + 1) (m + 1) (Ms ++ [m]) l k m (lastF l (k + 1)) (k + 1) (namesB l k e) (.slice na N nc) nb (St l (namesB l k e) k t) k W))
     case atStart=> exact ⟨0,by omega,rfl,HI8⟩
     case round=>
      obtain ⟨t,ht,rfl,HJ⟩:=hrel
      by_cases htl:t < N
      ·obtain ⟨y,hy⟩:∃y,(namesB l k e)[t]? =some y:=⟨_,List.getElem?_eq_getElem (by rw [HNN.out];exact htl)⟩
       obtain ⟨na',nc',hv',hat'⟩:=HJ.out.ints.slice
       obtain ⟨ng,hna,_,hcell⟩:=hat' t y hy
       injection hv' with hv1 hv2 hv3
       rw [hna] at hv1
       have HY:=Lib.hid hy
       clear hat' hv2 hv3 hna hy
       subst hv1
       by_cases hyk:0≤y∧y < (k:Int)
       ·obtain ⟨j,rfl⟩:∃j:Nat,y=j:=⟨y.toNat,by omega⟩
        have hjk:j < k:=by omega
        obtain ⟨mj,hmj⟩:∃mj,(Ms ++ [m])[j]? =some mj:=⟨_,List.getElem?_eq_getElem (by rw [List.length_append,HL.out];omega)⟩
        have HMJ:=Lib.hid hmj
        clear hmj
        have hc1:=(HJ.out.cells HMJ.out).1
        obtain ⟨W9,hrun9,hs9,hg9⟩:=HJ.out.set.put (by simp only [maxLen];omega) (inI_nat (show j≤1000000 by omega))
        have HJ9:=Lib.hid (HJ.out.turn hs9 hg9)
        clear hs9 hg9
        have hjn:j < n:=by omega
        have hd0:(0:Int)≤(j:Int):=by omega
        have hd1:(j:Int) < (k:Int):=by omega
        go_upto_region 17 with fail
        clear hc1 hrun9
        have HJ9:=Lib.hid HJ9.out.drew
        refine wp_region_held_drew (S:=fun W=> W.cell? ⟨g,k,none⟩=some (.map (some m))∧W.cell? ⟨g,j,none⟩=some (.map (some mj))) (by kernel_rfl) ?_ (fun hHeld=> ?_)
        focus (exact HJ9.out.cells HMJ.out)
        refine wpAnyH_takes (by kernel_rfl) (fun d _ _ _ _ h=> by cases d <;> exact h) [0,1,2,3,4,5,6,7] 1 _ _ _ ?_ _ (by rfl) (by kernel_rfl) ?_ (by assumption) ?_
        rotate_left
        focus
         simp only [pick_lit,List.filterMap_cons,List.filterMap_nil,List.getElem?_cons_zero,List.getElem?_cons_succ]
         (refine Takes.want ?_ (by rfl) (fun w' hw'=> ?_) ?_;rotate_left;(focus ((try dsimp only at hw');go_simp;(first | done | with_reducible rfl)));try simp only [Act.put,List.setIfInBounds_toArray,List.set_cons_zero,List.set_cons_succ])
         (refine Takes.want ?_ (by rfl) (fun w' hw'=> ?_) ?_;rotate_left;(focus ((try dsimp only at hw');go_simp;(first | done | with_reducible rfl)));try simp only [Act.put,List.setIfInBounds_toArray,List.set_cons_zero,List.set_cons_succ])
         (refine Takes.want ?_ (by rfl) (fun w' hw'=> ?_) ?_;rotate_left;(focus ((try dsimp only at hw');go_simp;(first | done | with_reducible rfl)));try simp only [Act.put,List.setIfInBounds_toArray,List.set_cons_zero,List.set_cons_succ])
         (refine Takes.want ?_ (by rfl) (fun w' hw'=> ?_) ?_;rotate_left;(focus ((try dsimp only at hw');go_simp;(first | done | with_reducible rfl)));try simp only [Act.put,List.setIfInBounds_toArray,List.set_cons_zero,List.set_cons_succ])
         (refine Takes.want ?_ (by rfl) (fun w' hw'=> ?_) ?_;rotate_left;(focus ((try dsimp only at hw');go_simp;(first | done | with_reducible rfl)));try simp only [Act.put,List.setIfInBounds_toArray,List.set_cons_zero,List.set_cons_succ])
         (refine Takes.want ?_ (by rfl) (fun w' hw'=> ?_) ?_;rotate_left;(focus ((try dsimp only at hw');go_simp;(first | done | with_reducible rfl)));try simp only [Act.put,List.setIfInBounds_toArray,List.set_cons_zero,List.set_cons_succ])
         (refine Takes.want ?_ (by rfl) (fun w' hw'=> ?_) ?_;rotate_left;(focus ((try dsimp only at hw');go_simp;(first | done | with_reducible rfl)));try simp only [Act.put,List.setIfInBounds_toArray,List.set_cons_zero,List.set_cons_succ])
         (refine Takes.want ?_ (by rfl) (fun w' hw'=> ?_) ?_;rotate_left;(focus ((try dsimp only at hw');go_simp;(first | done | with_reducible rfl)));try simp only [Act.put,List.setIfInBounds_toArray,List.set_cons_zero,List.set_cons_succ])
         exact Takes.done
        refine wpAnyH_one 8 (fuel:=0) (by kernel_rfl) (by rfl) (fun K hK=> ?_)
        simp only [pick_lit,List.filterMap_cons,List.filterMap_nil,List.getElem?_cons_zero,List.getElem?_cons_succ,AtOps]
        go_simp
        (go_at_call 72;refine (SetAt.copy HJ9.out.set (HJ9.out.other HMJ.out (by omega)) (HJ9.out.apart HMJ.out (by omega)) (by simp only [maxLen];omega)).mono ?_;rintro r W11 ⟨rfl,hs11,hg11⟩;have HJ11:=Lib.hid ((HJ9.out.turn hs11 hg11).reset (t:=t + 1) fun x _=> (St_take HY.out hjk x).symm);clear hs11 hg11)
        refine hK.out _ _ ?_ (fun hHeld=> ?_)
        focus (exact HJ11.out.cells HMJ.out)
        clear hK K
        try simp only [Act.put,List.setIfInBounds_toArray,List.set_cons_zero,List.set_cons_succ]
        refine wpAnyH_done (by kernel_rfl) ?_ _
        clear hHeld
        go_wp2_with fail
        go_roundg (gk - 1)
        case measure=> omega
        exact ⟨t + 1,by omega,by rw [Int.natCast_add];rfl,HJ11⟩
       ·have HJ2:=Lib.hid (HJ.out.reset (t:=t + 1) fun x _=> (St_skip HY.out hyk x).symm)
        by_cases hy0:0≤y
        ·have hy1:¬y < (k:Int):=fun h=> hyk ⟨hy0,h⟩
         go_wp2_with fail
         go_roundg (gk - 1)
         case measure=> omega
         exact ⟨t + 1,by omega,by rw [Int.natCast_add];rfl,HJ2⟩
        ·go_wp2_with fail
         go_roundg (gk - 1)
         case measure=> omega
         exact ⟨t + 1,by omega,by rw [Int.natCast_add];rfl,HJ2⟩
      ·obtain rfl:t=N:=by omega
       have HF:=Lib.hid (KI.done (by have:=HJ.out;rw [←HNN.out] at this;exact this) HEI.out)
       go_wp2_with fail
       go_roundg (n - k - 1)
       case measure=> omega
       exact ⟨k + 1,m + 1,Ms ++ [m],by omega,by rw [Int.natCast_add];rfl,Lib.hid (by rw [List.length_append,HL.out];rfl),HF⟩
  ·obtain rfl:k=n:=by omega
   go_wp2_with fail
   go_ret
   exact ⟨g,g + 1,B,k,Ms,rfl,HL.out,HM.out⟩
end Go.Proofs.YtiklglcjecopcaaGreatDoor

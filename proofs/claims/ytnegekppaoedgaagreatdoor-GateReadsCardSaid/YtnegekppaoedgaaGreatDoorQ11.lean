/-
Running code on constants: what stands in the place of strconv.Atoi, strings.IndexByte, strings.Cut, slices.Sorted of maps.Keys is as they are. Over any program.
-/
import Derived.Test.YtnegekppaoedgaaGreatDoorQ10
import Derived.Shelf.Strconv.Atoi
import Derived.Shelf.Strings.Cut
import Derived.Shelf.Strings.Search1
import Derived.Shelf.SlIterI.Nil
import Derived.Shelf.SortM.Plain
import Derived.Shelf.SortM.SortNone
import Derived.Shelf.LaysM
import Derived.Shelf.Strconv.Itoa3
import Derived.Shelf.Strings.OnBuilder
import Derived.Ground.NamesProg
import Derived.Test.YtnegekppaoedgaaGreatDoorRows
import Derived.Shelf.SlGeneric
import Derived.Ground.GgzProg
import Derived.Ground.SlgmProg
import Derived.KernelRfl
set_option linter.all false
noncomputable section
namespace Go.Proofs.YtnegekppaoedgaaGreatDoor.Ci
open Go.RowKit Go.Shelf Go.Maps Go.Sort Go.WideElems Go.WideShapes
variable [fE]
theorem akH {b:Nat} (h:b < 256):(UInt8.ofNat b).toNat=b:=by simp;omega
theorem Lp {b c:Nat} (hb:b < 256) (hc:c < 256):(UInt8.ofNat b==UInt8.ofNat c)=Nat.beq c b:=by
 cases hq:Nat.beq c b
 ·cases hr:(UInt8.ofNat b==UInt8.ofNat c)
  ·rfl
  ·have:=ofNat_inj hb hc (eq_of_beq hr)
   rw [this] at hq
   simp at hq
 ·rw [ay hq]
  simp
def af8 (r:Option Nat):Int:= @Option.rec Nat (fun _=> Int) (.negSucc 0) (fun i=> .ofNat i) r
theorem Jp (c b:Nat) (l:List Nat):vg c (b::l)=bG (Nat.beq c b) (some 0) (ob (vg c l) fun i=> some (Nat.succ i)):=rfl
theorem QC {c:Nat} (hc:c < 256):∀{bs:List Nat},(∀b∈bs,b < 256)→Lib.indexByte (bs.map UInt8.ofNat) (UInt8.ofNat c)=af8 (vg c bs)
 | [],_=> rfl
 | b::l,h=> by
  have ih:=QC hc (bs:=l) fun x hx=> h x (List.mem_cons_of_mem _ hx)
  rw [List.map_cons,Lib.indexByte,Lp (h b (List.mem_cons_self ..)) hc,ih,Jp]
  cases Nat.beq c b
  ·cases hp:vg c l with
   | none=> rfl
   | some i=>
    show (if (Int.ofNat i== -1)=true then (-1:Int) else Int.ofNat i + 1)=Int.ofNat (i + 1)
    rw [if_neg (by simp)]
    rfl
  ·rfl
theorem D6 {c:Nat} (hc:c < 256):∀{bs:List Nat},(∀b∈bs,b < 256)→Lib.index (bs.map UInt8.ofNat) [UInt8.ofNat c]=af8 (vg c bs)
 | [],_=> rfl
 | b::l,h=> by
  have ih:=D6 hc (bs:=l) fun x hx=> h x (List.mem_cons_of_mem _ hx)
  have hp: [UInt8.ofNat c].isPrefixOf (UInt8.ofNat b::l.map UInt8.ofNat)=Nat.beq c b:=by
   rw [←Lp (h b (List.mem_cons_self ..)) hc]
   simp only [List.isPrefixOf,Bool.and_true]
   exact BEq.comm
  rw [List.map_cons,Lib.index,hp,ih,Jp]
  cases Nat.beq c b
  ·cases hp:vg c l with
   | none=> rfl
   | some i=>
    show (if (Int.ofNat i== -1)=true then (-1:Int) else Int.ofNat i + 1)=Int.ofNat (i + 1)
    rw [if_neg (by simp)]
    rfl
  ·rfl
theorem Wu:∀{l:List Nat} {acc m:Nat},(∀b∈l,b < 256)→akD l acc=some m→Lib.decFrom acc (l.map UInt8.ofNat)=some m
 | [],acc,m,_,h=> h
 | b::l,acc,m,hb,h=> by
  obtain ⟨h1,h2⟩:=aC (show fP (Bool.and (Nat.ble 48 b) (Nat.ble b 57)) (akD l (Nat.add (Nat.mul acc 10) (Nat.sub b 48)))=some m from h)
  obtain ⟨k1,k2⟩:=and_true h1
  have k1:=aN k1
  have k2:=aN k2
  have hd:Lib.digitVal (UInt8.ofNat b)=some (b - 48):=by
   unfold Lib.digitVal
   rw [akH (hb b (List.mem_cons_self ..)),if_pos ⟨k1,k2⟩]
  rw [List.map_cons,Lib.decFrom,hd]
  exact Wu (fun x hx=> hb x (List.mem_cons_of_mem _ hx)) h2
theorem Lr {l:List Nat} {m:Nat} (hb:∀b∈l,b < 256) (h:Hw l=some m):Lib.decNat (l.map UInt8.ofNat)=some m:=by
 obtain ⟨h1,h2⟩:=aC h
 cases l with
 | nil=> cases h1
 | cons b l=>
  unfold Lib.decNat
  rw [if_neg (by simp)]
  exact Wu hb h2
theorem acI {l:List Nat} {n:Int} (hb:∀b∈l,b < 256) (h:aiw l=some n):Lib.atoi (l.map UInt8.ofNat)=some n:=by
 cases l with
 | nil=> cases h
 | cons b r=>
  have hbr:∀x∈r,x < 256:=fun x hx=> hb x (List.mem_cons_of_mem _ hx)
  have h:bG (Nat.beq b 45) (ob (Hw r) fun m=> some (Int.negOfNat m)) (bG (Nat.beq b 43) (ob (Hw r) fun m=> some (Int.ofNat m)) (ob (Hw (b::r)) fun m=> some (Int.ofNat m)))=some n:=h
  have c45:(UInt8.ofNat b==45)=Nat.beq 45 b:=Lp (c:=45) (hb b (List.mem_cons_self ..)) (by decide)
  have c43:(UInt8.ofNat b==43)=Nat.beq 43 b:=Lp (c:=43) (hb b (List.mem_cons_self ..)) (by decide)
  have sw:∀x y:Nat,Nat.beq x y=Nat.beq y x:=fun x y=> by
   cases hq:Nat.beq x y
   ·cases hr:Nat.beq y x
    ·rfl
    ·rw [ay hr] at hq
     simp at hq
   ·rw [ay hq]
    simp
  rw [List.map_cons,Lib.atoi,c45,c43,sw 45,sw 43]
  cases h1:Nat.beq b 45
  ·rw [h1] at h
   cases h2:Nat.beq b 43
   ·rw [h2] at h
    obtain ⟨m,h3,h4⟩:=aj (show (ob (Hw (b::r)) fun m=> some (Int.ofNat m))=some n from h)
    injection h4 with h4
    have:=Lr hb h3
    rw [List.map_cons] at this
    simp [this,←h4]
   ·rw [h2] at h
    obtain ⟨m,h3,h4⟩:=aj (show (ob (Hw r) fun m=> some (Int.ofNat m))=some n from h)
    injection h4 with h4
    simp [Lr hbr h3,←h4]
  ·rw [h1] at h
   obtain ⟨m,h3,h4⟩:=aj (show (ob (Hw r) fun m=> some (Int.negOfNat m))=some n from h)
   injection h4 with h4
   simp [Lr hbr h3,←h4,Int.negOfNat_eq]
theorem QD (w:World) (e:TypeId) (s:ByteArray):Below w.heap.size w (Lib.bytesWorld w e s):=by
 unfold Lib.bytesWorld
 obtain ⟨h1,h2,h3,_,h5⟩:=zO (w.drew.alloc (.cells (Lib.bytesCells w e s) e)) ⟨w.heap.size,(Lib.bytesCells w e s).size,none⟩ 1
 have ha:(w.drew.alloc (.cells (Lib.bytesCells w e s) e)).heap=w.heap.push (.cells (Lib.bytesCells w e s) e):=rfl
 refine ⟨h1,h2,h3,?_,fun b hb=> ?_⟩
 ·rw [h5,ha]
  simp
 ·rw [xu _ _ _ _ (by show b≠w.heap.size;omega),ha,Array.getElem?_push_lt hb,Array.getElem?_eq_getElem hb]
theorem QE:∀{es:List (CV×CV)} {ks:List Int},acz es=some ks→ks.length=es.length∧∀(j:Nat) (p:CV×CV),es[j]? =some p→∃k,ks[j]? =some k∧p.1= .v (.int .i64 k)
 | [],ks,h=> by
  injection (show some []=some ks from h) with h
  subst h
  exact ⟨rfl,fun j p h=> by simp at h⟩
 | q::es,ks,h=> by
  obtain ⟨n,h1,h2⟩:=xg (show isI q.1 (fun n=> ob (acz es) fun r=> some (n::r))=some ks from h)
  obtain ⟨r,h3,h4⟩:=aj h2
  injection h4 with h4
  subst h4
  obtain ⟨k1,k2⟩:=QE h3
  refine ⟨by simp [k1],fun j p hp=> ?_⟩
  cases j with
  | zero=>
   injection hp with hp
   subst hp
   exact ⟨n,rfl,h1⟩
  | succ j=> exact k2 j p hp
theorem yZ (n:Int):∀l:List Int,(TJ n l).Perm (n::l)
 | []=> .refl _
 | m::r=> by
  have e:TJ n (m::r)=bG (X6 m n) (m::TJ n r) (n::m::r):=rfl
  rw [e]
  cases X6 m n
  ·exact .refl _
  ·exact ((yZ n r).cons m).trans (.swap _ _ _)
theorem zT (n:Int):∀{l:List Int},l.Pairwise (fun x y=> x≤y)→(TJ n l).Pairwise (fun x y=> x≤y)
 | [],_=> by
  show [n].Pairwise _
  simp
 | m::r,h=> by
  have e:TJ n (m::r)=bG (X6 m n) (m::TJ n r) (n::m::r):=rfl
  rw [e,KP]
  rw [List.pairwise_cons] at h
  by_cases hmn:m < n
  ·rw [decide_eq_true hmn]
   refine List.pairwise_cons.2 ⟨fun x hx=> ?_,zT n h.2⟩
   rcases List.mem_cons.1 ((yZ n r).mem_iff.1 hx) with rfl | hx
   ·omega
   ·exact h.1 x hx
  ·rw [decide_eq_false hmn]
   refine List.pairwise_cons.2 ⟨fun x hx=> ?_,List.pairwise_cons.2 h⟩
   rcases List.mem_cons.1 hx with rfl | hx
   ·omega
   ·have:=h.1 x hx
    omega
theorem D7:∀l:List Int,(o8 l).Perm l∧(o8 l).Pairwise (fun x y=> x≤y)
 | []=> ⟨.refl _,.nil⟩
 | n::l=> by
  obtain ⟨h1,h2⟩:=D7 l
  exact ⟨(yZ n (o8 l)).trans (h1.cons n),zT n h2⟩
theorem QF (l:List Int):l.mergeSort (fun x y=> decide (x≤y))=o8 l:=by
 obtain ⟨h1,h2⟩:=D7 l
 have e:=mergeSort_of_perm_i h1
 have e2:(o8 l).mergeSort (fun x y=> decide (x≤y))=o8 l:=List.mergeSort_of_pairwise (h2.imp fun h=> by simpa using h)
 rw [←e2]
 exact e.symm
theorem zf:∀l:List Int,Jo l=l.map fun n=> .v (.int .i64 n)
 | []=> rfl
 | n::l=> by
  show CV.v (.int .i64 n)::Jo l=_
  rw [zf l]
  rfl
theorem Wv:∀{l:List Int},akF l=true→∀n∈l,-9223372036854775808≤n∧n≤9223372036854775807
 | [],_,_,hn=> by cases hn
 | m::l,h,n,hn=> by
  obtain ⟨h1,h2⟩:=and_true (show Bool.and (Bool.and (Bool.not (X6 m (.negSucc 9223372036854775807))) (Bool.not (X6 (.ofNat 9223372036854775807) m))) (akF l)=true from h)
  rcases List.mem_cons.1 hn with rfl | hn
  ·obtain ⟨k1,k2⟩:=and_true h1
   rw [KP] at k1 k2
   have k1:¬n < Int.negSucc 9223372036854775807:=by simpa using k1
   have k2:¬Int.ofNat 9223372036854775807 < n:=by simpa using k2
   have e1:Int.negSucc 9223372036854775807= -9223372036854775808:=rfl
   have e2:Int.ofNat 9223372036854775807=9223372036854775807:=rfl
   omega
  ·exact Wv h2 n hn
theorem an6 {k:Int} (h1: -9223372036854775808≤k) (h2:k≤9223372036854775807):(Lit.int .i64 k).wf=true:=by
 simp [Lit.wf,IntKind.min,IntKind.max,IntKind.signed,IntKind.bits]
 omega
theorem D8:∀l:List (Lit×DataW Unit),(l.foldr DataW.insert []).Perm l
 | []=> .nil
 | x::l=> (insert_perm x _).trans ((D8 l).cons x)
theorem QG {P:Program} {ρ σ:Ren} (LK:SlLaysZI.n7 P ρ) (LS:SlLaysZI.n6 P σ) (hs:AnyZI.SortsIn P σ Fence.wide 4)
  (e9:∀(args:Array Value) (w:World),(callFunc (σ.f 9) args).run P w= .ok (.enter (σ.f 9) args) w) (eg:∀(args:Array Value) (w:World),(callFunc (ρ.f 10) args).run P w= .ok (.enter (ρ.f 10) args) w)
  {ks:List Int} (hl:ks.length≤1000000) (hr:∀k∈ks,-9223372036854775808≤k∧k≤9223372036854775807) (w:World) (bb mb:Nat) (ents:Array MapEntry) (clock:Nat) (hbb:bb < w.heap.size) (hcell:w.cell? ⟨bb,0,none⟩=some (.map (some mb))) (hmb:w.heap[mb]? =some (.map ents clock)) (hst:MapKept.Stamped ents clock) (hsz:ents.size=ks.length)
  (hkey:∀(j:Nat) (e:MapEntry),ents[j]? =some e→∃k,ks[j]? =some k∧e.key= .int .i64 k):
  Calls P (σ.f 6) #[.func (.func (ρ.f 10)) #[] #[.pointer (some ⟨bb,0,none⟩)]] w fun e w'=> ∃v,e= .returned v∧w'.ownsRow w.heap.size (σ.t 26) 1 v ks.length ((o8 ks).map fun k=> Value.int .i64 k)∧(v= .slice none 0 0↔ks= [])∧Below w.heap.size w w':=by
 let R:Value→Option (DataW Unit×List MemPlace):=fun _=> some (.lit (.bool true),[])
 have hrd:∀(j:Nat) (e:MapEntry),ents[j]? =some e→∃k,ks[j]? =some k∧rd P (ρ.t 26) R e=some (.int .i64 k,.lit (.bool true)):=by
  intro j e he
  obtain ⟨k,hk,hek⟩:=hkey j e he
  have hkr:=hr k (List.mem_of_getElem? hk)
  refine ⟨k,hk,?_⟩
  have h1:keyOf P (ρ.t 26) e.key=some (.int .i64 k):=by rw [hek];exact keyOf_int_mk LK.t26 (an6 hkr.1 hkr.2)
  have:=rd_mk (R:=R) (val:=e.val) (born:=e.born) h1 rfl
  exact this
 have hF:Fit P (ρ.t 26) R ents clock:=⟨by rw [hsz];simp only [maxLen];omega,hst,fun x hx=> by
  obtain ⟨j,hj⟩:=List.getElem?_of_mem hx
  obtain ⟨k,_,h2⟩:=hrd j x (by simpa using hj)
  exact ⟨_,h2⟩⟩
 let D0:DataW Unit:= .map ((ents.toList.map (rg P (ρ.t 26) R)).foldr DataW.insert [])
 have hown:w.ownsMap P (ρ.t 26) R mb ents.size D0:=⟨ents,clock,hmb,hF,Nat.le_refl _,rfl⟩
 have hperm:=D8 (ents.toList.map (rg P (ρ.t 26) R))
 have hsize:Maps.size D0=ks.length:=by
  show ((ents.toList.map (rg P (ρ.t 26) R)).foldr DataW.insert []).length=_
  rw [hperm.length_eq,List.length_map,Array.length_toList,hsz]
 have hkeys:(intKeys D0).Perm ks:=by
  have h1:(intKeys D0).Perm ((ents.toList.map (rg P (ρ.t 26) R)).map fun p=> Go.intOf p.1):=hperm.map _
  refine h1.trans (List.Perm.of_eq ?_)
  apply List.ext_getElem?
  intro j
  rw [List.map_map,List.getElem?_map]
  cases he:ents.toList[j]? with
  | none=>
   have:ents.size≤j:=by simpa using he
   rw [List.getElem?_eq_none (by omega)]
   rfl
  | some e=>
   obtain ⟨k,hk,h2⟩:=hrd j e (by simpa using he)
   rw [hk]
   simp only [Option.map_some,Function.comp,rg_of h2]
   rfl
 have hseq:SeqGives Fence.wide 2 P (ρ.f 10) #[.pointer (some ⟨bb,0,none⟩)] encZ (fun ss=> ss.Perm (intKeys D0)) (Maps.size D0) w:=
  AnyZI.keys_gives (ρ:=ρ) {LK with} Fence.wide _ trivial rfl (by omega) bb mb ents.size D0 w hbb hcell hown
 have cS:=AnyZI.sorted_in LS Fence.wide 5 trivial trivial trivial trivial rfl (by omega) hs e9 (ρ.f 10) #[.pointer (some ⟨bb,0,none⟩)] trivial eg _ (Maps.size D0) (by rw [hsize];simp only [maxLen];omega) (by rw [hsize];omega) w hseq
 refine ((callsIn_wide (n:=5)).1 cS).mono ?_
 rintro e w' ⟨v,ss,rfl,hS,hrow,hnil,hb⟩
 have hp:ss.Perm ks:=hS.trans hkeys
 have hms:ss.mergeSort (fun x y=> decide (x≤y))=o8 ks:=by rw [←QF];exact mergeSort_of_perm_i hp
 rw [hms,hp.length_eq] at hrow
 refine ⟨v,rfl,hrow,⟨fun h=> ?_,fun h=> hnil.2 ?_⟩,hb⟩
 ·have:=hnil.1 h
  rw [this] at hp
  exact hp.nil_eq.symm
 ·rw [h] at hp
  exact hp.eq_nil
section
variable {P : Program} {ρ : Ren} {G : Base → Prop}
theorem af9 (L:Lays.n217 P ρ) {args:List CV} {H:Tr aP} {nx:Nat} {v:CV} {H':Tr aP} {nx':Nat} (h:xIdx H nx args=some (.ok v H' nx')) {w0:Base} {w:World} {σ:Nm} {vals:Array Value} (hr:R w0 σ H nx w) (hL:fU σ args vals.toList):
  Calls P (ρ.f 217) vals w fun e w'=> ∃x,e= .returned x∧After w0 σ nx v H' nx' x w':=by
 unfold xIdx at h
 split at h
 ·rename_i bs y
  split at h
  ·rename_i k c
   obtain ⟨h1,h2⟩:=aC h
   have h1:=mZ h1
   subst h1
   cases c with
   | negSucc c=> cases h2
   | ofNat c=>
    obtain ⟨h3,h4⟩:=aC (show fP (Nat.ble c 255) (some (dG.ok (.v (.int .i64 (af8 (vg c bs)))) H nx))=some (.ok v H' nx') from h2)
    have h3:=aN h3
    injection h4 with h4
    obtain ⟨rfl,rfl,rfl⟩:=bU h4
    obtain ⟨va,r1,e1,ha,hL2⟩:=hL.cons_inv
    obtain ⟨vb,r2,e2,hb,hL3⟩:=hL2.cons_inv
    have e3:=hL3.bg
    subst e3 e2
    have hv:vals= #[va,vb]:=Array.ext' (by simpa using e1)
    rw [hv,hb.val]
    cases ha with
    | t _ hbs=>
     refine kW hr (.v _ rfl) ((Any.stringslite_IndexByte L ⟨(bs.map UInt8.ofNat).toArray⟩ (Int.ofNat c) w).mono ?_)
     rintro e w' ⟨rfl,rfl⟩
     refine ⟨?_,.refl _ _⟩
     have:(Int.ofNat c).toNat.toUInt8=UInt8.ofNat c:=rfl
     rw [this,←QC (by omega) hbs]
  ·cases h
 ·cases h
theorem acJ (L:Lays.n172 P ρ) {args:List CV} {H:Tr aP} {nx:Nat} {v:CV} {H':Tr aP} {nx':Nat} (h:acy H nx args=some (.ok v H' nx')) {w0:Base} {w:World} {σ:Nm} {vals:Array Value} (hr:R w0 σ H nx w) (hL:fU σ args vals.toList):
  Calls P (ρ.f 172) vals w fun e w'=> ∃x,e= .returned x∧After w0 σ nx v H' nx' x w':=by
 unfold acy at h
 split at h
 ·rename_i bs
  obtain ⟨h1,h2⟩:=aC h
  obtain ⟨n,h3,h4⟩:=aj h2
  rw [abY] at h4
  injection h4 with h4
  obtain ⟨rfl,rfl,rfl⟩:=bU h4
  have h1:=aN h1
  rw [len_eq] at h1
  obtain ⟨va,r1,e1,ha,hL2⟩:=hL.cons_inv
  have e3:=hL2.bg
  subst e3
  have hv:vals= #[va]:=Array.ext' (by simpa using e1)
  rw [hv]
  cases ha with
  | t _ hbs=>
   refine kW hr (.mY (.cons (.v (.int .i64 n) rfl) (.cons (.v .nilIface rfl) (.nil σ)))) ((Any.strconv_Atoi L ⟨(bs.map UInt8.ofNat).toArray⟩ n (by show ((bs.map UInt8.ofNat).toArray).size≤18;simpa using h1) (by simpa using acI hbs h3) w).mono ?_)
   rintro e w' ⟨rfl,t,rfl⟩
   exact ⟨rfl,QD _ _ _⟩
 ·cases h
theorem aga (L:Lays.n145 P ρ) (hmx:∀w0 w,G w0→dO w0 w→∃m,w.cell? ⟨(ρ.g 1),0,none⟩=some (.int .i64 m)) {args:List CV} {H:Tr aP} {nx:Nat} {v:CV} {H':Tr aP} {nx':Nat} (h:akE H nx args=some (.ok v H' nx')) {w0:Base} {w:World} {σ:Nm} {vals:Array Value} (hG:G w0) (hr:R w0 σ H nx w) (hL:fU σ args vals.toList):
  Calls P (ρ.f 145) vals w fun e w'=> ∃x,e= .returned x∧After w0 σ nx v H' nx' x w':=by
 unfold akE at h
 split at h
 ·rename_i bs sep
  split at h
  ·rename_i c
   obtain ⟨h1,h2⟩:=aC h
   injection h2 with h2
   obtain ⟨rfl,rfl,rfl⟩:=bU h2
   have h1:=aN h1
   rw [len_eq] at h1
   obtain ⟨va,r1,e1,ha,hL2⟩:=hL.cons_inv
   obtain ⟨vb,r2,e2,hb,hL3⟩:=hL2.cons_inv
   have e3:=hL3.bg
   subst e3 e2
   have hv:vals= #[va,vb]:=Array.ext' (by simpa using e1)
   rw [hv]
   obtain ⟨m,hm⟩:=hmx w0 w hG hr.below
   cases ha with
   | t _ hbs=>
    cases hb with
    | t _ hc=>
     have hc:c < 256:=hc c (List.mem_cons_self ..)
     have hix:=D6 hc hbs
     have hcut:VR σ (an4 bs (vg c bs)) (.tuple #[.string ⟨(Lib.cut (bs.map UInt8.ofNat) [UInt8.ofNat c]).1.toArray⟩,.string ⟨(Lib.cut (bs.map UInt8.ofNat) [UInt8.ofNat c]).2.1.toArray⟩,.bool (Lib.cut (bs.map UInt8.ofNat) [UInt8.ofNat c]).2.2]):=by
      unfold Lib.cut
      rw [hix]
      cases hp:vg c bs with
      | none=>
       rw [if_neg (by show ¬(0:Int)≤Int.negSucc 0;omega)]
       exact .mY (.cons (.t bs hbs) (.cons (.t [] fun b hb=> by cases hb) (.cons (.v _ rfl) (.nil σ))))
      | some i=>
       rw [if_pos (by show (0:Int)≤Int.ofNat i;exact Int.natCast_nonneg i)]
       have e1:(af8 (some i)).toNat=i:=rfl
       rw [e1]
       have q1:VR σ (.t (takeN i bs)) (.string ⟨((bs.map UInt8.ofNat).take i).toArray⟩):=by
        rw [kF,←List.map_take]
        exact .t _ fun b hb=> hbs b (List.mem_of_mem_take hb)
       have q2:VR σ (.t (oz (Nat.succ i) bs)) (.string ⟨((bs.map UInt8.ofNat).drop (i + [UInt8.ofNat c].length)).toArray⟩):=by
        rw [lM,←List.map_drop]
        exact .t _ fun b hb=> hbs b (List.mem_of_mem_drop hb)
       exact .mY (.cons q1 (.cons q2 (.cons (.v _ rfl) (.nil σ))))
     have:=Any.strings_Cut L ⟨(bs.map UInt8.ofNat).toArray⟩ ⟨([c].map UInt8.ofNat).toArray⟩ m w (by show ((bs.map UInt8.ofNat).toArray).size < 4294967281;simp;omega) hm
     refine kW hr hcut (this.mono ?_)
     rintro e w' ⟨he,n,rfl⟩
     refine ⟨by simpa using he,rfl,rfl,rfl,Nat.le_refl _,fun b hb=> rfl⟩
  ·cases h
 ·cases h
theorem acK {σr:Ren} (LK:SlLaysZI.n7 P ρ) (LS:SlLaysZI.n6 P σr) (hs:AnyZI.SortsIn P σr Fence.wide 4)
  (e9:∀(args:Array Value) (w:World),(callFunc (σr.f 9) args).run P w= .ok (.enter (σr.f 9) args) w) (eg:∀(args:Array Value) (w:World),(callFunc (ρ.f 10) args).run P w= .ok (.enter (ρ.f 10) args) w)
  {args:List CV} {H:Tr aP} {nx:Nat} {v:CV} {H':Tr aP} {nx':Nat} (h:acB (ρ.f 10) H nx args=some (.ok v H' nx')) {w0:Base} {w:World} {σ:Nm} {vals:Array Value} (hr:R w0 σ H nx w) (hL:fU σ args vals.toList):
  Calls P (σr.f 6) vals w fun e w'=> ∃x,e= .returned x∧After w0 σ nx v H' nx' x w':=by
 unfold acB at h
 split at h
 ·rename_i g
  unfold acA at h
  split at h
  ·rename_i f b o
   obtain ⟨h1,h2⟩:=aC h
   obtain ⟨h1,h3⟩:=and_true h1
   obtain ⟨h3,h4⟩:=and_true h3
   have h1:=ay h1
   have h3:=ay h3
   subst h1 h3
   obtain ⟨cs,h5,h6⟩:=aj h2
   obtain ⟨c,h7,h8⟩:=aj h6
   obtain ⟨l,rfl,h9⟩:=wS h8
   obtain ⟨es,h10,h11⟩:=aj h9
   obtain ⟨ks,h12,h13⟩:=aj h11
   obtain ⟨kd,hH⟩:=ji h5
   rw [KZ hH] at h4
   obtain ⟨b0,La,h15⟩:=aj h10
   obtain ⟨bs,ck,rfl⟩:∃bs ck,b0= .mp es bs ck:=by
    cases b0 with
    | cl=> cases h15
    | it=> cases h15
    | mu=> cases h15
    | mp xs bs ck=>
     injection (show some xs=some es from h15) with h15
     exact ⟨bs,ck,by rw [h15]⟩
   obtain ⟨va,r1,e1,ha,hL2⟩:=hL.cons_inv
   have e3:=hL2.bg
   subst e3
   have hv:vals= #[va]:=Array.ext' (by simpa using e1)
   rw [hv]
   obtain ⟨us,vs,rfl,hus,hvs⟩:=ha.fnL
   have hus:=hus.bg
   obtain ⟨vp,vr,aq5,hp,akI⟩:=hvs.cons_inv
   have akI:=akI.bg
   subst akI
   obtain ⟨lc,hlc,rfl⟩:=hp.pv
   have hus:us= #[]:=Array.ext' (by simpa using hus)
   have hvs:vs= #[.pointer (some ⟨lc.blk,lc.off + 0,none⟩)]:=Array.ext' (by simpa using aq5)
   subst hus hvs
   obtain ⟨vals',T,g1,g2,g3,gk,g4⟩:=hr.blk b lc _ hlc hH
   have hoff:lc.off=0:=by
    cases kd with
    | any=> cases h4
    | of t=> exact gk.2
    | whole t=> exact gk.2.1
   rw [iE] at h7
   obtain ⟨u,u1,u2,_⟩:=g4 0 _ h7
   cases u2 with
   | m hml=>
    rename_i mc
    obtain ⟨ents,m1,m2,_,m3,m4⟩:=hr.blk l mc _ hml La
    obtain ⟨k1,k2⟩:=QE h12
    obtain ⟨h16,h17⟩:=aC h13
    obtain ⟨h16,h18⟩:=and_true h16
    have h16:=aN h16
    rw [len_eq] at h16
    have hcell:w.cell? ⟨lc.blk,0,none⟩=some (.map (some mc.blk)):=by
     rw [cell_of_row _ _ _ vals' T (0,0) g1]
     rw [hoff] at u1
     exact u1
    have:=QG LK LS hs e9 eg h16 (Wv h18) w lc.blk mc.blk ents ck (hr.lo b lc hlc).2 hcell m1 m2 (by rw [m3,k1]) fun j e he=> by
     have hj:j < es.length:=by rw [←m3];exact (Array.getElem?_eq_some_iff.1 he).1
     obtain ⟨k,q1,q2⟩:=k2 j es[j] (List.getElem?_eq_getElem hj)
     have:=(m4 j es[j] e (List.getElem?_eq_getElem hj) he).1
     rw [q2] at this
     exact ⟨k,q1,this.val⟩
    rw [hoff]
    refine this.mono ?_
    rintro e w' ⟨x,rfl,hrow,hnil,hbel⟩
    refine ⟨x,rfl,?_⟩
    have hr':=hr.keep hbel
    cases ks with
    | nil=>
     injection (show some (dG.ok (.v (.slice none 0 0)) H nx)=some (.ok v H' nx') from h17) with h17
     obtain ⟨rfl,rfl,rfl⟩:=bU h17
     rw [hnil.2 rfl]
     exact .same hr' (.v _ rfl)
    | cons k0 kr=>
     injection (show some (dG.ok (.s nx 0 (len (k0::kr)) (.op 1 (len (k0::kr)))) (H.put nx (.cl .any (Jo (o8 (k0::kr))))) (Nat.succ nx))=some (.ok v H' nx') from h17) with h17
     obtain ⟨rfl,rfl,rfl⟩:=bU h17
     obtain ⟨hlen,hcase⟩:=hrow
     rcases hcase with ⟨rfl,hz⟩ | ⟨g,cap,cur,rfl,hge,hg,hnc,hcm,hcs,ht⟩
     ·simp at hz
     ·have hn:=hr'.none
      have hlen2:(o8 (k0::kr)).length=(k0::kr).length:=(D7 (k0::kr)).1.length_eq
      have hcur:cur.size=cap:=by simpa using hcs
      have hle:=jg (σ:=σ) (l:=nx) ⟨g,0,cur.size⟩ hn
      have hnm:=hr'.name (w':=w') (H':=H.put nx (.cl .any (Jo (o8 (k0::kr))))) (nx':=Nat.succ nx) (l:=nx) (c:=⟨g,0,cur.size⟩) (b:= .cl .any (Jo (o8 (k0::kr)))) hn (Nat.lt_succ_self _) (Nat.le_succ _) (dR _ _ _) (fun j hj=> dK _ _ hj) rfl rfl rfl (Nat.le_refl _)
       ⟨fun hF=> by have h1:g < w0.w.heap.size:=w0.lt _ hF;have:=hr.below.size;omega,lt_of_block hg⟩ (fun _ _ _=> rfl) (fun l' c' b' hl' hb' e=> by
        have:=(hr.lo l' c' hl').2
        have e:c'.blk=g:=e
        omega)
       ⟨cur,_,hg,by rw [zf,List.length_map,hlen2];show _≤cur.size;omega,Nat.zero_add _,trivial,fun j y hy=> by
        rw [zf,List.getElem?_map] at hy
        obtain ⟨k,hk,rfl⟩:=Option.map_eq_some_iff.1 hy
        refine ⟨.int .i64 k,?_,.v _ rfl,rfl⟩
        have hj:=(List.getElem?_eq_some_iff.1 hk).1
        have:=congrArg (fun l=> l[j]?) ht
        simp only [List.getElem?_map,hk,Option.map_some] at this
        rw [List.getElem?_take_of_lt (by rw [←hlen2];simpa using hj)] at this
        rw [Nat.zero_add]
        simpa using this⟩
      refine ⟨_,hle,fun j hj=> lu σ _ (by omega),hnm,Nat.le_succ _,?_⟩
      rw [len_eq]
      exact .so 0 (k0::kr).length 1 (k0::kr).length cap (jS _ _ _) hnc hnc (by rw [Nat.zero_add,Nat.mul_one,hcur];exact Nat.le_refl _) hcm
  ·cases h
 ·cases h
end
end Go.Proofs.YtnegekppaoedgaaGreatDoor.Ci
namespace Go.Proofs
open Go.Shelf
def Tryz.laysItoa_ren:Go.Shelf.Ren:=⟨fun | 171=> 40 | 243=> 83 | 246=> 146 | 283=> 232 | 284=> 233 | 285=> 234 | 286=> 235 | 129=> 304 | 317=> 303 | 318=> 305 | 319=> 306 | 320=> 307 | 337=> 363 | 338=> 364 | n=> n,fun | 3=> 3 | 9=> 9 | 2=> 2 | 4=> 4 | 171=> 326 | 0=> 0 | 53=> 327 | 37=> 112 | 5=> 5 | 173=> 330 | 212=> 390 | 51=> 391 | 20=> 20 | 213=> 392 | 46=> 380 | 232=> 467 | 233=> 468 | n=> n,fun | 17=> 0 | 18=> 4 | 19=> 5 | n=> n⟩
theorem Tryz.laysItoa:Go.Proofs.LaysM.n171 Tryz.prog Tryz.laysItoa_ren:={
 mixed:=by kernel_rfl
 f129:=Tryz.func304.trans (congrArg some (by kernel_rfl))
 f171:=Tryz.func40.trans (congrArg some (by kernel_rfl))
 f243:=Tryz.func83.trans (congrArg some (by kernel_rfl))
 f246:=Tryz.func146.trans (congrArg some (by kernel_rfl))
 f283:=Tryz.func232.trans (congrArg some (by kernel_rfl))
 f284:=Tryz.func233.trans (congrArg some (by kernel_rfl))
 f285:=Tryz.func234.trans (congrArg some (by kernel_rfl))
 f286:=Tryz.func235.trans (congrArg some (by kernel_rfl))
 f317:=Tryz.func303.trans (congrArg some (by kernel_rfl))
 f318:=Tryz.func305.trans (congrArg some (by kernel_rfl))
 f319:=Tryz.func306.trans (congrArg some (by kernel_rfl))
 f320:=Tryz.func307.trans (congrArg some (by kernel_rfl))
 f337:=Tryz.func363.trans (congrArg some (by kernel_rfl))
 f338:=Tryz.func364.trans (congrArg some (by kernel_rfl))
 t0:=Tryz.underlying0
 a0:=Tryz.isAgg0
 z0:=Tryz.sizeOf0
 v0:=Tryz.zeroValue0
 t2:=Tryz.underlying2
 a2:=Tryz.isAgg2
 z2:=Tryz.sizeOf2
 v2:=Tryz.zeroValue2
 t3:=Tryz.underlying3
 a3:=Tryz.isAgg3
 z3:=Tryz.sizeOf3
 v3:=Tryz.zeroValue3
 t4:=Tryz.underlying4
 a4:=Tryz.isAgg4
 z4:=Tryz.sizeOf4
 v4:=Tryz.zeroValue4
 t5:=Tryz.underlying5
 a5:=Tryz.isAgg5
 z5:=Tryz.sizeOf5
 v5:=Tryz.zeroValue5
 t9:=Tryz.underlying9
 a9:=Tryz.isAgg9
 z9:=Tryz.sizeOf9
 v9:=Tryz.zeroValue9
 t20:=Tryz.underlying20
 a20:=Tryz.isAgg20
 z20:=Tryz.sizeOf20
 v20:=Tryz.zeroValue20
 t37:=Tryz.underlying112
 a37:=Tryz.isAgg112
 z37:=Tryz.sizeOf112
 v37:=Tryz.zeroValue112
 t46:=Tryz.underlying380
 a46:=Tryz.isAgg380
 z46:=Tryz.sizeOf380
 v46:=Tryz.zeroValue380
 t51:=Tryz.underlying391
 a51:=Tryz.isAgg391
 z51:=Tryz.sizeOf391
 v51:=Tryz.zeroValue391
 t53:=Tryz.underlying327
 a53:=Tryz.isAgg327
 z53:=Tryz.sizeOf327
 v53:=Tryz.zeroValue327
 t171:=Tryz.underlying326
 a171:=Tryz.isAgg326
 z171:=Tryz.sizeOf326
 v171:=Tryz.zeroValue326
 t173:=Tryz.underlying330
 a173:=Tryz.isAgg330
 z173:=Tryz.sizeOf330
 v173:=Tryz.zeroValue330
 t212:=Tryz.underlying390
 a212:=Tryz.isAgg390
 z212:=Tryz.sizeOf390
 v212:=Tryz.zeroValue390
 t213:=Tryz.underlying392
 a213:=Tryz.isAgg392
 z213:=Tryz.sizeOf392
 t232:=Tryz.underlying467
 a232:=Tryz.isAgg467
 z232:=Tryz.sizeOf467
 v232:=Tryz.zeroValue467
 t233:=Tryz.underlying468
 a233:=Tryz.isAgg468
 z233:=Tryz.sizeOf468
 v233:=Tryz.zeroValue468
 g17:=by kernel_rfl
 g18:=by kernel_rfl
 g19:=by kernel_rfl
 i0:=by kernel_rfl
 i2:=by kernel_rfl
 i3:=by kernel_rfl
 i4:=by kernel_rfl
 i5:=by kernel_rfl
 i9:=by kernel_rfl
 i20:=by kernel_rfl
 i37:=by kernel_rfl
 i46:=by kernel_rfl
 i51:=by kernel_rfl
 i53:=by kernel_rfl
 i171:=by kernel_rfl
 i173:=by kernel_rfl
 i212:=by kernel_rfl
 i232:=by kernel_rfl
 i233:=by kernel_rfl
 m17:=by kernel_rfl
 m18:=by kernel_rfl
 m19:=by kernel_rfl}
def Tryz.laysWStr_ren:Go.Shelf.Ren:=⟨fun | 166=> 38 | 240=> 82 | 276=> 145 | n=> n,fun | 70=> 111 | 9=> 9 | 0=> 0 | 72=> 114 | 37=> 112 | 3=> 3 | 4=> 4 | 5=> 5 | 20=> 20 | 75=> 116 | 80=> 96 | 164=> 242 | n=> n,fun | n=> n⟩
theorem Tryz.laysWStr:Go.Proofs.Lays.n166 Tryz.prog Tryz.laysWStr_ren:={
 mixed:=by kernel_rfl
 f166:=Tryz.func38.trans (congrArg some (by kernel_rfl))
 f240:=Tryz.func82.trans (congrArg some (by kernel_rfl))
 f276:=Tryz.func145.trans (congrArg some (by kernel_rfl))
 t0:=Tryz.underlying0
 a0:=Tryz.isAgg0
 z0:=Tryz.sizeOf0
 v0:=Tryz.zeroValue0
 t3:=Tryz.underlying3
 a3:=Tryz.isAgg3
 z3:=Tryz.sizeOf3
 v3:=Tryz.zeroValue3
 t4:=Tryz.underlying4
 a4:=Tryz.isAgg4
 z4:=Tryz.sizeOf4
 v4:=Tryz.zeroValue4
 t9:=Tryz.underlying9
 a9:=Tryz.isAgg9
 z9:=Tryz.sizeOf9
 v9:=Tryz.zeroValue9
 t20:=Tryz.underlying20
 a20:=Tryz.isAgg20
 z20:=Tryz.sizeOf20
 v20:=Tryz.zeroValue20
 t37:=Tryz.underlying112
 a37:=Tryz.isAgg112
 z37:=Tryz.sizeOf112
 v37:=Tryz.zeroValue112
 t70:=Tryz.underlying111
 a70:=Tryz.isAgg111
 z70:=Tryz.sizeOf111
 v70:=Tryz.zeroValue111
 t72:=Tryz.underlying114
 a72:=Tryz.isAgg114
 z72:=Tryz.sizeOf114
 v72:=Tryz.zeroValue114
 t75:=Tryz.underlying116
 a75:=Tryz.isAgg116
 z75:=Tryz.sizeOf116
 v75:=Tryz.zeroValue116
 t164:=Tryz.underlying242
 a164:=Tryz.isAgg242
 z164:=Tryz.sizeOf242
 v164:=Tryz.zeroValue242}
def Tryz.laysBStr_ren:Go.Shelf.Ren:=⟨fun | 169=> 39 | n=> n,fun | 70=> 111 | 9=> 9 | 0=> 0 | 72=> 114 | 37=> 112 | 127=> 167 | 3=> 3 | 5=> 5 | n=> n,fun | n=> n⟩
theorem Tryz.laysBStr:Go.Proofs.Lays.n169 Tryz.prog Tryz.laysBStr_ren:={
 mixed:=by kernel_rfl
 f169:=Tryz.func39.trans (congrArg some (by kernel_rfl))
 t0:=Tryz.underlying0
 a0:=Tryz.isAgg0
 z0:=Tryz.sizeOf0
 v0:=Tryz.zeroValue0
 t3:=Tryz.underlying3
 a3:=Tryz.isAgg3
 z3:=Tryz.sizeOf3
 v3:=Tryz.zeroValue3
 t9:=Tryz.underlying9
 a9:=Tryz.isAgg9
 z9:=Tryz.sizeOf9
 v9:=Tryz.zeroValue9
 t37:=Tryz.underlying112
 a37:=Tryz.isAgg112
 z37:=Tryz.sizeOf112
 v37:=Tryz.zeroValue112
 t70:=Tryz.underlying111
 a70:=Tryz.isAgg111
 z70:=Tryz.sizeOf111
 v70:=Tryz.zeroValue111
 t72:=Tryz.underlying114
 a72:=Tryz.isAgg114
 z72:=Tryz.sizeOf114
 v72:=Tryz.zeroValue114
 t127:=Tryz.underlying167
 a127:=Tryz.isAgg167
 z127:=Tryz.sizeOf167
 v127:=Tryz.zeroValue167}
def Tryz.laysCut_ren:Go.Shelf.Ren:=⟨fun | 145=> 399 | 220=> 410 | 219=> 414 | 217=> 147 | 225=> 416 | 224=> 417 | 267=> 418 | 266=> 236 | 314=> 419 | n=> n,fun | 9=> 9 | 4=> 4 | 59=> 479 | 3=> 3 | 5=> 5 | 46=> 380 | 146=> 491 | 51=> 391 | n=> n,fun | 1=> 1 | n=> n⟩
theorem Tryz.laysCut:Go.Proofs.Lays.n145 Tryz.prog Tryz.laysCut_ren:={
 mixed:=by kernel_rfl
 f145:=Tryz.func399.trans (congrArg some (by kernel_rfl))
 f217:=Tryz.func147.trans (congrArg some (by kernel_rfl))
 f219:=Tryz.func414.trans (congrArg some (by kernel_rfl))
 f220:=Tryz.func410.trans (congrArg some (by kernel_rfl))
 f224:=Tryz.func417.trans (congrArg some (by kernel_rfl))
 f225:=Tryz.func416.trans (congrArg some (by kernel_rfl))
 f266:=Tryz.func236.trans (congrArg some (by kernel_rfl))
 f267:=Tryz.func418.trans (congrArg some (by kernel_rfl))
 f314:=Tryz.func419.trans (congrArg some (by kernel_rfl))
 t3:=Tryz.underlying3
 a3:=Tryz.isAgg3
 z3:=Tryz.sizeOf3
 v3:=Tryz.zeroValue3
 t4:=Tryz.underlying4
 a4:=Tryz.isAgg4
 z4:=Tryz.sizeOf4
 v4:=Tryz.zeroValue4
 t5:=Tryz.underlying5
 a5:=Tryz.isAgg5
 z5:=Tryz.sizeOf5
 v5:=Tryz.zeroValue5
 t9:=Tryz.underlying9
 a9:=Tryz.isAgg9
 z9:=Tryz.sizeOf9
 v9:=Tryz.zeroValue9
 t46:=Tryz.underlying380
 a46:=Tryz.isAgg380
 z46:=Tryz.sizeOf380
 v46:=Tryz.zeroValue380
 t51:=Tryz.underlying391
 a51:=Tryz.isAgg391
 z51:=Tryz.sizeOf391
 v51:=Tryz.zeroValue391
 t59:=Tryz.underlying479
 a59:=Tryz.isAgg479
 z59:=Tryz.sizeOf479
 v59:=Tryz.zeroValue479
 t146:=Tryz.underlying491
 a146:=Tryz.isAgg491
 z146:=Tryz.sizeOf491
 v146:=Tryz.zeroValue491
 g1:=by kernel_rfl}
def Tryz.laysIdx_ren:Go.Shelf.Ren:=⟨fun | 217=> 147 | 266=> 236 | n=> n,fun | 9=> 9 | 5=> 5 | 3=> 3 | n=> n,fun | n=> n⟩
theorem Tryz.laysIdx:Go.Proofs.Lays.n217 Tryz.prog Tryz.laysIdx_ren:={
 mixed:=by kernel_rfl
 f217:=Tryz.func147.trans (congrArg some (by kernel_rfl))
 f266:=Tryz.func236.trans (congrArg some (by kernel_rfl))
 t3:=Tryz.underlying3
 a3:=Tryz.isAgg3
 z3:=Tryz.sizeOf3
 v3:=Tryz.zeroValue3
 t5:=Tryz.underlying5
 a5:=Tryz.isAgg5
 z5:=Tryz.sizeOf5
 v5:=Tryz.zeroValue5
 t9:=Tryz.underlying9
 a9:=Tryz.isAgg9
 z9:=Tryz.sizeOf9
 v9:=Tryz.zeroValue9}
def Tryz.laysAtoi_ren:Go.Shelf.Ren:=⟨fun | 172=> 85 | 244=> 148 | 245=> 149 | 247=> 237 | 279=> 238 | 280=> 239 | 281=> 240 | 282=> 241 | 287=> 308 | 316=> 309 | 171=> 40 | 205=> 310 | 321=> 365 | 322=> 366 | 243=> 83 | 246=> 146 | 283=> 232 | 284=> 233 | 285=> 234 | 286=> 235 | 129=> 304 | 317=> 303 | 318=> 305 | 319=> 306 | 320=> 307 | 337=> 363 | 338=> 364 | n=> n,fun | 9=> 9 | 3=> 3 | 75=> 116 | 76=> 117 | 4=> 4 | 5=> 5 | 167=> 332 | 37=> 112 | 0=> 0 | 85=> 333 | 2=> 2 | 168=> 335 | 53=> 327 | 175=> 393 | 46=> 380 | 210=> 396 | 127=> 167 | 145=> 443 | 143=> 441 | 21=> 21 | 171=> 326 | 173=> 330 | 212=> 390 | 51=> 391 | 20=> 20 | 213=> 392 | 232=> 467 | 233=> 468 | 80=> 96 | n=> n,fun | 15=> 2 | 16=> 3 | 17=> 0 | 18=> 4 | 19=> 5 | n=> n⟩
theorem Tryz.laysAtoi:Go.Proofs.Lays.n172 Tryz.prog Tryz.laysAtoi_ren:={
 mixed:=by kernel_rfl
 f129:=Tryz.func304.trans (congrArg some (by kernel_rfl))
 f171:=Tryz.func40.trans (congrArg some (by kernel_rfl))
 f172:=Tryz.func85.trans (congrArg some (by kernel_rfl))
 f205:=Tryz.func310.trans (congrArg some (by kernel_rfl))
 f243:=Tryz.func83.trans (congrArg some (by kernel_rfl))
 f244:=Tryz.func148.trans (congrArg some (by kernel_rfl))
 f245:=Tryz.func149.trans (congrArg some (by kernel_rfl))
 f246:=Tryz.func146.trans (congrArg some (by kernel_rfl))
 f247:=Tryz.func237.trans (congrArg some (by kernel_rfl))
 f279:=Tryz.func238.trans (congrArg some (by kernel_rfl))
 f280:=Tryz.func239.trans (congrArg some (by kernel_rfl))
 f281:=Tryz.func240.trans (congrArg some (by kernel_rfl))
 f282:=Tryz.func241.trans (congrArg some (by kernel_rfl))
 f283:=Tryz.func232.trans (congrArg some (by kernel_rfl))
 f284:=Tryz.func233.trans (congrArg some (by kernel_rfl))
 f285:=Tryz.func234.trans (congrArg some (by kernel_rfl))
 f286:=Tryz.func235.trans (congrArg some (by kernel_rfl))
 f287:=Tryz.func308.trans (congrArg some (by kernel_rfl))
 f316:=Tryz.func309.trans (congrArg some (by kernel_rfl))
 f317:=Tryz.func303.trans (congrArg some (by kernel_rfl))
 f318:=Tryz.func305.trans (congrArg some (by kernel_rfl))
 f319:=Tryz.func306.trans (congrArg some (by kernel_rfl))
 f320:=Tryz.func307.trans (congrArg some (by kernel_rfl))
 f321:=Tryz.func365.trans (congrArg some (by kernel_rfl))
 f322:=Tryz.func366.trans (congrArg some (by kernel_rfl))
 f337:=Tryz.func363.trans (congrArg some (by kernel_rfl))
 f338:=Tryz.func364.trans (congrArg some (by kernel_rfl))
 t0:=Tryz.underlying0
 a0:=Tryz.isAgg0
 z0:=Tryz.sizeOf0
 v0:=Tryz.zeroValue0
 t2:=Tryz.underlying2
 a2:=Tryz.isAgg2
 z2:=Tryz.sizeOf2
 v2:=Tryz.zeroValue2
 t3:=Tryz.underlying3
 a3:=Tryz.isAgg3
 z3:=Tryz.sizeOf3
 v3:=Tryz.zeroValue3
 t4:=Tryz.underlying4
 a4:=Tryz.isAgg4
 z4:=Tryz.sizeOf4
 v4:=Tryz.zeroValue4
 t5:=Tryz.underlying5
 a5:=Tryz.isAgg5
 z5:=Tryz.sizeOf5
 v5:=Tryz.zeroValue5
 t9:=Tryz.underlying9
 a9:=Tryz.isAgg9
 z9:=Tryz.sizeOf9
 v9:=Tryz.zeroValue9
 t20:=Tryz.underlying20
 a20:=Tryz.isAgg20
 z20:=Tryz.sizeOf20
 v20:=Tryz.zeroValue20
 t21:=Tryz.underlying21
 a21:=Tryz.isAgg21
 z21:=Tryz.sizeOf21
 v21:=Tryz.zeroValue21
 t37:=Tryz.underlying112
 a37:=Tryz.isAgg112
 z37:=Tryz.sizeOf112
 v37:=Tryz.zeroValue112
 t46:=Tryz.underlying380
 a46:=Tryz.isAgg380
 z46:=Tryz.sizeOf380
 v46:=Tryz.zeroValue380
 t51:=Tryz.underlying391
 a51:=Tryz.isAgg391
 z51:=Tryz.sizeOf391
 v51:=Tryz.zeroValue391
 t53:=Tryz.underlying327
 a53:=Tryz.isAgg327
 z53:=Tryz.sizeOf327
 v53:=Tryz.zeroValue327
 t75:=Tryz.underlying116
 a75:=Tryz.isAgg116
 z75:=Tryz.sizeOf116
 v75:=Tryz.zeroValue116
 t76:=Tryz.underlying117
 a76:=Tryz.isAgg117
 z76:=Tryz.sizeOf117
 v76:=Tryz.zeroValue117
 t85:=Tryz.underlying333
 a85:=Tryz.isAgg333
 z85:=Tryz.sizeOf333
 v85:=Tryz.zeroValue333
 t127:=Tryz.underlying167
 a127:=Tryz.isAgg167
 z127:=Tryz.sizeOf167
 v127:=Tryz.zeroValue167
 t143:=Tryz.underlying441
 a143:=Tryz.isAgg441
 z143:=Tryz.sizeOf441
 v143:=Tryz.zeroValue441
 t145:=Tryz.underlying443
 a145:=Tryz.isAgg443
 z145:=Tryz.sizeOf443
 v145:=Tryz.zeroValue443
 t167:=Tryz.underlying332
 a167:=Tryz.isAgg332
 z167:=Tryz.sizeOf332
 v167:=Tryz.zeroValue332
 t168:=Tryz.underlying335
 a168:=Tryz.isAgg335
 z168:=Tryz.sizeOf335
 v168:=Tryz.zeroValue335
 t171:=Tryz.underlying326
 a171:=Tryz.isAgg326
 z171:=Tryz.sizeOf326
 v171:=Tryz.zeroValue326
 t173:=Tryz.underlying330
 a173:=Tryz.isAgg330
 z173:=Tryz.sizeOf330
 v173:=Tryz.zeroValue330
 t175:=Tryz.underlying393
 a175:=Tryz.isAgg393
 z175:=Tryz.sizeOf393
 v175:=Tryz.zeroValue393
 t210:=Tryz.underlying396
 a210:=Tryz.isAgg396
 z210:=Tryz.sizeOf396
 v210:=Tryz.zeroValue396
 t212:=Tryz.underlying390
 a212:=Tryz.isAgg390
 z212:=Tryz.sizeOf390
 v212:=Tryz.zeroValue390
 t213:=Tryz.underlying392
 a213:=Tryz.isAgg392
 z213:=Tryz.sizeOf392
 t232:=Tryz.underlying467
 a232:=Tryz.isAgg467
 z232:=Tryz.sizeOf467
 v232:=Tryz.zeroValue467
 t233:=Tryz.underlying468
 a233:=Tryz.isAgg468
 z233:=Tryz.sizeOf468
 v233:=Tryz.zeroValue468
 g15:=by kernel_rfl
 g16:=by kernel_rfl
 g17:=by kernel_rfl
 g18:=by kernel_rfl
 g19:=by kernel_rfl}
def Tryz.keys290_ren:Go.Shelf.Ren:=⟨fun | 7=> 290 | 10=> 343 | n=> n,fun | 23=> 280 | 26=> 3 | 3=> 4 | 28=> 384 | 0=> 0 | 27=> 383 | 33=> 126 | 4=> 4 | n=> n,fun | n=> n⟩
theorem Tryz.keys290:Go.Proofs.SlLaysZI.n7 Tryz.prog Tryz.keys290_ren:={
 mixed:=by kernel_rfl
 f7:=⟨Tryz.f290.name,by decide,Tryz.func290.trans (congrArg some (by kernel_rfl))⟩
 f10:=⟨Tryz.f343.name,by decide,Tryz.func343.trans (congrArg some (by kernel_rfl))⟩
 t0:=Tryz.underlying0
 a0:=Tryz.isAgg0
 z0:=Tryz.sizeOf0
 v0:=Tryz.zeroValue0
 t4:=Tryz.underlying4
 a4:=Tryz.isAgg4
 z4:=Tryz.sizeOf4
 v4:=Tryz.zeroValue4
 t23:=Tryz.underlying280
 a23:=Tryz.isAgg280
 z23:=Tryz.sizeOf280
 v23:=Tryz.zeroValue280
 t26:=Tryz.underlying3
 a26:=Tryz.isAgg3
 z26:=Tryz.sizeOf3
 v26:=Tryz.zeroValue3
 t27:=Tryz.underlying383
 a27:=Tryz.isAgg383
 z27:=Tryz.sizeOf383
 v27:=Tryz.zeroValue383
 t28:=Tryz.underlying384
 a28:=Tryz.isAgg384
 z28:=Tryz.sizeOf384
 v28:=Tryz.zeroValue384
 t33:=Tryz.underlying126
 a33:=Tryz.isAgg126
 z33:=Tryz.sizeOf126
 v33:=Tryz.zeroValue126}
def Tryz.sorted289_ren:Go.Shelf.Ren:=⟨fun | 6=> 289 | 8=> 342 | 9=> 205 | 11=> 384 | 13=> 286 | 12=> 285 | 23=> 341 | 24=> 304 | 14=> 332 | 15=> 333 | 16=> 334 | 17=> 335 | 18=> 336 | 19=> 337 | 20=> 338 | 21=> 339 | 22=> 340 | 25=> 379 | 26=> 380 | 27=> 381 | 28=> 382 | 29=> 383 | 30=> 295 | 31=> 395 | n=> n,fun | 26=> 3 | 28=> 384 | 24=> 22 | 0=> 0 | 3=> 3 | 37=> 380 | 48=> 391 | 50=> 327 | 4=> 4 | 40=> 424 | 39=> 423 | 45=> 203 | 5=> 5 | 9=> 9 | 51=> 456 | 55=> 460 | 57=> 474 | 58=> 475 | 33=> 126 | n=> n,fun | n=> n⟩
theorem Tryz.sorted289:Go.Proofs.SlLaysZI.n6 Tryz.prog Tryz.sorted289_ren:={
 mixed:=by kernel_rfl
 f6:=⟨Tryz.f289.name,by decide,Tryz.func289.trans (congrArg some (by kernel_rfl))⟩
 f8:=⟨Tryz.f342.name,by decide,Tryz.func342.trans (congrArg some (by kernel_rfl))⟩
 f11:=⟨Tryz.f384.name,by decide,Tryz.func384.trans (congrArg some (by kernel_rfl))⟩
 t0:=Tryz.underlying0
 a0:=Tryz.isAgg0
 z0:=Tryz.sizeOf0
 v0:=Tryz.zeroValue0
 t24:=Tryz.underlying22
 a24:=Tryz.isAgg22
 z24:=Tryz.sizeOf22
 v24:=Tryz.zeroValue22
 t26:=Tryz.underlying3
 a26:=Tryz.isAgg3
 z26:=Tryz.sizeOf3
 v26:=Tryz.zeroValue3
 t28:=Tryz.underlying384
 a28:=Tryz.isAgg384
 z28:=Tryz.sizeOf384
 v28:=Tryz.zeroValue384
 i26:=by kernel_rfl}
def Tryz.sortK_ren:Go.Shelf.Ren:=⟨fun | 5=> 205 | 8=> 286 | 7=> 285 | 19=> 341 | 20=> 304 | 10=> 332 | 11=> 333 | 12=> 334 | 13=> 335 | 14=> 336 | 15=> 337 | 16=> 338 | 17=> 339 | 18=> 340 | 30=> 379 | 31=> 380 | 32=> 381 | 33=> 382 | 34=> 383 | 35=> 295 | 40=> 395 | n=> n,fun | 23=> 22 | 25=> 3 | 3=> 3 | 32=> 380 | 22=> 22 | 0=> 0 | 44=> 391 | 46=> 327 | 4=> 4 | 36=> 424 | 35=> 423 | 41=> 203 | 5=> 5 | 9=> 9 | 53=> 456 | 57=> 460 | 63=> 474 | 64=> 475 | n=> n,fun | n=> n⟩
theorem Tryz.sortK:Go.Proofs.SlLaysM.n5 Tryz.prog Tryz.sortK_ren:={
 mixed:=by kernel_rfl
 f5:=⟨Tryz.f205.name,by decide,Tryz.func205.trans (congrArg some (by kernel_rfl))⟩
 f7:=⟨Tryz.f285.name,by decide,Tryz.func285.trans (congrArg some (by kernel_rfl))⟩
 f8:=Tryz.func286.trans (congrArg some (by kernel_rfl))
 f10:=⟨Tryz.f332.name,by decide,Tryz.func332.trans (congrArg some (by kernel_rfl))⟩
 f11:=⟨Tryz.f333.name,by decide,Tryz.func333.trans (congrArg some (by kernel_rfl))⟩
 f12:=⟨Tryz.f334.name,by decide,Tryz.func334.trans (congrArg some (by kernel_rfl))⟩
 f13:=⟨Tryz.f335.name,by decide,Tryz.func335.trans (congrArg some (by kernel_rfl))⟩
 f14:=⟨Tryz.f336.name,by decide,Tryz.func336.trans (congrArg some (by kernel_rfl))⟩
 f15:=⟨Tryz.f337.name,by decide,Tryz.func337.trans (congrArg some (by kernel_rfl))⟩
 f16:=⟨Tryz.f338.name,by decide,Tryz.func338.trans (congrArg some (by kernel_rfl))⟩
 f17:=⟨Tryz.f339.name,by decide,Tryz.func339.trans (congrArg some (by kernel_rfl))⟩
 f18:=⟨Tryz.f340.name,by decide,Tryz.func340.trans (congrArg some (by kernel_rfl))⟩
 f19:=Tryz.func341.trans (congrArg some (by kernel_rfl))
 f20:=Tryz.func304.trans (congrArg some (by kernel_rfl))
 f30:=⟨Tryz.f379.name,by decide,Tryz.func379.trans (congrArg some (by kernel_rfl))⟩
 f31:=Tryz.func380.trans (congrArg some (by kernel_rfl))
 f32:=Tryz.func381.trans (congrArg some (by kernel_rfl))
 f33:=⟨Tryz.f382.name,by decide,Tryz.func382.trans (congrArg some (by kernel_rfl))⟩
 f34:=⟨Tryz.f383.name,by decide,Tryz.func383.trans (congrArg some (by kernel_rfl))⟩
 f35:=⟨Tryz.f295.name,by decide,Tryz.func295.trans (congrArg some (by kernel_rfl))⟩
 f40:=⟨Tryz.f395.name,by decide,Tryz.func395.trans (congrArg some (by kernel_rfl))⟩
 t0:=Tryz.underlying0
 a0:=Tryz.isAgg0
 z0:=Tryz.sizeOf0
 v0:=Tryz.zeroValue0
 t3:=Tryz.underlying3
 a3:=Tryz.isAgg3
 z3:=Tryz.sizeOf3
 v3:=Tryz.zeroValue3
 t4:=Tryz.underlying4
 a4:=Tryz.isAgg4
 z4:=Tryz.sizeOf4
 v4:=Tryz.zeroValue4
 t5:=Tryz.underlying5
 a5:=Tryz.isAgg5
 z5:=Tryz.sizeOf5
 v5:=Tryz.zeroValue5
 t9:=Tryz.underlying9
 a9:=Tryz.isAgg9
 z9:=Tryz.sizeOf9
 v9:=Tryz.zeroValue9
 t22:=Tryz.underlying22
 a22:=Tryz.isAgg22
 z22:=Tryz.sizeOf22
 v22:=Tryz.zeroValue22
 t23:=Tryz.underlying22
 a23:=Tryz.isAgg22
 z23:=Tryz.sizeOf22
 v23:=Tryz.zeroValue22
 t25:=Tryz.underlying3
 a25:=Tryz.isAgg3
 z25:=Tryz.sizeOf3
 v25:=Tryz.zeroValue3
 t32:=Tryz.underlying380
 a32:=Tryz.isAgg380
 z32:=Tryz.sizeOf380
 v32:=Tryz.zeroValue380
 t35:=Tryz.underlying423
 a35:=Tryz.isAgg423
 z35:=Tryz.sizeOf423
 v35:=Tryz.zeroValue423
 t36:=Tryz.underlying424
 a36:=Tryz.isAgg424
 z36:=Tryz.sizeOf424
 v36:=Tryz.zeroValue424
 t41:=Tryz.underlying203
 a41:=Tryz.isAgg203
 z41:=Tryz.sizeOf203
 v41:=Tryz.zeroValue203
 t44:=Tryz.underlying391
 a44:=Tryz.isAgg391
 z44:=Tryz.sizeOf391
 v44:=Tryz.zeroValue391
 t46:=Tryz.underlying327
 a46:=Tryz.isAgg327
 z46:=Tryz.sizeOf327
 v46:=Tryz.zeroValue327
 t53:=Tryz.underlying456
 a53:=Tryz.isAgg456
 z53:=Tryz.sizeOf456
 v53:=Tryz.zeroValue456
 t57:=Tryz.underlying460
 a57:=Tryz.isAgg460
 z57:=Tryz.sizeOf460
 v57:=Tryz.zeroValue460
 t63:=Tryz.underlying474
 a63:=Tryz.isAgg474
 z63:=Tryz.sizeOf474
 v63:=Tryz.zeroValue474
 t64:=Tryz.underlying475
 a64:=Tryz.isAgg475
 z64:=Tryz.sizeOf475
 v64:=Tryz.zeroValue475}
end Go.Proofs
namespace Go.Proofs.YtnegekppaoedgaaGreatDoor.Ci
open Go.RowKit Go.Shelf Go.Proofs
variable [fE]
theorem lays240:Lays.n240 Tryz.prog Tryz.laysWStr_ren:={
 mixed:=Tryz.laysWStr.mixed
 f240:=Tryz.laysWStr.f240
 f276:=Tryz.laysWStr.f276
 t0:=Tryz.laysWStr.t0
 a0:=Tryz.laysWStr.a0
 z0:=Tryz.laysWStr.z0
 v0:=Tryz.laysWStr.v0
 t4:=Tryz.laysWStr.t4
 a4:=Tryz.laysWStr.a4
 z4:=Tryz.laysWStr.z4
 v4:=Tryz.laysWStr.v4
 t9:=Tryz.laysWStr.t9
 a9:=Tryz.laysWStr.a9
 z9:=Tryz.laysWStr.z9
 v9:=Tryz.laysWStr.v9
 t20:=Tryz.laysWStr.t20
 a20:=Tryz.laysWStr.a20
 z20:=Tryz.laysWStr.z20
 v20:=Tryz.laysWStr.v20
 t70:=Tryz.laysWStr.t70
 a70:=Tryz.laysWStr.a70
 z70:=Tryz.laysWStr.z70
 v70:=Tryz.laysWStr.v70
 t72:=Tryz.laysWStr.t72
 a72:=Tryz.laysWStr.a72
 z72:=Tryz.laysWStr.z72
 v72:=Tryz.laysWStr.v72
 t164:=Tryz.laysWStr.t164
 a164:=Tryz.laysWStr.a164
 z164:=Tryz.laysWStr.z164
 v164:=Tryz.laysWStr.v164
 }
theorem xF:Builder.Extra Tryz.prog Tryz.laysWStr_ren:={
 sizeBuilder:=by kernel_rfl
 liesBuilder:=by kernel_rfl
 t5:=Tryz.underlying5
 a5:=Tryz.isAgg5
 z5:=Tryz.sizeOf5
 v5:=Tryz.zeroValue5
 infoByte:=by kernel_rfl
 cellsByte:=by kernel_rfl
 sizeByte:=by kernel_rfl
 neB5:=by decide
 }
theorem QH:Builder.Extra Tryz.prog Tryz.laysBStr_ren:={
 sizeBuilder:=by kernel_rfl
 liesBuilder:=by kernel_rfl
 t5:=Tryz.underlying5
 a5:=Tryz.isAgg5
 z5:=Tryz.sizeOf5
 v5:=Tryz.zeroValue5
 infoByte:=by kernel_rfl
 cellsByte:=by kernel_rfl
 sizeByte:=by kernel_rfl
 neB5:=by decide
 }
abbrev Ext:=FuncId→List CV→Tr aP→Nat→Option dG
def Ls (more:Ext):Ext:=fun f args h nx=> bG (Nat.beq f 82) (Ws 114 h nx args) (bG (Nat.beq f 40) (acC h nx args) (bG (Nat.beq f 147) (xIdx h nx args) (bG (Nat.beq f 85) (acy h nx args) (bG (Nat.beq f 399) (akE h nx args) (bG (Nat.beq f 289) (acB 343 h nx args) (more f args h nx))))))
theorem agb:AnyZI.SortsIn Tryz.prog Tryz.sorted289_ren Fence.wide 4:=⟨fun blk off cap ss W hH hblk hsz=> callsIn_wide.2 (AnyM.slices_Sort_int Tryz.sortK blk off cap ss W hH hblk hsz),fun p cap W=> callsIn_wide.2 (AnyM.slices_Sort_int_none Tryz.sortK p cap W)⟩
theorem agc {G:Base→Prop} (htab:∀w0 w,G w0→dO w0 w→Lib.TabIs Tryz.prog w "internal/strconv.uint64pow10" .u64 Lib.pow10Tab) (hmx:∀w0 w,G w0→dO w0 w→∃m,w.cell? ⟨Tryz.laysCut_ren.g 1,0,none⟩=some (.int .i64 m)) {more:Ext} (hm:iP Tryz.prog G more):iP Tryz.prog G (Ls more):=by
 intro f args H nx v H' nx' h w0 σ w vals hG hr hL
 rcases jf (show bG (Nat.beq f 82) (Ws 114 H nx args) _=_ from h) with ⟨e,h1⟩ | ⟨_,h1⟩
 ·have e:=ay e
  subst e
  exact ⟨Tryz.call82 vals w,acH (ρ:=Tryz.laysWStr_ren) lays240 xF.toX72 h1 hr hL⟩
 rcases jf h1 with ⟨e,h2⟩ | ⟨_,h2⟩
 ·have e:=ay e
  subst e
  exact ⟨Tryz.call40 vals w,acG (ρ:=Tryz.laysItoa_ren) Tryz.laysItoa htab h2 hG hr hL⟩
 rcases jf h2 with ⟨e,h4⟩ | ⟨_,h4⟩
 ·have e:=ay e
  subst e
  exact ⟨Tryz.call147 vals w,af9 (ρ:=Tryz.laysIdx_ren) Tryz.laysIdx h4 hr hL⟩
 rcases jf h4 with ⟨e,h5⟩ | ⟨_,h5⟩
 ·have e:=ay e
  subst e
  exact ⟨Tryz.call85 vals w,acJ (ρ:=Tryz.laysAtoi_ren) Tryz.laysAtoi h5 hr hL⟩
 rcases jf h5 with ⟨e,h6⟩ | ⟨_,h6⟩
 ·have e:=ay e
  subst e
  exact ⟨Tryz.call399 vals w,aga (ρ:=Tryz.laysCut_ren) Tryz.laysCut hmx h6 hG hr hL⟩
 rcases jf h6 with ⟨e,h7⟩ | ⟨_,h7⟩
 ·have e:=ay e
  subst e
  exact ⟨Tryz.call289 vals w,acK (ρ:=Tryz.keys290_ren) (σr:=Tryz.sorted289_ren) Tryz.keys290 Tryz.sorted289 agb Tryz.call205 Tryz.call343 h7 hr hL⟩
 ·exact hm f args H nx v H' nx' h7 w0 σ w vals hG hr hL
theorem mixed:Tryz.prog.follows .mixedOrders=true:=Tryz.laysWStr.mixed
end Go.Proofs.YtnegekppaoedgaaGreatDoor.Ci
namespace Go.Proofs.YtnegekppaoedgaaGreatDoor.Ci
open Go.RowKit Go.Shelf
variable [fE]
def GW (w:World):Prop:=Lib.TabIs Tryz.prog w "internal/strconv.uint64pow10" .u64 Lib.pow10Tab∧∃m,w.cell? ⟨1,0,none⟩=some (.int .i64 m)
theorem akJ:Tryz.prog.globalNamed "internal/strconv.uint64pow10" =some 0:=by kernel_rfl
theorem GW.lt {w:World} (h:GW w):0 < w.heap.size∧1 < w.heap.size:=by
 obtain ⟨h1,m,h2⟩:=h
 have old:∀b,w.heap[b]? ≠none→b < w.heap.size:=fun b hn=> by
  rcases Nat.lt_or_ge b w.heap.size with h | h
  ·exact h
  ·exact absurd (Array.getElem?_eq_none h) hn
 refine ⟨old _ fun e=> ?_,old _ fun e=> ?_⟩
 ·unfold Lib.TabIs World.var? at h1
  rw [akJ,Option.bind_some,e] at h1
  cases h1
 ·unfold World.cell? at h2
  rw [show (⟨1,0,none⟩:Addr).block=1 from rfl,e] at h2
  cases h2
def GB (b:Base):Prop:=GW b.w∧b.F 1∧b.F 0
theorem GB.of {w:World} {hu:OkW w} (h:GW w):GB (Base.of w hu):=⟨h,h.lt.2,h.lt.1⟩
theorem GB.keep {w0:Base} {w:World} (h:GB w0) (hb:dO w0 w):GW w:=by
 obtain ⟨⟨h1,m,h2⟩,f1,f2⟩:=h
 refine ⟨?_,m,?_⟩
 ·unfold Lib.TabIs World.var? at h1 ⊢
  rw [akJ,Option.bind_some] at h1 ⊢
  rw [hb.block 0 f2]
  exact h1
 ·unfold World.cell? at h2 ⊢
  have h2:=h2
  rw [show (⟨1,0,none⟩:Addr).block=1 from rfl] at h2 ⊢
  rw [hb.block 1 f1]
  exact h2
theorem acL {more:Ext} (hm:iP Tryz.prog GB more):iP Tryz.prog GB (Ls more):=
 agc (fun _ _ h hb=> (h.keep hb).1) (fun _ _ h hb=> (h.keep hb).2) hm
theorem xG:iP Tryz.prog GB (fun _ _ _ _=> none):=fun _ _ _ _ _ _ _ h=> by cases h
def D9:dG→Bool
 | .ok (.v (.bool b)) _ _=> b
 | _=> false
def Says (f:FuncId):Prop:=∀w,OkW w→GW w→Calls Tryz.prog f #[] w fun e w'=> e= .returned (.bool true)∧Below w.heap.size w w'
theorem agd {f:FuncId} {ext:Ext} (hE:iP Tryz.prog GB ext) {k n:Nat} (h:D9 (rc Tryz.prog ext k n f [] .e 0)=true):Says f:=by
 intro w hu hw
 unfold D9 at h
 split at h
 ·rename_i b H' nx' hrc
  subst h
  refine (Jm mixed hE k n f [] .e 0 _ H' nx' hrc (Base.of w hu) (fun _=> none) w #[] (GB.of hw) (R.start w hu) (fU.nil _)).2.mono ?_
  rintro e w' ⟨x,rfl,σ',_,_,hR,_,hx⟩
  rw [hx.val]
  exact ⟨rfl,hR.below.to⟩
 ·cases h
end Go.Proofs.YtnegekppaoedgaaGreatDoor.Ci
namespace Go.Proofs.YtnegekppaoedgaaGreatDoor.Ci
open Go.RowKit
variable [fE]
mutual
theorem xH:∀c:CV,sh 0 c=c
 | .u i=> rfl
 | .v x=> rfl
 | .t bs=> rfl
 | .p l o=> rfl
 | .s l o n c=> rfl
 | .m l=> rfl
 | .fn f fs cs=> by rw [sh,o9 fs,o9 cs]
 | .agg cs=> by rw [sh,o9 cs]
 | .bH cs=> by rw [sh,o9 cs]
theorem o9:∀cs:List CV,TF 0 cs=cs
 | []=> rfl
 | c::cs=> by rw [TF,xH c,o9 cs]
end
theorem acM (b:aP):shB 0 b=b:=by
 cases b with
 | cl k cs=> rw [shB,o9]
 | mp es bs ck=>
  rw [shB]
  congr 1
  conv=> rhs;rw [←List.map_id es]
  apply List.map_congr_left
  intro p _
  rw [xH,xH]
  rfl
 | it m s n l=> cases m <;> rfl
 | mu es=>
  rw [shB]
  congr 1
  conv=> rhs;rw [←List.map_id es]
  apply List.map_congr_left
  intro p _
  rw [xH]
  rfl
theorem VR.names {σ σ':Nm} {K:List Nat} (hs:∀l c,l∈K→σ l=some c→σ' l=some c) {c:CV} {v:Value} (h:VR σ c v) (hk:Qx K c=true):VR σ' c v:=by
 have:=VR.shift (d:=0) hs h hk
 rw [xH] at this
 exact this
theorem fH.names {σ σ':Nm} {K:List Nat} (hs:∀l c,l∈K→σ l=some c→σ' l=some c) {w:World} {c:Loc} {b:aP} (hk:Qy K b=true) (h:fH σ w c b):fH σ' w c b:=by
 have:=fH.shift (d:=0) hs hk h
 rw [acM] at this
 exact this
def fC (L:List (Nat×aP)) (H:Tr aP):Tr aP:= @List.rec (Nat×aP) (fun _=> Tr aP) H (fun p _ ih=> ih.put p.1 p.2) L
def zU (L:List (Nat×aP)) (H:Tr aP):Tr aP:= @List.rec (Nat×aP) (fun _=> Tr aP) H (fun p _ ih=> ih.del p.1) L
theorem tX (H:Tr aP):∀(L:List (Nat×aP)) (l:Nat),(∃p∈L,l=p.1∧(fC L H).get l=some p.2)∨((∀p∈L,l≠p.1)∧(fC L H).get l=H.get l)
 | [],l=> Or.inr ⟨(fun p hp=> by cases hp),rfl⟩
 | q::L,l=> by
  show (∃p∈q::L,l=p.1∧((fC L H).put q.1 q.2).get l=some p.2)∨((∀p∈q::L,l≠p.1)∧((fC L H).put q.1 q.2).get l=H.get l)
  rw [get_put]
  by_cases he:l=q.1
  ·rw [if_pos he]
   exact Or.inl ⟨q,List.mem_cons_self ..,he,rfl⟩
  ·rw [if_neg he]
   rcases tX H L l with ⟨p,hp,h1,h2⟩ | ⟨h1,h2⟩
   ·exact Or.inl ⟨p,List.mem_cons_of_mem _ hp,h1,h2⟩
   ·exact Or.inr ⟨fun p hp=> by
     rcases List.mem_cons.1 hp with rfl | hp
     ·exact he
     ·exact h1 p hp,h2⟩
theorem Jq (H:Tr aP):∀(L:List (Nat×aP)) (l:Nat),((∃p∈L,l=p.1)∧(zU L H).get l=none)∨((∀p∈L,l≠p.1)∧(zU L H).get l=H.get l)
 | [],l=> Or.inr ⟨(fun p hp=> by cases hp),rfl⟩
 | q::L,l=> by
  show ((∃p∈q::L,l=p.1)∧((zU L H).del q.1).get l=none)∨((∀p∈q::L,l≠p.1)∧((zU L H).del q.1).get l=H.get l)
  rw [AP]
  by_cases he:l=q.1
  ·rw [if_pos he]
   exact Or.inl ⟨⟨q,List.mem_cons_self ..,he⟩,rfl⟩
  ·rw [if_neg he]
   rcases Jq H L l with ⟨⟨p,hp,h1⟩,h2⟩ | ⟨h1,h2⟩
   ·exact Or.inl ⟨⟨p,List.mem_cons_of_mem _ hp,h1⟩,h2⟩
   ·exact Or.inr ⟨fun p hp=> by
     rcases List.mem_cons.1 hp with rfl | hp
     ·exact he
     ·exact h1 p hp,h2⟩
structure cu where
 f:FuncId
 args:List CV
 hs:List (Nat×aP)
 nx:Nat
 v:CV
 L:List (Nat×aP)
 n:Nat
def cu.S (m:cu):List Nat:=m.hs.map (·.1)
def cu.K (m:cu):List Nat:=m.L.map (·.1)
def cu.closed (m:cu):Bool:=Hu m.S m.args && (m.hs.all (fun p=> Qy m.S p.2 && Nat.ble (p.1 + 1) m.nx) && (Qx (m.S ++ m.K) m.v && m.L.all fun p=> Qy (m.S ++ m.K) p.2 && (Nat.ble m.nx p.1 || m.S.any (Nat.beq p.1))))
structure cu.Ok (P:Program) (G:Base→Prop) (m:cu):Prop where
 cl:m.closed=true
 ok:∀(w0:Base) (σ:Nm) (w:World) (vals:Array Value),G w0→R w0 σ (fC m.hs .e) m.nx w→fU σ m.args vals.toList→(callFunc m.f vals).run P w= .ok (.enter m.f vals) w∧
  Calls P m.f vals w fun e w'=> ∃x,e= .returned x∧∃σ1 H1,Le σ σ1∧(∀l,l < m.nx→σ1 l=σ l)∧R w0 σ1 H1 m.n w'∧m.nx≤m.n∧VR σ1 m.v x∧∀p∈m.L,H1.get p.1=some p.2
def qA:List CV→List CV→Bool
 | [],[]=> true
 | a::l,b::r=> same a b && qA l r
 | _,_=> false
def Lu:List (Int×CV)→List (Int×CV)→Bool
 | [],[]=> true
 | a::l,b::r=> ieq a.1 b.1 && (same a.2 b.2 && Lu l r)
 | _,_=> false
def zh:aP→aP→Bool
 | .cl k a,.cl k' b=> KE k k' && Dk a b
 | .mp es bs ck,.mp es' bs' ck'=> Ja es es' && (zM bs bs' && Nat.beq ck ck')
 | .it none a b c,.it none a' b' c'=> Nat.beq a a' && (zM b b' && Nat.beq c c')
 | .it (some m) a b c,.it (some m') a' b' c'=> Nat.beq m m' && (Nat.beq a a' && (zM b b' && Nat.beq c c'))
 | .mu es,.mu es'=> Lu es es'
 | _,_=> false
def hasB (H:Tr aP) (l:List (Nat×aP)):Bool:= @List.rec (Nat×aP) (fun _=> Bool) true (fun p _ ih=> @Option.rec aP (fun _=> Bool) false (fun b=> bG (zh p.2 b) ih false) (H.get p.1)) l
def xB:List cu→FuncId→List CV→Tr aP→Nat→Option dG
 | [],_,_,_,_=> none
 | m::t,f,args,H,nx=> bG (Bool.and (Nat.beq f m.f) (Bool.and (Nat.beq nx m.nx) (Bool.and (qA m.args args) (hasB H m.hs)))) (some (.ok m.v (fC m.L (zU m.hs H)) m.n)) (xB t f args H nx)
theorem pq:∀{a b:List CV},qA a b=true→a=b
 | [],[],_=> rfl
 | x::l,y::r,h=> by
  obtain ⟨h1,h2⟩:=and_true (show (same x y && qA l r)=true from h)
  rw [same_eq h1,pq h2]
 | [],_::_,h=> by cases h
 | _::_,[],h=> by cases h
theorem Jr:∀{a b:List (Int×CV)},Lu a b=true→a=b
 | [],[],_=> rfl
 | x::l,y::r,h=> by
  obtain ⟨h1,h2⟩:=and_true (show (ieq x.1 y.1 && (same x.2 y.2 && Lu l r))=true from h)
  obtain ⟨h2,h3⟩:=and_true h2
  rw [rM] at h1
  rw [Jr h3,Prod.ext (of_decide_eq_true h1) (same_eq h2)]
 | [],_::_,h=> by cases h
 | _::_,[],h=> by cases h
theorem Yi {a b:aP} (h:zh a b=true):a=b:=by
 unfold zh at h
 split at h
 ·obtain ⟨h1,h2⟩:=and_true h
  rw [yV h1,o7 h2]
 ·obtain ⟨h1,h2⟩:=and_true h
  obtain ⟨h2,h3⟩:=and_true h2
  rw [DU h1,rQ h2,ay h3]
 ·obtain ⟨h1,h2⟩:=and_true h
  obtain ⟨h2,h3⟩:=and_true h2
  rw [ay h1,rQ h2,ay h3]
 ·obtain ⟨h0,h1⟩:=and_true h
  obtain ⟨h1,h2⟩:=and_true h1
  obtain ⟨h2,h3⟩:=and_true h2
  rw [ay h0,ay h1,rQ h2,ay h3]
 ·rw [Jr h]
 ·cases h
theorem Wx {H:Tr aP}:∀{l:List (Nat×aP)},hasB H l=true→∀p∈l,H.get p.1=some p.2
 | [],_,p,hp=> by cases hp
 | q::l,h,p,hp=> by
  have h: @Option.rec aP (fun _=> Bool) false (fun b=> bG (zh q.2 b) (hasB H l) false) (H.get q.1)=true:=h
  cases hg:H.get q.1 with
  | none=> rw [hg] at h;cases h
  | some b=>
   rw [hg] at h
   have h:bG (zh q.2 b) (hasB H l) false=true:=h
   cases hb:zh q.2 b
   ·rw [hb] at h;cases h
   ·rw [hb] at h
    rcases List.mem_cons.1 hp with rfl | hp
    ·rw [hg,Yi hb]
    ·exact Wx h p hp
theorem akK {P:Program} {G:Base→Prop} (hG:∀(w0 b1:Base) (w:World),G w0→dO w0 w→b1.w=w→(∀b,w0.F b→b1.F b)→G b1) {m:cu} (hm:m.Ok P G) {H:Tr aP} (hH:∀p∈m.hs,H.get p.1=some p.2) {w0:Base} {σ:Nm} {w:World} {vals:Array Value} (hg:G w0) (hr:R w0 σ H m.nx w) (hL:fU σ m.args vals.toList):
  (callFunc m.f vals).run P w= .ok (.enter m.f vals) w∧Calls P m.f vals w fun e w'=> ∃x,e= .returned x∧After w0 σ m.nx m.v (fC m.L (zU m.hs H)) m.n x w':=by
 obtain ⟨c1,c2⟩:=and_true hm.cl
 obtain ⟨c2,c3⟩:=and_true c2
 obtain ⟨c3,c4⟩:=and_true c3
 have cs:∀p∈m.hs,Qy m.S p.2=true∧p.1 < m.nx:=fun p hp=> by
  obtain ⟨a,b⟩:=and_true (List.all_eq_true.1 c2 p hp)
  exact ⟨a,aN b⟩
 have cl:∀p∈m.L,Qy (m.S ++ m.K) p.2=true∧(m.nx≤p.1∨p.1∈m.S):=fun p hp=> by
  obtain ⟨a,b⟩:=and_true (List.all_eq_true.1 c4 p hp)
  have b:(Nat.ble m.nx p.1 || m.S.any (Nat.beq p.1))=true:=b
  rw [Bool.or_eq_true] at b
  exact ⟨a,b.imp aN qy⟩
 have sS:∀l,l∈m.S→l < m.nx∧∃b,H.get l=some b∧(l,b)∈m.hs:=fun l hl=> by
  obtain ⟨p,hp,rfl⟩:=List.mem_map.1 hl
  exact ⟨(cs p hp).2,p.2,hH p hp,hp⟩
 let σr:Nm:=fun l=> if l∈m.S then σ l else none
 have σr_in:∀l,l∈m.S→σr l=σ l:=fun l hl=> if_pos hl
 have σr_some:∀l c,σr l=some c→l∈m.S∧σ l=some c:=fun l c h=> by
  by_cases hl:l∈m.S
  ·exact ⟨hl,by rw [←σr_in l hl];exact h⟩
  ·have:σr l=none:=if_neg hl
   rw [this] at h
   cases h
 let b1:Base:=⟨w,fun b=> b < w.heap.size∧∀l c,l∈m.S→σ l=some c→b≠c.blk,fun _ h=> h.1,hr.below.okW.1,fun b hb=> ⟨Nat.lt_of_lt_of_le hb hr.below.okW.2,fun l c _ hc e=> (hr.lo l c hc).1 (e ▸ w0.fb b hb)⟩⟩
 have hF:∀b,w0.F b→b1.F b:=fun b hb=> ⟨Nat.lt_of_lt_of_le (w0.lt b hb) hr.below.size,fun l c _ hc e=> (hr.lo l c hc).1 (e ▸ hb)⟩
 have hnm:∀l c,l∈m.S→σ l=some c→σr l=some c:=fun l c hl hc=> by rw [σr_in l hl];exact hc
 have hr1:R b1 σr (fC m.hs .e) m.nx w:=by
  refine ⟨⟨rfl,rfl,rfl,Nat.le_refl _,fun _ _=> rfl⟩,fun l c b hl hb=> ?_,fun l c hl=> ?_,fun l l' c c' b b' hl hl' hb hb' e=> ?_,fun l c hl=> hr.fresh l c (σr_some l c hl).2⟩
  ·obtain ⟨h1,h2⟩:=σr_some l c hl
   rcases tX .e m.hs l with ⟨p,hp,rfl,h4⟩ | ⟨h3,h4⟩
   ·rw [h4] at hb
    injection hb with hb
    subst hb
    exact (hr.blk p.1 c p.2 h2 (hH p hp)).names hnm (cs p hp).1
   ·rw [h4] at hb
    cases hb
  ·obtain ⟨h1,h2⟩:=σr_some l c hl
   exact ⟨fun h=> h.2 l c h1 h2 rfl,(hr.lo l c h2).2⟩
  ·obtain ⟨h1,h2⟩:=σr_some l c hl
   obtain ⟨h1',h2'⟩:=σr_some l' c' hl'
   obtain ⟨_,d,h3,_⟩:=sS l h1
   obtain ⟨_,d',h3',_⟩:=sS l' h1'
   exact hr.sep l l' c c' d d' h2 h2' h3 h3' e
 have hL1:fU σr m.args vals.toList:=⟨hL.1,fun j c v hc hv=> (hL.2 j c v hc hv).names hnm (ng c1 j c hc)⟩
 obtain ⟨k1,k2⟩:=hm.ok b1 σr w vals (hG w0 b1 w hg hr.below rfl hF) hr1 hL1
 refine ⟨k1,k2.mono ?_⟩
 rintro e w' ⟨x,rfl,σ1,H1,e1,e2,e3,e4,e5,e6⟩
 let σ':Nm:=fun l=> if l < m.nx then σ l else if l∈m.K then σ1 l else none
 have xA:∀l,l < m.nx→σ' l=σ l:=fun l hl=> if_pos hl
 have hiN:∀l,¬l < m.nx→l∈m.K→σ' l=σ1 l:=fun l hl hk=> by
  show (if l < m.nx then σ l else if l∈m.K then σ1 l else none)=_
  rw [if_neg hl,if_pos hk]
 have akL:∀l,¬l < m.nx→l∉m.K→σ' l=none:=fun l hl hk=> by
  show (if l < m.nx then σ l else if l∈m.K then σ1 l else none)=_
  rw [if_neg hl,if_neg hk]
 have inS:∀l,l∈m.S→σ1 l=σ l:=fun l hl=> by rw [e2 l (sS l hl).1,σr_in l hl]
 have hle:Le σ σ':=fun l c hc=> by rw [xA l (hr.fresh l c hc)];exact hc
 have agree:∀l c,l∈m.S ++ m.K→σ1 l=some c→σ' l=some c:=fun l c hl hc=> by
  by_cases hlt:l < m.nx
  ·rw [xA l hlt]
   rw [e2 l hlt] at hc
   exact (σr_some l c hc).2
  ·rcases List.mem_append.1 hl with hl | hl
   ·exact absurd (sS l hl).1 hlt
   ·rw [hiN l hlt hl];exact hc
 have kind:∀l c b,σ' l=some c→(fC m.L (zU m.hs H)).get l=some b→(∃p∈m.L,l=p.1∧b=p.2∧σ1 l=some c)∨(l < m.nx∧l∉m.S∧H.get l=some b∧σ l=some c):=fun l c b hl hb=> by
  rcases tX (zU m.hs H) m.L l with ⟨p,hp,rfl,h4⟩ | ⟨h3,h4⟩
  ·left
   rw [h4] at hb
   injection hb with hb
   refine ⟨p,hp,rfl,hb.symm,?_⟩
   have hk:p.1∈m.K:=List.mem_map.2 ⟨p,hp,rfl⟩
   by_cases hlt:p.1 < m.nx
   ·rcases (cl p hp).2 with h5 | h5
    ·omega
    ·rw [inS _ h5,←xA _ hlt];exact hl
   ·rw [←hiN _ hlt hk];exact hl
  ·right
   rw [h4] at hb
   have hlt:l < m.nx:=by
    rcases Nat.lt_or_ge l m.nx with h | h
    ·exact h
    ·rw [akL l (by omega) (fun hk=> by
      obtain ⟨p,hp,e⟩:=List.mem_map.1 hk
      exact h3 p hp e.symm)] at hl
     cases hl
   rcases Jq H m.hs l with ⟨_,h6⟩ | ⟨h5,h6⟩
   ·rw [h6] at hb;cases hb
   ·rw [h6] at hb
    exact ⟨hlt,fun hs=> by
     obtain ⟨p,hp,e⟩:=List.mem_map.1 hs
     exact h5 p hp e.symm,hb,by rw [←xA l hlt];exact hl⟩
 have keep:∀l c b,l∉m.S→H.get l=some b→σ l=some c→b1.F c.blk:=fun l c b hl hb hc=> ⟨(hr.lo l c hc).2,fun l2 c2 h2 hc2 e=> by
  obtain ⟨_,d,h3,_⟩:=sS l2 h2
  have:=hr.sep l l2 c c2 b d hc hc2 hb h3 e
  exact hl (this ▸ h2)⟩
 refine ⟨x,rfl,σ',hle,xA,⟨?_,fun l c b hl hb=> ?_,fun l c hl=> ?_,fun l l' c c' b b' hl hl' hb hb' e=> ?_,fun l c hl=> ?_⟩,e4,e5.names agree c3⟩
 ·exact ⟨e3.below.os.trans hr.below.os,e3.below.tape.trans hr.below.tape,e3.below.output.trans hr.below.output,Nat.le_trans hr.below.size e3.below.size,fun b hb=> (e3.below.block b (hF b hb)).trans (hr.below.block b hb)⟩
 ·rcases kind l c b hl hb with ⟨p,hp,rfl,rfl,h1⟩ | ⟨_,h2,h3,h4⟩
  ·exact (e3.blk p.1 c p.2 h1 (e6 p hp)).names agree (cl p hp).1
  ·exact (hr.blk l c b h4 h3).mono hle (e3.below.block _ (keep l c b h2 h3 h4))
 ·by_cases hlt:l < m.nx
  ·rw [xA l hlt] at hl
   exact ⟨(hr.lo l c hl).1,Nat.lt_of_lt_of_le (hr.lo l c hl).2 e3.below.size⟩
  ·by_cases hk:l∈m.K
   ·rw [hiN l hlt hk] at hl
    exact ⟨fun h=> (e3.lo l c hl).1 (hF _ h),(e3.lo l c hl).2⟩
   ·rw [akL l hlt hk] at hl
    cases hl
 ·rcases kind l c b hl hb with ⟨p,hp,rfl,rfl,h1⟩ | ⟨_,h2,h3,h4⟩ <;> rcases kind l' c' b' hl' hb' with ⟨p',hp',rfl,rfl,h1'⟩ | ⟨_,h2',h3',h4'⟩
  ·exact e3.sep p.1 p'.1 c c' p.2 p'.2 h1 h1' (e6 p hp) (e6 p' hp') e
  ·exact absurd (by rw [e];exact keep l' c' b' h2' h3' h4') (e3.lo p.1 c h1).1
  ·exact absurd (by rw [←e];exact keep l c b h2 h3 h4) (e3.lo p'.1 c' h1').1
  ·exact hr.sep l l' c c' b b' h4 h4' h3 h3' e
 ·by_cases hlt:l < m.nx
  ·exact Nat.lt_of_lt_of_le hlt e4
  ·by_cases hk:l∈m.K
   ·rw [hiN l hlt hk] at hl
    exact e3.fresh l c hl
   ·rw [akL l hlt hk] at hl
    cases hl
theorem acN {P:Program} {G:Base→Prop} (hG:∀(w0 b1:Base) (w:World),G w0→dO w0 w→b1.w=w→(∀b,w0.F b→b1.F b)→G b1):∀{T:List cu},(∀m∈T,m.Ok P G)→iP P G (xB T)
 | [],_=> fun f args H nx v H' nx' h=> by cases h
 | m::T,hT=> fun f args H nx v H' nx' h w0 σ w vals hg hr hL=> by
  rcases jf (show bG _ _ _=_ from h) with ⟨e,h1⟩ | ⟨_,h1⟩
  ·obtain ⟨q1,e⟩:=and_true e
   obtain ⟨q2,e⟩:=and_true e
   obtain ⟨q3,q4⟩:=and_true e
   have q1:=ay q1
   have q2:=ay q2
   have q3:=pq q3
   subst q1 q2 q3
   injection h1 with h1
   injection h1 with h1 h2 h3
   subst h1 h2 h3
   exact akK hG (hT m (List.mem_cons_self ..)) (Wx q4) hg hr hL
  ·exact acN hG (fun p hp=> hT p (List.mem_cons_of_mem _ hp)) f args H nx v H' nx' h1 w0 σ w vals hg hr hL
def dV (keep:List Nat) (r:dG):Option (CV×List (Nat×aP)×Nat):= @dG.rec (fun _=> Option (CV×List (Nat×aP)×Nat)) none (fun v H n=> some (v,collect H 6000 (TG v ++ keep) [],n)) r
theorem cu.of_run {P:Program} {G:Base→Prop} (hm:P.follows .mixedOrders=true) {ext:FuncId→List CV→Tr aP→Nat→Option dG} (hE:iP P G ext) {k n:Nat} (m:cu) (hc:m.closed=true) (h:dV m.S (rc P ext k n m.f m.args (fC m.hs .e) m.nx)=some (m.v,m.L,m.n)):m.Ok P G:=by
 refine ⟨hc,fun w0 σ w vals hg hR hL=> ?_⟩
 cases hr:rc P ext k n m.f m.args (fC m.hs .e) m.nx with
 | no=> rw [hr] at h;cases h
 | ok v H n'=>
  rw [hr] at h
  have h:some (v,collect H 6000 (TG v ++ m.S) [],n')=some (m.v,m.L,m.n):=h
  injection h with h
  injection h with h1 h
  injection h with h2 h3
  obtain ⟨a,b⟩:=Jm hm hE k n m.f m.args (fC m.hs .e) m.nx v H n' hr w0 σ w vals hg hR hL
  refine ⟨a,b.mono ?_⟩
  rintro e w' ⟨x,rfl,σ1,g1,g2,g3,g4,g5⟩
  rw [h1] at g5
  rw [h3] at g3 g4
  refine ⟨x,rfl,σ1,H,g1,g2,g3,g4,g5,fun p hp=> ?_⟩
  rw [←h2] at hp
  exact lQ 6000 (TG v ++ m.S) [] (fun p hp=> by cases hp) p hp
end Go.Proofs.YtnegekppaoedgaaGreatDoor.Ci
namespace Go.Proofs.YtnegekppaoedgaaGreatDoor.Ci
open Go.RowKit Go.Shelf
variable [fE]
abbrev i (n:Nat):CV:= .v (.int .i64 (.ofNat n))
abbrev j (n:Nat):CV:= .v (.int .i64 (.negSucc n))
abbrev o:CV:= .v (.slice none 0 0)
abbrev ff:CV:= .v (.bool false)
abbrev tt:CV:= .v (.bool true)
def xI:yX:=⟨56,[.t [110,101,116,119,111,114,107,32,109,97,105,108,32,59,32,101,100,105,116,32,110,111,32,59,32,100,101,108,101,116,101,32,110,111,32,59,32,114,101,97,99,116,32,110,111,32,59,32,116,104,114,101,97,100,32,102,108,97,116,32,59,32,113,117,111,116,101,32,110,111,32,59,32,109,101,110,116,105,111,110,32,110,111,32,59,32,115,105,122,101,32,52,48,32,112,97,114,116,115,32,50,32,59,32,106,111,105,110,32,108,105,110,107,32,59,32,104,105,115,116,111,114,121,32,97,108,108,32,59,32,114,101,109,111,118,101,32,110,111,119,32,59,32,114,101,99,101,105,112,116,115,32,114,101,97,100,32,98,97,116,99,104,32,59,32,114,97,116,101,32,57,32,100,111,119,110,32,49,32,111,102,32,52,32,59]],.bH [.agg [.t [109,97,105,108],i 0,i 0,i 0,ff,i 1,ff,ff,i 40,i 2,i 0,i 0,o,i 1,i 1,i 0,i 4,tt,i 9,i 1,i 4,i 0],i 0,i 0],[],291⟩
theorem acO:xI.closed=true:=by decide
theorem Yj:outcome (rc Tryz.prog (Ls fun _ _ _ _=> none) 100000 60 xI.f xI.args .e 0)=some (xI.v,xI.L,xI.n):=by kernel_rfl
theorem acP:xI.Ok Tryz.prog GB:=yX.of_run mixed (acL xG) xI acO Yj
def xJ:yX:=⟨56,[.t [110,101,116,119,111,114,107,32,114,111,111,109,32,59,32,101,100,105,116,32,121,101,115,32,59,32,100,101,108,101,116,101,32,121,101,115,32,59,32,114,101,97,99,116,32,121,101,115,32,59,32,116,104,114,101,97,100,32,116,114,101,101,32,59,32,113,117,111,116,101,32,121,101,115,32,59,32,109,101,110,116,105,111,110,32,121,101,115,32,59,32,115,105,122,101,32,50,48,48,32,112,97,114,116,115,32,49,32,59,32,102,105,108,101,115,32,50,32,98,121,116,101,115,32,57,48,48,32,116,121,112,101,115,32,112,110,103,32,59,32,106,111,105,110,32,108,105,110,107,32,59,32,104,105,115,116,111,114,121,32,97,108,108,32,59,32,114,101,109,111,118,101,32,110,111,119,32,59,32,114,101,99,101,105,112,116,115,32,115,104,111,119,110,32,59,32,114,97,116,101,32,57,32,100,111,119,110,32,48,32,111,102,32,49,32,59]],.bH [.agg [.t [114,111,111,109],i 2,i 0,i 2,tt,i 2,tt,tt,i 200,i 1,i 2,i 900,.s 297 0 1 (.op 1 1),i 1,i 1,i 0,i 3,ff,i 9,i 0,i 1,i 0],i 0,i 0],[(297,.cl (.of 9) [.t [112,110,103]])],345⟩
theorem acQ:xJ.closed=true:=by decide
theorem Yk:outcome (rc Tryz.prog (Ls fun _ _ _ _=> none) 100000 60 xJ.f xJ.args .e 0)=some (xJ.v,xJ.L,xJ.n):=by kernel_rfl
theorem acR:xJ.Ok Tryz.prog GB:=yX.of_run mixed (acL xG) xJ acQ Yk
def acS:List yX:= [xI,xJ]
theorem acT:∀m∈acS,m.Ok Tryz.prog GB:=by
 intro m hm
 simp only [acS,List.mem_cons,List.not_mem_nil,or_false] at hm
 rcases hm with rfl | rfl
 ·exact acP
 ·exact acR
def Wy (c:FuncId→Bool) (x:Ext):Ext:=fun f args H nx=> bG (c f) (x f args H nx) none
theorem Fa {P:Program} {G:Base→Prop} {c:FuncId→Bool} {x:Ext} (hx:iP P G x):iP P G (Wy c x):=fun f args H nx v H' nx' h=> by
 rcases jf (show bG (c f) (x f args H nx) none=_ from h) with ⟨_,h1⟩ | ⟨_,h1⟩
 ·exact hx f args H nx v H' nx' h1
 ·cases h1
def ext1:Ext:=orX (Wy (fun f=> Nat.beq f 56) (xM acS)) (Ls fun _ _ _ _=> none)
theorem gI:iP Tryz.prog GB ext1:=yY (Fa (aiv (fun _ _ _ h hb=> GB.of (h.keep hb)) acT)) (acL xG)
theorem WA (w0 b1:Base) (w:World) (h:GB w0) (hb:dO w0 w) (e:b1.w=w) (hF:∀b,w0.F b→b1.F b):GB b1:=⟨by rw [e];exact h.keep hb,hF _ h.2.1,hF _ h.2.2⟩
end Go.Proofs.YtnegekppaoedgaaGreatDoor.Ci
namespace Go.Proofs.YtnegekppaoedgaaGreatDoor.Ci
open Go.RowKit Go.Shelf
variable [fE]
def opn:cu:=⟨33,[.agg [.s 848 0 2 (.kn 2),.s 849 0 3 (.kn 3),.s 850 0 3 (.kn 3),i 3,i 2,i 8,.s 851 0 1 (.kn 1),i 5]],[(851,.cl (.of 3) [i 13]),(850,.cl (.of 106) [i 0,i 100,i 15,i 0,i 101,i 1,i 0,i 102,i 1]),(849,.cl (.of 104) [i 0,i 100,i 1,i 101,i 12,i 102]),(848,.cl (.of 9) [.t [110,101,116,119,111,114,107,32,109,97,105,108,32,59,32,101,100,105,116,32,110,111,32,59,32,100,101,108,101,116,101,32,110,111,32,59,32,114,101,97,99,116,32,110,111,32,59,32,116,104,114,101,97,100,32,102,108,97,116,32,59,32,113,117,111,116,101,32,110,111,32,59,32,109,101,110,116,105,111,110,32,110,111,32,59,32,115,105,122,101,32,52,48,32,112,97,114,116,115,32,50,32,59,32,106,111,105,110,32,108,105,110,107,32,59,32,104,105,115,116,111,114,121,32,97,108,108,32,59,32,114,101,109,111,118,101,32,110,111,119,32,59,32,114,101,99,101,105,112,116,115,32,114,101,97,100,32,98,97,116,99,104,32,59,32,114,97,116,101,32,57,32,100,111,119,110,32,49,32,111,102,32,52,32,59],.t [110,101,116,119,111,114,107,32,114,111,111,109,32,59,32,101,100,105,116,32,121,101,115,32,59,32,100,101,108,101,116,101,32,121,101,115,32,59,32,114,101,97,99,116,32,121,101,115,32,59,32,116,104,114,101,97,100,32,116,114,101,101,32,59,32,113,117,111,116,101,32,121,101,115,32,59,32,109,101,110,116,105,111,110,32,121,101,115,32,59,32,115,105,122,101,32,50,48,48,32,112,97,114,116,115,32,49,32,59,32,102,105,108,101,115,32,50,32,98,121,116,101,115,32,57,48,48,32,116,121,112,101,115,32,112,110,103,32,59,32,106,111,105,110,32,108,105,110,107,32,59,32,104,105,115,116,111,114,121,32,97,108,108,32,59,32,114,101,109,111,118,101,32,110,111,119,32,59,32,114,101,99,101,105,112,116,115,32,115,104,111,119,110,32,59,32,114,97,116,101,32,57,32,100,111,119,110,32,48,32,111,102,32,49,32,59]])],856,.bH [.p 866 0,tt],[(1643,.cl (.of 193) [i 0,i 0,i 4,i 0,i 0,i 0,i 0,i 0,i 0,i 0,i 0,i 0,i 0,i 0,i 0,i 0,i 4,i 1]),(1198,.cl (.of 193) [i 0,i 0,i 4,i 1,i 3,i 2,i 3,i 2,i 3,i 2,i 2,i 1,i 2,i 2,i 2,i 2,i 2,i 2]),(1694,.cl (.of 141) [.s 1198 0 9 (.kn 9),.s 1643 0 9 (.kn 9)]),(1555,.cl (.of 9) [.t [112,110,103]]),(1693,.cl (.of 137) [.t [109,97,105,108],i 0,i 0,i 0,ff,i 1,ff,ff,i 40,i 2,i 0,i 0,o,i 1,i 1,i 0,i 4,tt,i 9,i 1,i 4,i 0,.t [114,111,111,109],i 2,i 0,i 2,tt,i 2,tt,tt,i 200,i 1,i 2,i 900,.s 1555 0 1 (.op 1 1),i 1,i 1,i 0,i 3,ff,i 9,i 0,i 1,i 0]),(851,.cl (.of 3) [i 13]),(850,.cl (.of 106) [i 0,i 100,i 15,i 0,i 101,i 1,i 0,i 102,i 1]),(849,.cl (.of 104) [i 0,i 100,i 1,i 101,i 12,i 102]),(848,.cl (.of 9) [.t [110,101,116,119,111,114,107,32,109,97,105,108,32,59,32,101,100,105,116,32,110,111,32,59,32,100,101,108,101,116,101,32,110,111,32,59,32,114,101,97,99,116,32,110,111,32,59,32,116,104,114,101,97,100,32,102,108,97,116,32,59,32,113,117,111,116,101,32,110,111,32,59,32,109,101,110,116,105,111,110,32,110,111,32,59,32,115,105,122,101,32,52,48,32,112,97,114,116,115,32,50,32,59,32,106,111,105,110,32,108,105,110,107,32,59,32,104,105,115,116,111,114,121,32,97,108,108,32,59,32,114,101,109,111,118,101,32,110,111,119,32,59,32,114,101,99,101,105,112,116,115,32,114,101,97,100,32,98,97,116,99,104,32,59,32,114,97,116,101,32,57,32,100,111,119,110,32,49,32,111,102,32,52,32,59],.t [110,101,116,119,111,114,107,32,114,111,111,109,32,59,32,101,100,105,116,32,121,101,115,32,59,32,100,101,108,101,116,101,32,121,101,115,32,59,32,114,101,97,99,116,32,121,101,115,32,59,32,116,104,114,101,97,100,32,116,114,101,101,32,59,32,113,117,111,116,101,32,121,101,115,32,59,32,109,101,110,116,105,111,110,32,121,101,115,32,59,32,115,105,122,101,32,50,48,48,32,112,97,114,116,115,32,49,32,59,32,102,105,108,101,115,32,50,32,98,121,116,101,115,32,57,48,48,32,116,121,112,101,115,32,112,110,103,32,59,32,106,111,105,110,32,108,105,110,107,32,59,32,104,105,115,116,111,114,121,32,97,108,108,32,59,32,114,101,109,111,118,101,32,110,111,119,32,59,32,114,101,99,101,105,112,116,115,32,115,104,111,119,110,32,59,32,114,97,116,101,32,57,32,100,111,119,110,32,48,32,111,102,32,49,32,59]]),(866,.cl (.whole 135) [.s 848 0 2 (.kn 2),.s 849 0 3 (.kn 3),.s 850 0 3 (.kn 3),i 3,i 2,i 8,.s 851 0 1 (.kn 1),i 5,.s 1693 0 2 (.op 22 2),.s 1694 0 2 (.op 1 2),i 0,o,o,o,o,o,o,o,o,o,o,o,o,o])],1695⟩
set_option maxRecDepth 100000 in
theorem akM:opn.closed=true:=by kernel_rfl
theorem agf:dV opn.S (rc Tryz.prog ext1 100000 60 opn.f opn.args (fC opn.hs .e) opn.nx)=some (opn.v,opn.L,opn.n):=by kernel_rfl
theorem akN:opn.Ok Tryz.prog GB:=cu.of_run mixed gI opn akM agf
def QI:cu:=⟨11,[],[],0,.agg [.s 1 0 2 (.kn 2),.s 2 0 3 (.kn 3),.s 3 0 3 (.kn 3),i 3,i 2,i 8,.s 4 0 1 (.kn 1),i 5],[(4,.cl (.of 3) [i 13]),(3,.cl (.of 106) [i 0,i 100,i 15,i 0,i 101,i 1,i 0,i 102,i 1]),(2,.cl (.of 104) [i 0,i 100,i 1,i 101,i 12,i 102]),(1,.cl (.of 9) [.t [110,101,116,119,111,114,107,32,109,97,105,108,32,59,32,101,100,105,116,32,110,111,32,59,32,100,101,108,101,116,101,32,110,111,32,59,32,114,101,97,99,116,32,110,111,32,59,32,116,104,114,101,97,100,32,102,108,97,116,32,59,32,113,117,111,116,101,32,110,111,32,59,32,109,101,110,116,105,111,110,32,110,111,32,59,32,115,105,122,101,32,52,48,32,112,97,114,116,115,32,50,32,59,32,106,111,105,110,32,108,105,110,107,32,59,32,104,105,115,116,111,114,121,32,97,108,108,32,59,32,114,101,109,111,118,101,32,110,111,119,32,59,32,114,101,99,101,105,112,116,115,32,114,101,97,100,32,98,97,116,99,104,32,59,32,114,97,116,101,32,57,32,100,111,119,110,32,49,32,111,102,32,52,32,59],.t [110,101,116,119,111,114,107,32,114,111,111,109,32,59,32,101,100,105,116,32,121,101,115,32,59,32,100,101,108,101,116,101,32,121,101,115,32,59,32,114,101,97,99,116,32,121,101,115,32,59,32,116,104,114,101,97,100,32,116,114,101,101,32,59,32,113,117,111,116,101,32,121,101,115,32,59,32,109,101,110,116,105,111,110,32,121,101,115,32,59,32,115,105,122,101,32,50,48,48,32,112,97,114,116,115,32,49,32,59,32,102,105,108,101,115,32,50,32,98,121,116,101,115,32,57,48,48,32,116,121,112,101,115,32,112,110,103,32,59,32,106,111,105,110,32,108,105,110,107,32,59,32,104,105,115,116,111,114,121,32,97,108,108,32,59,32,114,101,109,111,118,101,32,110,111,119,32,59,32,114,101,99,101,105,112,116,115,32,115,104,111,119,110,32,59,32,114,97,116,101,32,57,32,100,111,119,110,32,48,32,111,102,32,49,32,59]])],5⟩
set_option maxRecDepth 100000 in
theorem akO:QI.closed=true:=by kernel_rfl
theorem agh:dV QI.S (rc Tryz.prog ext1 100000 60 QI.f QI.args (fC QI.hs .e) QI.nx)=some (QI.v,QI.L,QI.n):=by kernel_rfl
theorem akP:QI.Ok Tryz.prog GB:=cu.of_run mixed gI QI akO agh
def WB:cu:=⟨10,[.agg [.s 1 0 2 (.kn 2),.s 2 0 3 (.kn 3),.s 3 0 3 (.kn 3),i 3,i 2,i 8,.s 4 0 1 (.kn 1),i 5]],[(4,.cl (.of 3) [i 13]),(3,.cl (.of 106) [i 0,i 100,i 15,i 0,i 101,i 1,i 0,i 102,i 1]),(2,.cl (.of 104) [i 0,i 100,i 1,i 101,i 12,i 102]),(1,.cl (.of 9) [.t [110,101,116,119,111,114,107,32,109,97,105,108,32,59,32,101,100,105,116,32,110,111,32,59,32,100,101,108,101,116,101,32,110,111,32,59,32,114,101,97,99,116,32,110,111,32,59,32,116,104,114,101,97,100,32,102,108,97,116,32,59,32,113,117,111,116,101,32,110,111,32,59,32,109,101,110,116,105,111,110,32,110,111,32,59,32,115,105,122,101,32,52,48,32,112,97,114,116,115,32,50,32,59,32,106,111,105,110,32,108,105,110,107,32,59,32,104,105,115,116,111,114,121,32,97,108,108,32,59,32,114,101,109,111,118,101,32,110,111,119,32,59,32,114,101,99,101,105,112,116,115,32,114,101,97,100,32,98,97,116,99,104,32,59,32,114,97,116,101,32,57,32,100,111,119,110,32,49,32,111,102,32,52,32,59],.t [110,101,116,119,111,114,107,32,114,111,111,109,32,59,32,101,100,105,116,32,121,101,115,32,59,32,100,101,108,101,116,101,32,121,101,115,32,59,32,114,101,97,99,116,32,121,101,115,32,59,32,116,104,114,101,97,100,32,116,114,101,101,32,59,32,113,117,111,116,101,32,121,101,115,32,59,32,109,101,110,116,105,111,110,32,121,101,115,32,59,32,115,105,122,101,32,50,48,48,32,112,97,114,116,115,32,49,32,59,32,102,105,108,101,115,32,50,32,98,121,116,101,115,32,57,48,48,32,116,121,112,101,115,32,112,110,103,32,59,32,106,111,105,110,32,108,105,110,107,32,59,32,104,105,115,116,111,114,121,32,97,108,108,32,59,32,114,101,109,111,118,101,32,110,111,119,32,59,32,114,101,99,101,105,112,116,115,32,115,104,111,119,110,32,59,32,114,97,116,101,32,57,32,100,111,119,110,32,48,32,111,102,32,49,32,59]])],5,.bH [.agg [i 0,o,o,o,o,o,o,.s 846 0 2 (.kn 2),o,o,o,o,o],i 0],[(1,.cl (.of 9) [.t [110,101,116,119,111,114,107,32,109,97,105,108,32,59,32,101,100,105,116,32,110,111,32,59,32,100,101,108,101,116,101,32,110,111,32,59,32,114,101,97,99,116,32,110,111,32,59,32,116,104,114,101,97,100,32,102,108,97,116,32,59,32,113,117,111,116,101,32,110,111,32,59,32,109,101,110,116,105,111,110,32,110,111,32,59,32,115,105,122,101,32,52,48,32,112,97,114,116,115,32,50,32,59,32,106,111,105,110,32,108,105,110,107,32,59,32,104,105,115,116,111,114,121,32,97,108,108,32,59,32,114,101,109,111,118,101,32,110,111,119,32,59,32,114,101,99,101,105,112,116,115,32,114,101,97,100,32,98,97,116,99,104,32,59,32,114,97,116,101,32,57,32,100,111,119,110,32,49,32,111,102,32,52,32,59],.t [110,101,116,119,111,114,107,32,114,111,111,109,32,59,32,101,100,105,116,32,121,101,115,32,59,32,100,101,108,101,116,101,32,121,101,115,32,59,32,114,101,97,99,116,32,121,101,115,32,59,32,116,104,114,101,97,100,32,116,114,101,101,32,59,32,113,117,111,116,101,32,121,101,115,32,59,32,109,101,110,116,105,111,110,32,121,101,115,32,59,32,115,105,122,101,32,50,48,48,32,112,97,114,116,115,32,49,32,59,32,102,105,108,101,115,32,50,32,98,121,116,101,115,32,57,48,48,32,116,121,112,101,115,32,112,110,103,32,59,32,106,111,105,110,32,108,105,110,107,32,59,32,104,105,115,116,111,114,121,32,97,108,108,32,59,32,114,101,109,111,118,101,32,110,111,119,32,59,32,114,101,99,101,105,112,116,115,32,115,104,111,119,110,32,59,32,114,97,116,101,32,57,32,100,111,119,110,32,48,32,111,102,32,49,32,59]]),(2,.cl (.of 104) [i 0,i 100,i 1,i 101,i 12,i 102]),(3,.cl (.of 106) [i 0,i 100,i 15,i 0,i 101,i 1,i 0,i 102,i 1]),(4,.cl (.of 3) [i 13]),(846,.cl (.of 157) [o,o])],847⟩
set_option maxRecDepth 100000 in
theorem akQ:WB.closed=true:=by kernel_rfl
theorem agi:dV WB.S (rc Tryz.prog ext1 100000 60 WB.f WB.args (fC WB.hs .e) WB.nx)=some (WB.v,WB.L,WB.n):=by kernel_rfl
theorem akR:WB.Ok Tryz.prog GB:=cu.of_run mixed gI WB akQ agi
def qN:cu:=⟨11,[],[(846,.cl (.of 157) [o,o])],847,.agg [.s 848 0 2 (.kn 2),.s 849 0 3 (.kn 3),.s 850 0 3 (.kn 3),i 3,i 2,i 8,.s 851 0 1 (.kn 1),i 5],[(846,.cl (.of 157) [o,o]),(851,.cl (.of 3) [i 13]),(850,.cl (.of 106) [i 0,i 100,i 15,i 0,i 101,i 1,i 0,i 102,i 1]),(849,.cl (.of 104) [i 0,i 100,i 1,i 101,i 12,i 102]),(848,.cl (.of 9) [.t [110,101,116,119,111,114,107,32,109,97,105,108,32,59,32,101,100,105,116,32,110,111,32,59,32,100,101,108,101,116,101,32,110,111,32,59,32,114,101,97,99,116,32,110,111,32,59,32,116,104,114,101,97,100,32,102,108,97,116,32,59,32,113,117,111,116,101,32,110,111,32,59,32,109,101,110,116,105,111,110,32,110,111,32,59,32,115,105,122,101,32,52,48,32,112,97,114,116,115,32,50,32,59,32,106,111,105,110,32,108,105,110,107,32,59,32,104,105,115,116,111,114,121,32,97,108,108,32,59,32,114,101,109,111,118,101,32,110,111,119,32,59,32,114,101,99,101,105,112,116,115,32,114,101,97,100,32,98,97,116,99,104,32,59,32,114,97,116,101,32,57,32,100,111,119,110,32,49,32,111,102,32,52,32,59],.t [110,101,116,119,111,114,107,32,114,111,111,109,32,59,32,101,100,105,116,32,121,101,115,32,59,32,100,101,108,101,116,101,32,121,101,115,32,59,32,114,101,97,99,116,32,121,101,115,32,59,32,116,104,114,101,97,100,32,116,114,101,101,32,59,32,113,117,111,116,101,32,121,101,115,32,59,32,109,101,110,116,105,111,110,32,121,101,115,32,59,32,115,105,122,101,32,50,48,48,32,112,97,114,116,115,32,49,32,59,32,102,105,108,101,115,32,50,32,98,121,116,101,115,32,57,48,48,32,116,121,112,101,115,32,112,110,103,32,59,32,106,111,105,110,32,108,105,110,107,32,59,32,104,105,115,116,111,114,121,32,97,108,108,32,59,32,114,101,109,111,118,101,32,110,111,119,32,59,32,114,101,99,101,105,112,116,115,32,115,104,111,119,110,32,59,32,114,97,116,101,32,57,32,100,111,119,110,32,48,32,111,102,32,49,32,59]])],852⟩
set_option maxRecDepth 100000 in
theorem akS:qN.closed=true:=by kernel_rfl
theorem agj:dV qN.S (rc Tryz.prog ext1 100000 60 qN.f qN.args (fC qN.hs .e) qN.nx)=some (qN.v,qN.L,qN.n):=by kernel_rfl
theorem akT:qN.Ok Tryz.prog GB:=cu.of_run mixed gI qN akS agj
def an7:List cu:= [opn]
theorem agk:∀m∈an7,m.Ok Tryz.prog GB:=by
 intro m hm
 rw [List.mem_singleton.1 hm]
 exact akN
def an8:Ext:=orX (Wy (fun f=> Nat.beq f 33) (xB an7)) (Ls fun _ _ _ _=> none)
theorem agl:iP Tryz.prog GB an8:=yY (Fa (acN WA agk)) (acL xG)
def xR (b:Bool) (cs:List CV) (f:FuncId) (args:List CV) (h:Tr aP) (nx:Nat):Option dG:=fP (Bool.and (Nat.beq f 8) (qA args [.agg cs])) (some (.ok (.v (.bool b)) h nx))
def clo (h:Tr aP) (nx:Nat) (l:List CV):Option dG:=some (.ok (.s nx 0 (len l) (.op 1 (len l))) (h.put nx (.cl .any l)) (Nat.succ nx))
def xC1 (h:Tr aP) (nx:Nat) (t:Nat):Option dG:=match t with
 | 36=> clo h nx []
 | 37=> clo h nx [.u 1760]
 | 38=> clo h nx [.u 1760,.u 3561]
 | 39=> clo h nx [.u 1760,.u 1760]
 | 40=> clo h nx [.u 1760,.u 1761]
 | _=> none
def xC (f:FuncId) (args:List CV) (h:Tr aP) (nx:Nat):Option dG:=fP (Nat.beq f 60) (match args with
 | [.u i]=> fP (Nat.beq (Nat.mod i 100) 14) (xC1 h nx (Nat.div i 100))
 | _=> none)
def akU (b:Bool) (cs:List CV):Ext:=orX (xR b cs) (orX xC an8)
def isOk:dG→Bool
 | .ok (.bH [.agg l,o,.v (.int .i64 _)]) _ _=> Bool.and (Nat.beq (len l) 13) (iQ o)
 | _=> false
def isArg:dG→Bool
 | .ok (.bH [.agg l,.v (.slice none 0 0),.v (.int .i64 1)]) _ _=> Nat.beq (len l) 13
 | _=> false
def ni (j:Nat):List (Nat×CV)→CV
 | []=> .u j
 | p::l=> bif Nat.beq p.1 j then p.2 else ni j l
def Yl (l:List (Nat×CV)):Nat→Nat→List CV
 | 0,_=> []
 | k + 1,j=> ni j l::Yl l k (j + 1)
def aU (l:List (Nat×CV)):List CV:=Yl l 35 0
def Js:Tr aP:=fC qN.L .e
def rU:CV:= .agg [i 0,o,o,o,o,o,o,.s 846 0 2 (.kn 2),o,o,o,o,o]
def take0:Nat:=852
def au (b:Bool) (cs:List CV):dG:=rc Tryz.prog (akU b cs) 100000 60 12 (app opn.args [rU,.agg cs]) Js take0
end Go.Proofs.YtnegekppaoedgaaGreatDoor.Ci
end

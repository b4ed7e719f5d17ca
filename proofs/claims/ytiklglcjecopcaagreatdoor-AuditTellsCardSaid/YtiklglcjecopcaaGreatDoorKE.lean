/-
  Pairs of numbers as keys of maps (debts; an event and a network): the literal of a key.
-/
import Derived.Test.YtiklglcjecopcaaGreatDoorQ19
import Derived.WideKeyPair
import Derived.DeepKeys4
import Derived.Maps.Keyed
namespace Go.Proofs.YtiklglcjecopcaaGreatDoor
open Go.RowKit Go.Maps Go.Shelf Go.WideMaps Go.WideElems Go.WideShapes
theorem inv_below {w W:World} (hI:Inv w) (h:Below w.heap.size w W):Inv W:=hI.keep fun b hb=> h.block b (hI.lt hb)
abbrev Pr:=Int×Int
def pairV (x:Pr):Value:= .agg #[.int .i64 x.1,.int .i64 x.2]
def inR (x:Pr):Prop:=(Lit.int .i64 x.1).wf=true∧(Lit.int .i64 x.2).wf=true
def klit (x:Pr):Lit:= .string (keyBytes [.int .i64 x.1,.int .i64 x.2])
theorem tys:∃m,Tryz.prog.types.size=m + 1:=⟨Tryz.prog.types.size - 1,by kernel_rfl⟩
theorem laidP:laidOutB Tryz.prog=true:=by kernel_rfl
theorem size3:Tryz.prog.cellsOf 3=1:=by kernel_rfl
theorem lits_one (m:Nat) (a:Int) (ha:(Lit.int .i64 a).wf=true):Tryz.prog.keyLits (m + 1) 3 [.int .i64 a]=some [.int .i64 a]:=by
 unfold Program.keyLits
 simp [Tryz.underlying3,ha]
theorem lits_inv (m:Nat) (c:Value) (ls:List Lit) (hc:Tryz.prog.keyLits (m + 1) 3 [c]=some ls):∃a,c= .int .i64 a∧(Lit.int .i64 a).wf=true∧ls= [.int .i64 a]:=by
 unfold Program.keyLits at hc
 simp only [Tryz.underlying3] at hc
 cases c <;> simp at hc
 rename_i q' a
 obtain ⟨⟨rfl,hw⟩,rfl⟩:=hc
 exact ⟨a,rfl,hw,rfl⟩
theorem pairV_inj {x y:Pr} (h:pairV x=pairV y):x=y:=by
 unfold pairV at h
 simp at h
 exact Prod.ext h.1 h.2
theorem law67:KeyLaw Tryz.prog 67:=deep_law_laid laidP (m:=2) (by omega) (of_decide_eq_true (by kernel_rfl)) (by kernel_rfl) (by rw [Tryz.underlying67])
theorem keyed67:Keyed Tryz.prog 67:=Keyed.of_law law67
theorem size67:Tryz.prog.cellsOf 67=2:=by kernel_rfl
theorem key_pair67 {x:Pr} (h:inR x):keyOf Tryz.prog 67 (pairV x)=some (klit x):=by
 obtain ⟨m,hm⟩:=tys
 have hkt:Tryz.prog.keyType 67=true:=by kernel_rfl
 have hf:(pairV x).formed Tryz.prog 67=true:=by simp [pairV,Value.formed,Tryz.underlying67,size67]
 unfold keyOf
 simp only [Tryz.underlying67,hkt,hf,Bool.and_self,if_true,hm]
 unfold Program.keyLits
 simp [Tryz.underlying67,pairV,Value.cells,size67,size3,lits_one m _ h.1,lits_one m _ h.2,klit]
set_option maxRecDepth 100000 in
theorem of_key67 {v:Value} {l:Lit} (h:keyOf Tryz.prog 67 v=some l):∃x,v=pairV x∧inR x∧l=klit x:=by
 obtain ⟨m,hm⟩:=tys
 unfold keyOf at h
 simp only [Tryz.underlying67] at h
 split at h
 ·rename_i hc
  rw [Bool.and_eq_true] at hc
  have hf:=hc.2
  cases v with
  | agg cs=>
   have hsz:cs.size=2:=by simpa [Value.formed,Tryz.underlying67,size67] using hf
   obtain ⟨c0,c1,rfl⟩:∃c0 c1,cs= #[c0,c1]:=by
    obtain ⟨l⟩:=cs
    match l,hsz with
    | [a,b],_=> exact ⟨a,b,rfl⟩
   rw [hm] at h
   unfold Program.keyLits at h
   cases h0:Tryz.prog.keyLits (m + 1) 3 [c0] with
   | none=> simp [Tryz.underlying67,Value.cells,size67,size3,h0] at h
   | some l0=>
    cases h1:Tryz.prog.keyLits (m + 1) 3 [c1] with
    | none=> simp [Tryz.underlying67,Value.cells,size67,size3,h0,h1] at h
    | some l1=>
     obtain ⟨a,rfl,wa,rfl⟩:=lits_inv m _ _ h0
     obtain ⟨b,rfl,wb,rfl⟩:=lits_inv m _ _ h1
     simp [Tryz.underlying67,Value.cells,size67,size3,h0,h1] at h
     exact ⟨(a,b),rfl,⟨wa,wb⟩,h.symm⟩
  | _=> simp [Value.formed,Tryz.underlying67] at hf
 ·cases h
theorem law91:KeyLaw Tryz.prog 91:=deep_law_laid laidP (m:=2) (by omega) (of_decide_eq_true (by kernel_rfl)) (by kernel_rfl) (by rw [Tryz.underlying91])
theorem keyed91:Keyed Tryz.prog 91:=Keyed.of_law law91
theorem size91:Tryz.prog.cellsOf 91=2:=by kernel_rfl
theorem key_pair91 {x:Pr} (h:inR x):keyOf Tryz.prog 91 (pairV x)=some (klit x):=by
 obtain ⟨m,hm⟩:=tys
 have hkt:Tryz.prog.keyType 91=true:=by kernel_rfl
 have hf:(pairV x).formed Tryz.prog 91=true:=by simp [pairV,Value.formed,Tryz.underlying91,size91]
 unfold keyOf
 simp only [Tryz.underlying91,hkt,hf,Bool.and_self,if_true,hm]
 unfold Program.keyLits
 simp [Tryz.underlying91,pairV,Value.cells,size91,size3,lits_one m _ h.1,lits_one m _ h.2,klit]
theorem klit_inj {x y:Pr} (hx:inR x) (hy:inR y) (h:klit x=klit y):x=y:=pairV_inj (keyed67.inj (key_pair67 hx) (by rw [h];exact key_pair67 hy))
end Go.Proofs.YtiklglcjecopcaaGreatDoor

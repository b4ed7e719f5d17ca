/-
The text of an input, and what is read from a text (plain law).
-/
import Derived.Test.YtnegekppaoedgaaGreatDoorQ14
import Derived.Shelf.LaysC
import Derived.Shelf.Strconv.AtoiAll
import Derived.Laws.CopyOwn
import Derived.Lib.Overlaps
set_option linter.all false
namespace Go.Proofs.YtnegekppaoedgaaGreatDoor
open Go.RowKit
def gX (b:Bool):Int:=bif b then 1 else 0
def rN (s:RS):Int×RS:=dA s 59 0
def rI (s:RS):Int×RS:=dA s 59 dw
def qL:Nat→RS→List Bool→List Bool×RS
 | 0,s,acc=> (acc,s)
 | k + 1,s,acc=> if (s.getD []).length=0 then (acc,s) else qL k (rN s).2 (acc ++ [(rN s).1==1])
def qJ (s:RS):aQ×RS:=
 let x1:=rN s
 let x2:=rN x1.2
 let x3:=rN x2.2
 let x4:=rN x3.2
 let x5:=rI x4.2
 let x6:=rI x5.2
 let x7:=rI x6.2
 let x8:=rN x7.2
 let x9:=jB x8.2
 let y:=pJ x9.2
 (⟨x1.1,x2.1,x3.1,x4.1,x5.1,x6.1,x7.1,x8.1,⟨y.1.toArray⟩,x9.1⟩,y.2)
def jl (k:Int) (s:RS):ak×RS:=match k with
 | 0=> ({dF with Kind:=0,Raw:=(qJ s).1},(qJ s).2)
 | 1=>
  let x1:=rN s
  let x2:=rN x1.2
  let x3:=rN x2.2
  let x4:=rN x3.2
  ({dF with Kind:=1,Net:=x1.1,Event:=x2.1,N:=x3.1,Local:=x4.1},x4.2)
 | 2=>
  let x1:=rN s
  let x2:=rN x1.2
  let x3:=rN x2.2
  let x4:=rN x3.2
  let x5:=rN x4.2
  ({dF with Kind:=2,Net:=x1.1,Note:=⟨x2.1,x3.1,x4.1,0,x5.1==1⟩},x5.2)
 | 3=>
  let x1:=rN s
  let x2:=rN x1.2
  let x3:=rN x2.2
  ({dF with Kind:=3,Proof:=⟨x1.1,x2.1,x3.1⟩},x3.2)
 | 4=>
  let x1:=rN s
  let x2:=rN x1.2
  ({dF with Kind:=4,aB:=⟨x1.1,0,x2.1==1⟩},x2.2)
 | 5=>
  let x1:=rN s
  let x2:=rN x1.2
  ({dF with Kind:=5,Hold:=⟨x1.1,x2.1,0,0⟩},x2.2)
 | 6=> ({dF with Kind:=6,N:=(rN s).1},(rN s).2)
 | 7=>
  let x1:=rN s
  let x2:=rN x1.2
  let x3:=rN x2.2
  ({dF with Kind:=7,Order:=⟨x1.1,x2.1,x3.1,0⟩},x3.2)
 | 8=>
  let x1:=rN s
  let x2:=rN x1.2
  ({dF with Kind:=8,Net:=x1.1,Event:=x2.1},x2.2)
 | 9=> ({dF with Kind:=9,Up:=(qL (rN s).1.toNat (rN s).2 []).1},(qL (rN s).1.toNat (rN s).2 []).2)
 | k=> ({dF with Kind:=k},s)
def nJ (t:List UInt8):ak×RS:=jl (rN (some t)).1 (rN (some t)).2
def iH (a:ak):List UInt8:=match a.Kind with
 | 0=> aA 0 ++ (aA a.Raw.Account ++ (aA a.Raw.Seq ++ (aA a.Raw.Kind ++ (aA a.Raw.dN ++ (aA a.Raw.On ++ (aA a.Raw.Quote ++ (aA a.Raw.Who ++ (aA a.Raw.N ++ (lH a.Raw.Files ++ wText a.Raw.Text.toList)))))))))
 | 1=> aA 1 ++ (aA a.Net ++ (aA a.Event ++ (aA a.N ++ aA a.Local)))
 | 2=> aA 2 ++ (aA a.Net ++ (aA a.Note.Message ++ (aA a.Note.Who ++ (aA a.Note.Level ++ aA (gX a.Note.Not)))))
 | 3=> aA 3 ++ (aA a.Proof.Kind ++ (aA a.Proof.A ++ aA a.Proof.B))
 | 4=> aA 4 ++ (aA a.aB.Name ++ aA (gX a.aB.Bad))
 | 5=> aA 5 ++ (aA a.Hold.Id ++ aA a.Hold.Event)
 | 6=> aA 6 ++ aA a.N
 | 7=> aA 7 ++ (aA a.Order.Kind ++ (aA a.Order.Event ++ aA a.Order.By))
 | 8=> aA 8 ++ (aA a.Net ++ aA a.Event)
 | k=> aA k ++ (aA (a.Up.length:Int) ++ a.Up.flatMap fun b=> aA (gX b))
theorem jC {n:Int} (h:0≤n∧n≤1099511627776) (r:List UInt8):rN (some (aA n ++ r))=(n,some r):=U1 (by omega) (by omega) h.1 r
theorem Ri {n:Int} (h:0≤n∧n≤1099511627776):rN (some (aA n))=(n,some []):=by
 have:=jC h []
 rwa [List.append_nil] at this
theorem alC {n:Int} (h: -1≤n∧n≤1099511627776) (r:List UInt8):rI (some (aA n ++ r))=(n,some r):=U1 (by omega) (by omega) (by unfold dw;omega) r
theorem U8 (b:Bool):0≤gX b∧gX b≤1099511627776:=by cases b <;> decide
theorem GH (b:Bool):(gX b==1)=b:=by cases b <;> rfl
theorem Xd (n:Int):aA n≠ []:=by simp [aA]
theorem adN:∀(l acc:List Bool),qL l.length (some (l.flatMap fun b=> aA (gX b))) acc=(acc ++ l,some [])
 | [],acc=> by simp [qL]
 | b::l,acc=> by
  have e:((some (aA (gX b) ++ l.flatMap fun b=> aA (gX b)):RS).getD []).length≠0:=by
   intro h
   have:=List.length_eq_zero_iff.1 h
   exact Xd _ (List.append_eq_nil_iff.1 this).1
  rw [List.length_cons,List.flatMap_cons,qL,if_neg e,jC (U8 b)]
  simp only
  rw [adN l _,GH]
  simp
theorem kinds {P:ak→Prop} (h0:∀n e l m r o p v q w u,P ⟨0,n,e,l,m,r,o,p,v,q,w,u⟩) (h1:∀n e l m r o p v q w u,P ⟨1,n,e,l,m,r,o,p,v,q,w,u⟩) (h2:∀n e l m r o p v q w u,P ⟨2,n,e,l,m,r,o,p,v,q,w,u⟩) (h3:∀n e l m r o p v q w u,P ⟨3,n,e,l,m,r,o,p,v,q,w,u⟩) (h4:∀n e l m r o p v q w u,P ⟨4,n,e,l,m,r,o,p,v,q,w,u⟩) (h5:∀n e l m r o p v q w u,P ⟨5,n,e,l,m,r,o,p,v,q,w,u⟩)
  (h6:∀n e l m r o p v q w u,P ⟨6,n,e,l,m,r,o,p,v,q,w,u⟩) (h7:∀n e l m r o p v q w u,P ⟨7,n,e,l,m,r,o,p,v,q,w,u⟩) (h8:∀n e l m r o p v q w u,P ⟨8,n,e,l,m,r,o,p,v,q,w,u⟩) (h9:∀n e l m r o p v q w u,P ⟨9,n,e,l,m,r,o,p,v,q,w,u⟩) (hn:∀a:ak,¬(0≤a.Kind∧a.Kind≤9)→P a) (a:ak):P a:=by
 by_cases h:0≤a.Kind∧a.Kind≤9
 ·have:a.Kind=0∨a.Kind=1∨a.Kind=2∨a.Kind=3∨a.Kind=4∨a.Kind=5∨a.Kind=6∨a.Kind=7∨a.Kind=8∨a.Kind=9:=by omega
  obtain ⟨k,n,e,l,m,r,o,p,v,q,w,u⟩:=a
  simp only at this
  rcases this with rfl | rfl | rfl | rfl | rfl | rfl | rfl | rfl | rfl | rfl
  ·exact h0 ..
  ·exact h1 ..
  ·exact h2 ..
  ·exact h3 ..
  ·exact h4 ..
  ·exact h5 ..
  ·exact h6 ..
  ·exact h7 ..
  ·exact h8 ..
  ·exact h9 ..
 ·exact hn a h
theorem Xe {a:ak} (h:¬(0≤a.Kind∧a.Kind≤9)):okB a=some false:=by
 unfold okB
 split <;> first | rfl | (exfalso;rename_i e;rw [e] at h;exact h (by decide))
theorem fQ {p:Prop} [Decidable p] (h:some (decide p)=some true):p:=of_decide_eq_true (Option.some.inj h)
theorem Rj {n:Int} (h:su n=true):0≤n∧n≤1073741824:=by
 unfold su at h
 simpa using h
theorem sN:∀s:ByteArray,s.toList.length=s.size:=fun ⟨⟨l⟩⟩=> by
 rw [ByteArray.toList_mk]
 rfl
theorem ahx (r:aQ) (h:vO r=true):qJ (some (aA r.Account ++ (aA r.Seq ++ (aA r.Kind ++ (aA r.dN ++ (aA r.On ++ (aA r.Quote ++ (aA r.Who ++ (aA r.N ++ (lH r.Files ++ wText r.Text.toList))))))))))=(r,some []):=by
 unfold vO at h
 rw [Bool.and_eq_true,decide_eq_true_eq,List.all_eq_true] at h
 obtain ⟨⟨q1,q2,q3,q4,q5,q6,q7,q8,q9,q10⟩,q11⟩:=h
 have t:pJ (some (wText r.Text.toList))=(r.Text.toList,some []):=by
  have hl:r.Text.toList.length=r.Text.size:=sN _
  have:=aho r.Text.toList [] (by omega)
  rwa [List.append_nil] at this
 unfold qJ
 simp only [jC (n:=r.Account) (by omega),jC (n:=r.Seq) (by omega),jC (n:=r.Kind) (by omega),jC (n:=r.dN) (by omega),alC (n:=r.On) (by omega),alC (n:=r.Quote) (by omega),alC (n:=r.Who) (by omega),jC (n:=r.N) (by omega),
  ahp r.Files (wText r.Text.toList) (fun n hn=> by have:=Rj (q11 n hn);omega) (by omega),t]
 have e:(⟨r.Text.toList.toArray⟩:ByteArray)=r.Text:=by
  obtain ⟨⟨l⟩⟩:=r.Text
  rw [ByteArray.toList_mk]
 rw [e]
theorem JW (a:ak):gK a→nJ (iH a)=(a,some []):=by
 refine kinds (P:=fun a=> gK a→nJ (iH a)=(a,some [])) ?_ ?_ ?_ ?_ ?_ ?_ ?_ ?_ ?_ ?_ ?_ a
 ·rintro n e l m r o p v q w u ⟨h1,h2⟩
  have hr:vO r=true:=by
   have h1:dH r=some true:=h1
   rw [iw] at h1
   exact Option.some.inj h1
  refine Eq.trans (?_:_=(iF _,some [])) (by rw [h2])
  show jl (rN (some (aA 0 ++ _))).1 (rN (some (aA 0 ++ _))).2=_
  rw [jC (by decide)]
  show (({dF with Kind:=0,Raw:=(qJ (some _)).1}:ak),(qJ (some _)).2)=_
  rw [ahx r hr]
  rfl
 ·rintro n e l m r o p v q w u ⟨h1,h2⟩
  obtain ⟨q1,q2,q3,q4⟩:=fQ (show some (decide ((0≤n∧n≤11)∧(0≤e∧e≤99999)∧(0≤m∧m≤19)∧(0≤l∧l≤1099511627776)))=some true from h1)
  refine Eq.trans (?_:_=(iF _,some [])) (by rw [h2])
  show jl (rN (some (aA 1 ++ (aA n ++ (aA e ++ (aA m ++ aA l)))))).1 (rN (some (aA 1 ++ (aA n ++ (aA e ++ (aA m ++ aA l)))))).2=_
  rw [jC (by decide)]
  simp only [jl,jC (n:=n) (by omega),jC (n:=e) (by omega),jC (n:=m) (by omega),Ri (n:=l) (by omega)]
  rfl
 ·rintro n e l m r o p v q w u ⟨h1,h2⟩
  obtain ⟨o1,o2,o3,o4,o5⟩:=o
  obtain ⟨q1,q2,q3,q4,q5⟩:=fQ (show some (decide ((0≤n∧n≤11)∧(0≤o1∧o1≤99999)∧(0≤o2∧o2≤1999)∧(1≤o3∧o3≤4)∧(o4=0)))=some true from h1)
  subst q5
  refine Eq.trans (?_:_=(iF _,some [])) (by rw [h2])
  show jl (rN (some (aA 2 ++ (aA n ++ (aA o1 ++ (aA o2 ++ (aA o3 ++ aA (gX o5)))))))).1 (rN (some (aA 2 ++ (aA n ++ (aA o1 ++ (aA o2 ++ (aA o3 ++ aA (gX o5)))))))).2=_
  rw [jC (by decide)]
  simp only [jl,jC (n:=n) (by omega),jC (n:=o1) (by omega),jC (n:=o2) (by omega),jC (n:=o3) (by omega),Ri (U8 o5),GH]
  rfl
 ·rintro n e l m r o p v q w u ⟨h1,h2⟩
  obtain ⟨o1,o2,o3⟩:=p
  obtain ⟨q1,q2,q3⟩:=fQ (show some (decide ((0≤o1∧o1≤4)∧(0≤o2∧o2≤199)∧(0≤o3∧o3≤199)))=some true from h1)
  refine Eq.trans (?_:_=(iF _,some [])) (by rw [h2])
  show jl (rN (some (aA 3 ++ (aA o1 ++ (aA o2 ++ aA o3))))).1 (rN (some (aA 3 ++ (aA o1 ++ (aA o2 ++ aA o3))))).2=_
  rw [jC (by decide)]
  simp only [jl,jC (n:=o1) (by omega),jC (n:=o2) (by omega),Ri (n:=o3) (by omega)]
  rfl
 ·rintro n e l m r o p v q w u ⟨h1,h2⟩
  obtain ⟨o1,o2,o3⟩:=v
  obtain ⟨q1,q2⟩:=fQ (show some (decide ((0≤o1∧o1≤1073741824)∧(o2=0)))=some true from h1)
  subst q2
  refine Eq.trans (?_:_=(iF _,some [])) (by rw [h2])
  show jl (rN (some (aA 4 ++ (aA o1 ++ aA (gX o3))))).1 (rN (some (aA 4 ++ (aA o1 ++ aA (gX o3))))).2=_
  rw [jC (by decide)]
  simp only [jl,jC (n:=o1) (by omega),Ri (U8 o3),GH]
  rfl
 ·rintro n e l m r o p v q w u ⟨h1,h2⟩
  obtain ⟨o1,o2,o3,o4⟩:=q
  obtain ⟨q1,q2,q3,q4⟩:=fQ (show some (decide ((0≤o1∧o1≤1099511627776)∧(0≤o2∧o2≤99999)∧(o3=0)∧(o4=0)))=some true from h1)
  subst q3 q4
  refine Eq.trans (?_:_=(iF _,some [])) (by rw [h2])
  show jl (rN (some (aA 5 ++ (aA o1 ++ aA o2)))).1 (rN (some (aA 5 ++ (aA o1 ++ aA o2)))).2=_
  rw [jC (by decide)]
  simp only [jl,jC (n:=o1) (by omega),Ri (n:=o2) (by omega)]
  rfl
 ·rintro n e l m r o p v q w u ⟨h1,h2⟩
  have q1:=fQ (show some (decide (0≤m∧m≤1099511627776))=some true from h1)
  refine Eq.trans (?_:_=(iF _,some [])) (by rw [h2])
  show jl (rN (some (aA 6 ++ aA m))).1 (rN (some (aA 6 ++ aA m))).2=_
  rw [jC (by decide)]
  simp only [jl,Ri (n:=m) q1]
  rfl
 ·rintro n e l m r o p v q w u ⟨h1,h2⟩
  obtain ⟨o1,o2,o3,o4⟩:=w
  obtain ⟨q1,q2,q3,q4⟩:=fQ (show some (decide ((0≤o1∧o1≤3)∧(0≤o2∧o2≤99999)∧(0≤o3∧o3≤1999)∧(o4=0)))=some true from h1)
  subst q4
  refine Eq.trans (?_:_=(iF _,some [])) (by rw [h2])
  show jl (rN (some (aA 7 ++ (aA o1 ++ (aA o2 ++ aA o3))))).1 (rN (some (aA 7 ++ (aA o1 ++ (aA o2 ++ aA o3))))).2=_
  rw [jC (by decide)]
  simp only [jl,jC (n:=o1) (by omega),jC (n:=o2) (by omega),Ri (n:=o3) (by omega)]
  rfl
 ·rintro n e l m r o p v q w u ⟨h1,h2⟩
  obtain ⟨q1,q2⟩:=fQ (show some (decide ((0≤n∧n≤11)∧(0≤e∧e≤99999)))=some true from h1)
  refine Eq.trans (?_:_=(iF _,some [])) (by rw [h2])
  show jl (rN (some (aA 8 ++ (aA n ++ aA e)))).1 (rN (some (aA 8 ++ (aA n ++ aA e)))).2=_
  rw [jC (by decide)]
  simp only [jl,jC (n:=n) (by omega),Ri (n:=e) (by omega)]
  rfl
 ·rintro n e l m r o p v q w u ⟨h1,h2⟩
  have q1:=fQ (show some (decide (0≤(u.length:Int)∧(u.length:Int)≤12))=some true from h1)
  refine Eq.trans (?_:_=(iF _,some [])) (by rw [h2])
  show jl (rN (some (aA 9 ++ (aA (u.length:Int) ++ u.flatMap fun b=> aA (gX b))))).1 (rN (some (aA 9 ++ (aA (u.length:Int) ++ u.flatMap fun b=> aA (gX b))))).2=_
  rw [jC (by decide)]
  simp only [jl,jC (n:=(u.length:Int)) (by omega),Int.toNat_natCast,adN]
  rfl
 ·intro a h hr
  have:=hr.1
  rw [Xe h] at this
  cases this
theorem aeK (a:ak):iH a≠ []:=by
 unfold iH
 split <;> intro h <;> exact Xd _ (List.append_eq_nil_iff.1 h).1
theorem adO:nJ []=({dF with Kind:=0,Raw:=(qJ none).1},none):=by
 have e:rN (some [])=(0,none):=rfl
 unfold nJ
 rw [e]
 rfl
end Go.Proofs.YtnegekppaoedgaaGreatDoor
namespace Go.Proofs
open Go.Shelf
def Tryz.laysAtoiAll_ren:Go.Shelf.Ren:=⟨fun | 172=> 85 | 244=> 148 | 245=> 149 | 247=> 237 | 279=> 238 | 280=> 239 | 281=> 240 | 282=> 241 | 287=> 308 | 316=> 309 | 171=> 40 | 205=> 310 | 321=> 365 | 322=> 366 | 243=> 83 | 246=> 146 | 283=> 232 | 284=> 233 | 285=> 234 | 286=> 235 | 129=> 304 | 317=> 303 | 318=> 305 | 319=> 306 | 320=> 307 | 337=> 363 | 338=> 364 | n=> n,fun | 9=> 9 | 3=> 3 | 75=> 116 | 76=> 117 | 4=> 4 | 5=> 5 | 167=> 332 | 37=> 112 | 0=> 0 | 85=> 333 | 2=> 2 | 168=> 335 | 53=> 327 | 175=> 393 | 46=> 380 | 210=> 396 | 127=> 167 | 145=> 443 | 143=> 441 | 21=> 21 | 171=> 326 | 173=> 330 | 212=> 390 | 51=> 391 | 20=> 20 | 213=> 392 | 232=> 467 | 233=> 468 | 80=> 96 | n=> n,fun | 15=> 2 | 16=> 3 | 17=> 0 | 18=> 4 | 19=> 5 | n=> n⟩
theorem Tryz.laysAtoiAll:Go.Proofs.LaysC.n172 Tryz.prog Tryz.laysAtoiAll_ren:={
 mixed:=by kernel_rfl
 f129:=Tryz.func304.trans (congrArg some (by kernel_rfl))
 f171:=Tryz.func40.trans (congrArg some (by kernel_rfl))
 f172:=Tryz.func85.trans (congrArg some (by kernel_rfl))
 f205:=Tryz.func310.trans (congrArg some (by kernel_rfl))
 f243:=Tryz.func83.trans (congrArg some (by kernel_rfl))
 f244:=Tryz.func148.trans (congrArg some (by kernel_rfl))
 f245:=Tryz.func149.trans (congrArg some (by kernel_rfl))
 f246:=Tryz.func146.trans (congrArg some (by kernel_rfl))
 f247:=Tryz.func237.trans (congrArg some (by kernel_rfl))
 f279:=Tryz.func238.trans (congrArg some (by kernel_rfl))
 f280:=Tryz.func239.trans (congrArg some (by kernel_rfl))
 f281:=Tryz.func240.trans (congrArg some (by kernel_rfl))
 f282:=Tryz.func241.trans (congrArg some (by kernel_rfl))
 f283:=Tryz.func232.trans (congrArg some (by kernel_rfl))
 f284:=Tryz.func233.trans (congrArg some (by kernel_rfl))
 f285:=Tryz.func234.trans (congrArg some (by kernel_rfl))
 f286:=Tryz.func235.trans (congrArg some (by kernel_rfl))
 f287:=Tryz.func308.trans (congrArg some (by kernel_rfl))
 f316:=Tryz.func309.trans (congrArg some (by kernel_rfl))
 f317:=Tryz.func303.trans (congrArg some (by kernel_rfl))
 f318:=Tryz.func305.trans (congrArg some (by kernel_rfl))
 f319:=Tryz.func306.trans (congrArg some (by kernel_rfl))
 f320:=Tryz.func307.trans (congrArg some (by kernel_rfl))
 f321:=Tryz.func365.trans (congrArg some (by kernel_rfl))
 f322:=Tryz.func366.trans (congrArg some (by kernel_rfl))
 f337:=Tryz.func363.trans (congrArg some (by kernel_rfl))
 f338:=Tryz.func364.trans (congrArg some (by kernel_rfl))
 t0:=Tryz.underlying0
 a0:=Tryz.isAgg0
 z0:=Tryz.sizeOf0
 v0:=Tryz.zeroValue0
 t2:=Tryz.underlying2
 a2:=Tryz.isAgg2
 z2:=Tryz.sizeOf2
 v2:=Tryz.zeroValue2
 t3:=Tryz.underlying3
 a3:=Tryz.isAgg3
 z3:=Tryz.sizeOf3
 v3:=Tryz.zeroValue3
 t4:=Tryz.underlying4
 a4:=Tryz.isAgg4
 z4:=Tryz.sizeOf4
 v4:=Tryz.zeroValue4
 t5:=Tryz.underlying5
 a5:=Tryz.isAgg5
 z5:=Tryz.sizeOf5
 v5:=Tryz.zeroValue5
 t9:=Tryz.underlying9
 a9:=Tryz.isAgg9
 z9:=Tryz.sizeOf9
 v9:=Tryz.zeroValue9
 t20:=Tryz.underlying20
 a20:=Tryz.isAgg20
 z20:=Tryz.sizeOf20
 v20:=Tryz.zeroValue20
 t21:=Tryz.underlying21
 a21:=Tryz.isAgg21
 z21:=Tryz.sizeOf21
 v21:=Tryz.zeroValue21
 t37:=Tryz.underlying112
 a37:=Tryz.isAgg112
 z37:=Tryz.sizeOf112
 v37:=Tryz.zeroValue112
 t46:=Tryz.underlying380
 a46:=Tryz.isAgg380
 z46:=Tryz.sizeOf380
 v46:=Tryz.zeroValue380
 t51:=Tryz.underlying391
 a51:=Tryz.isAgg391
 z51:=Tryz.sizeOf391
 v51:=Tryz.zeroValue391
 t53:=Tryz.underlying327
 a53:=Tryz.isAgg327
 z53:=Tryz.sizeOf327
 v53:=Tryz.zeroValue327
 t75:=Tryz.underlying116
 a75:=Tryz.isAgg116
 z75:=Tryz.sizeOf116
 v75:=Tryz.zeroValue116
 t76:=Tryz.underlying117
 a76:=Tryz.isAgg117
 z76:=Tryz.sizeOf117
 v76:=Tryz.zeroValue117
 t85:=Tryz.underlying333
 a85:=Tryz.isAgg333
 z85:=Tryz.sizeOf333
 v85:=Tryz.zeroValue333
 t127:=Tryz.underlying167
 a127:=Tryz.isAgg167
 z127:=Tryz.sizeOf167
 v127:=Tryz.zeroValue167
 t143:=Tryz.underlying441
 a143:=Tryz.isAgg441
 z143:=Tryz.sizeOf441
 v143:=Tryz.zeroValue441
 t145:=Tryz.underlying443
 a145:=Tryz.isAgg443
 z145:=Tryz.sizeOf443
 v145:=Tryz.zeroValue443
 t167:=Tryz.underlying332
 a167:=Tryz.isAgg332
 z167:=Tryz.sizeOf332
 v167:=Tryz.zeroValue332
 t168:=Tryz.underlying335
 a168:=Tryz.isAgg335
 z168:=Tryz.sizeOf335
 v168:=Tryz.zeroValue335
 t171:=Tryz.underlying326
 a171:=Tryz.isAgg326
 z171:=Tryz.sizeOf326
 v171:=Tryz.zeroValue326
 t173:=Tryz.underlying330
 a173:=Tryz.isAgg330
 z173:=Tryz.sizeOf330
 v173:=Tryz.zeroValue330
 t175:=Tryz.underlying393
 a175:=Tryz.isAgg393
 z175:=Tryz.sizeOf393
 v175:=Tryz.zeroValue393
 t210:=Tryz.underlying396
 a210:=Tryz.isAgg396
 z210:=Tryz.sizeOf396
 v210:=Tryz.zeroValue396
 t212:=Tryz.underlying390
 a212:=Tryz.isAgg390
 z212:=Tryz.sizeOf390
 v212:=Tryz.zeroValue390
 t213:=Tryz.underlying392
 a213:=Tryz.isAgg392
 z213:=Tryz.sizeOf392
 t232:=Tryz.underlying467
 a232:=Tryz.isAgg467
 z232:=Tryz.sizeOf467
 v232:=Tryz.zeroValue467
 t233:=Tryz.underlying468
 a233:=Tryz.isAgg468
 z233:=Tryz.sizeOf468
 v233:=Tryz.zeroValue468
 g15:=by kernel_rfl
 g16:=by kernel_rfl
 g17:=by kernel_rfl
 g18:=by kernel_rfl
 g19:=by kernel_rfl
 t80:=Tryz.underlying96
 a80:=Tryz.isAgg96
 z80:=Tryz.sizeOf96
 v80:=Tryz.zeroValue96
 i0:=by kernel_rfl
 i2:=by kernel_rfl
 i3:=by kernel_rfl
 i4:=by kernel_rfl
 i5:=by kernel_rfl
 i9:=by kernel_rfl
 i20:=by kernel_rfl
 i21:=by kernel_rfl
 i37:=by kernel_rfl
 i46:=by kernel_rfl
 i51:=by kernel_rfl
 i53:=by kernel_rfl
 i75:=by kernel_rfl
 i76:=by kernel_rfl
 i80:=by kernel_rfl
 i85:=by kernel_rfl
 i127:=by kernel_rfl
 i143:=by kernel_rfl
 i145:=by kernel_rfl
 i167:=by kernel_rfl
 i168:=by kernel_rfl
 i171:=by kernel_rfl
 i173:=by kernel_rfl
 i175:=by kernel_rfl
 i210:=by kernel_rfl
 i212:=by kernel_rfl
 i232:=by kernel_rfl
 i233:=by kernel_rfl
 m15:=by kernel_rfl
 m16:=by kernel_rfl
 m17:=by kernel_rfl
 m18:=by kernel_rfl
 m19:=by kernel_rfl
 c0:=by kernel_rfl
 c2:=by kernel_rfl
 c3:=by kernel_rfl
 c4:=by kernel_rfl
 c5:=by kernel_rfl
 c9:=by kernel_rfl
 c20:=by kernel_rfl
 c21:=by kernel_rfl
 c37:=by kernel_rfl
 c46:=by kernel_rfl
 c51:=by kernel_rfl
 c53:=by kernel_rfl
 c75:=by kernel_rfl
 c76:=by kernel_rfl
 c80:=by kernel_rfl
 c85:=by kernel_rfl
 c127:=by kernel_rfl
 c143:=by kernel_rfl
 c145:=by kernel_rfl
 c167:=by kernel_rfl
 c168:=by kernel_rfl
 c171:=by kernel_rfl
 c173:=by kernel_rfl
 c175:=by kernel_rfl
 c210:=by kernel_rfl
 c212:=by kernel_rfl
 c213:=by kernel_rfl
 c232:=by kernel_rfl
 c233:=by kernel_rfl}
end Go.Proofs
namespace Go.Proofs.YtnegekppaoedgaaGreatDoor
open Go.RowKit Go.Shelf
def ErrAt (w:World):Prop:=(∃t p,w.cell? ⟨Tryz.laysAtoiAll_ren.g 15,0,none⟩=some (.iface t p))∧∃t p,w.cell? ⟨Tryz.laysAtoiAll_ren.g 16,0,none⟩=some (.iface t p)
theorem U9 (l:List UInt8) (w:World) (hl:l.length≤1000000) (hE:ErrAt w):Calls Tryz.prog 85 #[.string ⟨l.toArray⟩] w fun e w'=> Below w.heap.size w w'∧((∃n,Lib.atoiAll l= .ok n∧e= .returned (.tuple #[.int .i64 n,.nilIface]))∨((∀n,Lib.atoiAll l≠ .ok n)∧∃m t p,e= .returned (.tuple #[.int .i64 m,.iface t p]))):=by
 have hs:(⟨l.toArray⟩:ByteArray).size=l.length:=by simp [ByteArray.size]
 obtain ⟨⟨t1,p1,g1⟩,t2,p2,g2⟩:=hE
 cases hq:Lib.atoiAll l with
 | ok n=>
  have h:=Any.strconv_Atoi_ok (ρ:=Tryz.laysAtoiAll_ren) Tryz.laysAtoiAll ⟨l.toArray⟩ (by omega) n hq w
  refine Calls.mono (f:=85) h ?_
  rintro e w' ⟨rfl,hw⟩
  refine ⟨?_,.inl ⟨n,rfl,rfl⟩⟩
  rcases hw with rfl | ⟨t,rfl⟩
  ·exact Below.refl _ _
  ·exact Lib.bytesWorld_below _ _ _
 | range=>
  have h:=Any.strconv_Atoi_range (ρ:=Tryz.laysAtoiAll_ren) Tryz.laysAtoiAll ⟨l.toArray⟩ (by omega) hq _ w g2 (.inr ⟨_,_,rfl⟩)
  refine Calls.mono (f:=85) h ?_
  rintro e w' ⟨N,rfl,_,_,hb⟩
  exact ⟨hb,.inr ⟨(fun n hn=> by cases hn),_,_,_,rfl⟩⟩
 | _=>
  have h:=Any.strconv_Atoi_syntax (ρ:=Tryz.laysAtoiAll_ren) Tryz.laysAtoiAll ⟨l.toArray⟩ (by omega) hq _ w g1 (.inr ⟨_,_,rfl⟩)
  refine Calls.mono (f:=85) h ?_
  rintro e w' ⟨N,rfl,_,_,hb⟩
  exact ⟨hb,.inr ⟨(fun n hn=> by cases hn),_,_,_,rfl⟩⟩
set_option maxRecDepth 100000 in
theorem Rk (l:List UInt8) (c:UInt8) (w:World):Calls Tryz.prog 84 #[.string ⟨l.toArray⟩,.int .u8 (c.toNat:Int)] w fun e w'=> e= .returned (.int .i64 (Lib.indexByte l c))∧w'=w:=by
 have hI:=Any.stringslite_IndexByte (ρ:=Tryz.laysIdx_ren) Tryz.laysIdx ⟨l.toArray⟩ (c.toNat:Int) w
 have e:((c.toNat:Int).toNat.toUInt8)=c:=by simp
 rw [e] at hI
 have hI:Calls Tryz.prog 147 #[.string ⟨l.toArray⟩,.int .u8 (c.toNat:Int)] w fun e w'=> e= .returned (.int .i64 (Lib.indexByte l c))∧w'=w:=hI
 go_enter Tryz.func84,Tryz.ntmps84
 go_wp2_with (go_at_call 147;refine hI.mono ?_;rintro r w1 ⟨rfl,rfl⟩)
 go_ret
 exact ⟨rfl,rfl⟩
theorem alD {w:World} (h:Inv w):ErrAt w:=by
 obtain ⟨o,h2,cs2,T2,s2,t2,p2,rfl,e2⟩:=h _ (List.mem_cons_of_mem _ (List.mem_cons_of_mem _ (List.mem_cons_self ..)))
 obtain ⟨o,h3,cs3,T3,s3,t3,p3,rfl,e3⟩:=h _ (List.mem_cons_of_mem _ (List.mem_cons_of_mem _ (List.mem_cons_of_mem _ (List.mem_cons_self ..))))
 refine ⟨⟨t2,p2,?_⟩,t3,p3,?_⟩
 ·show w.cell? ⟨2,0,none⟩=_
  rw [cell_of_row _ _ _ cs2 T2 s2 h2]
  exact e2
 ·show w.cell? ⟨3,0,none⟩=_
  rw [cell_of_row _ _ _ cs3 T3 s3 h3]
  exact e3
theorem alE {w:World} {b:Nat} {l:ByteArray} {y:Bool} (hI:Inv w) (h:w.heap[b]? =some (.cells #[.string l,.bool y] 121 (0,0))):¬Tab b:=by
 rintro ⟨q,hq,rfl⟩
 obtain ⟨o,h1,h2⟩:=hI q hq
 have e:=Option.some.inj (h1.symm.trans h)
 subst e
 simp only [tabs,List.mem_cons,List.not_mem_nil,or_false] at hq
 rcases hq with rfl | rfl | rfl | rfl
 ·obtain ⟨T,s,e⟩:=h2
  injection e with e1 e2
  have:=congrArg Array.size e1
  simp [Lib.pow10Tab] at this
 ·obtain ⟨cs,T,s,m,e,h3⟩:=h2
  injection e with e1 e2
  subst e1
  cases h3
 ·obtain ⟨cs,T,s,t,p,e,h3⟩:=h2
  injection e with e1 e2
  subst e1
  cases h3
 ·obtain ⟨cs,T,s,t,p,e,h3⟩:=h2
  injection e with e1 e2
  subst e1
  cases h3
theorem num_inv:ahq Inv:=fun b l y W e least h hI hl=>
 Q8 (E:=Inv) (fun w w' hw ho=> adL hw ho (alE hI h)) Rk (fun l w hl hw=> U9 l w hl (alD hw)) (fun n w h0 h1 hw=> lg n w h0 h1 hw) h hI hl
end Go.Proofs.YtnegekppaoedgaaGreatDoor
namespace Go.Proofs.YtnegekppaoedgaaGreatDoor
open Go.RowKit
section
variable {P : Program} (w : World)
theorem wp_append_run {o:Oper} {a:Act} {K:Act→World→Prop} {Q:Exit→Act→World→Prop} (s x:Operand) (t u:TypeId)
  (ho:o.op= .call {callee:= .builtin .append,args:= #[s,x],argTypes:= #[t,u]}) (v1 v2 v':Value) (w':World) (hs:a.eval s=v1) (hx:a.eval x=v2)
  (hrun:(Builtin.append_ #[t,u] o.type #[v1,v2]).run P w= .ok v' w') (h:K (a.put o.dst v') w'):o.wp P a w K Q:=by
 unfold Oper.wp execOp
 simp only [ho,resolve,invoke,builtin,Sem.run_bind,Sem.run_pure,Result.andThen_ok,List.map_toArray,List.map_cons,List.map_nil,hs,hx,hrun]
 exact h
end
end Go.Proofs.YtnegekppaoedgaaGreatDoor

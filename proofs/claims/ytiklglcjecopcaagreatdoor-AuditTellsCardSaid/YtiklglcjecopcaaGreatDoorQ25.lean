/-
  Layer 49, plain law: the audit's list of debts is the reference's.
  The head of the law: small() answers true, at every world that holds the table of powers of ten.
-/
import Derived.Test.YtiklglcjecopcaaGreatDoorQ24
import Derived.Test.YtiklglcjecopcaaGreatDoorQ16
namespace Go.Proofs.YtiklglcjecopcaaGreatDoor
open Go.RowKit
theorem eqDebts_eq (a b:List api_Debt) (ha:a.length≤1000000):slices_Equal_api_Debt_api_Debt a b=some (a==b):=by
 unfold slices_Equal_api_Debt_api_Debt
 by_cases hab:a.length=b.length
 ·have h0:((a.length:Int) !=(b.length:Int))=false:=by simp [hab]
  rw [h0,cond_false]
  have k:=loopF_inv (body:=slices_Equal_api_Debt_api_Debt_L1 a b) a.length (fun t s=> s=(t:Int)∧∀i,i < t→a.getD i default=b.getD i default)
   (fun r=> r=some (bif a==b then .inl () else .inr false))
   (by
    rintro t s ht ⟨rfl,hno⟩
    have hw:IntKind.i64.wrap ((t:Int) + 1)=((t + 1:Nat):Int):=by
     rw [wrap64 (by omega) (by omega)]
     rfl
    have hb:slices_Equal_api_Debt_api_Debt_L1 a b (t:Int)=some (bif a.getD t default==b.getD t default then .inl ((t + 1:Nat):Int) else .inr (.inr false)):=by
     unfold slices_Equal_api_Debt_api_Debt_L1
     rw [decide_eq_true (by omega),cond_true,bind_some_of (getI_in default ht),bind_some_of (getI_in default (show t < b.length by omega)),hw]
     show (bif !((a.getD t default)==(b.getD t default)) then _ else _)=_
     cases (a.getD t default)==(b.getD t default) <;> rfl
    rw [hb]
    cases hq:a.getD t default==b.getD t default
    ·right
     refine ⟨_,rfl,?_⟩
     have:(a==b)=false:=by
      cases hab2:a==b
      ·rfl
      ·have:=eq_of_beq hab2
       subst this
       simp at hq
     rw [this]
     rfl
    ·left
     refine ⟨_,rfl,rfl,fun i hi=> ?_⟩
     by_cases hit:i=t
     ·rw [hit];exact eq_of_beq hq
     ·exact hno i (by omega))
   (by
    rintro s ⟨rfl,hno⟩
    refine ⟨.inl (),?_,?_⟩
    ·unfold slices_Equal_api_Debt_api_Debt_L1
     rw [decide_eq_false (by omega)]
     rfl
    ·have:a=b:=by
      apply List.ext_getElem hab
      intro i h1 h2
      have:=hno i h1
      rw [List.getD_eq_getElem?_getD,List.getD_eq_getElem?_getD,List.getElem?_eq_getElem h1,List.getElem?_eq_getElem h2] at this
      exact this
     subst this
     simp)
   (s0:=(0:Int)) ⟨rfl,fun i hi=> by omega⟩
  rw [k]
  cases a==b <;> rfl
 ·have h0:((a.length:Int) !=(b.length:Int))=true:=by simp;omega
  rw [h0,cond_true]
  cases hq:a==b
  ·rfl
  ·exact absurd (congrArg List.length (eq_of_beq hq)) hab
theorem leD_iff (x y:api_Debt):leD x y=true↔x.Event < y.Event∨(x.Event=y.Event∧x.Net≤y.Net):=by
 unfold leD
 simp
theorem debt_ext {x y:api_Debt} (h1:x.Event=y.Event) (h2:x.Net=y.Net):x=y:=by
 cases x;cases y;simp_all
theorem sortD_pw (l:List api_Debt):(l.mergeSort leD).Pairwise fun x y=> leD x y=true:=by
 refine List.pairwise_mergeSort (le:=leD) ?_ ?_ l
 ·intro a b c h1 h2
  rw [leD_iff] at *
  omega
 ·intro a b
  rw [Bool.or_eq_true,leD_iff,leD_iff]
  omega
theorem asc_pw (l:List api_Debt) (h:AscD l):l.Pairwise ltD:=by
 rw [List.pairwise_iff_getElem]
 intro i j hi hj hij
 have:∀n i,i + 1 + n < l.length→ltD (l.getD i default) (l.getD (i + 1 + n) default):=by
  intro n
  induction n with
  | zero=> intro i h1;exact h i h1
  | succ n ih=>
   intro i h1
   have q1:=ih i (by omega)
   have q2:=h (i + 1 + n) (by omega)
   unfold ltD at *
   rw [show i + 1 + (n + 1)=i + 1 + n + 1 by omega]
   omega
 have:=this (j - (i + 1)) i (by omega)
 rw [show i + 1 + (j - (i + 1))=j by omega,List.getD_eq_getElem?_getD,List.getD_eq_getElem?_getD,List.getElem?_eq_getElem hi,List.getElem?_eq_getElem hj] at this
 exact this
theorem DueP_N (inputs:List api_Input) (outs:List (List api_Out)) (hio:inputs.length=outs.length) (d:api_Debt):DueN inputs outs inputs.length d↔DueP inputs outs d.Event d.Net:=by
 unfold DueN DueP
 rw [hio]
theorem aDebts_eq (inputs:List api_Input) (outs:List (List api_Out)) (debts:List api_Debt) (hio:inputs.length=outs.length) (hn:outs.length≤1000000) (hl:∀l∈outs,l.length≤1000000) (hd:debts.length≤1000000)
  (hk:∀ks:List api_Debt,ks.Nodup→(∀x,x∈ks↔DueN inputs outs inputs.length x)→ks.all debtR=true∧ks.length≤1000000):
  ∃b,audit_Debts inputs outs debts=some b∧(b=true↔DebtsP inputs outs debts):=by
 obtain ⟨m,k1,k2,k3⟩:=aDebts_L2_eq inputs outs hio hn hl
 obtain ⟨g1,g2⟩:=hk _ k2 k3
 unfold audit_Debts
 have h0:((inputs.length:Int) !=(outs.length:Int))=false:=by simp [hio]
 rw [h0,cond_false,k1]
 show ∃b,((sortedDF (m.map Prod.fst)).bind fun y=> (slices_Equal_api_Debt_api_Debt debts y).bind fun z=> some z)=some b∧(b=true↔DebtsP inputs outs debts)
 generalize m.map Prod.fst=ks at *
 have hs:sortedDF ks=some (ks.mergeSort leD):=by
  unfold sortedDF
  rw [g1,decide_eq_true g2]
  rfl
 rw [hs,Option.bind_some,eqDebts_eq _ _ hd]
 refine ⟨_,rfl,?_⟩
 have hp:(ks.mergeSort leD).Perm ks:=List.mergeSort_perm _ _
 have hmem:∀x,x∈ks.mergeSort leD↔DueP inputs outs x.Event x.Net:=fun x=> by rw [hp.mem_iff,k3 x,DueP_N inputs outs hio]
 have hnd:(ks.mergeSort leD).Nodup:=hp.nodup_iff.2 k2
 have hpw:=sortD_pw ks
 generalize ks.mergeSort leD=l at *
 constructor
 ·intro h
  have h:=eq_of_beq h
  subst h
  refine ⟨fun d hdm=> (hmem d).1 hdm,fun k hkl=> ?_,fun ev net h=> ⟨⟨ev,net⟩,(hmem ⟨ev,net⟩).2 h,rfl,rfl⟩⟩
  have h1:=List.pairwise_iff_getElem.1 hpw k (k + 1) (by omega) hkl (by omega)
  have h2:=List.pairwise_iff_getElem.1 hnd k (k + 1) (by omega) hkl (by omega)
  rw [List.getD_eq_getElem?_getD,List.getD_eq_getElem?_getD,List.getElem?_eq_getElem (show k < debts.length by omega),List.getElem?_eq_getElem hkl]
  simp only [Option.getD_some]
  rw [leD_iff] at h1
  unfold ltD
  rcases h1 with h1 | ⟨h1,h3⟩
  ·exact Or.inl h1
  ·refine Or.inr ⟨h1,?_⟩
   have:debts[k].Net≠debts[k + 1].Net:=fun e=> h2 (debt_ext h1 e)
   omega
 ·rintro ⟨h1,h2,h3⟩
  have hpd:=asc_pw debts h2
  have hdn:debts.Nodup:=hpd.imp fun {a b} h e=> by
   subst e
   unfold ltD at h
   omega
  have:debts=l:=by
   refine List.Perm.eq_of_pairwise (le:=fun x y=> leD x y=true) (fun a b _ _ h5 h6=> ?_) (hpd.imp fun {a b} h=> ?_) hpw ((List.perm_ext_iff_of_nodup hdn hnd).2 fun x=> ?_)
   ·rw [leD_iff] at h5 h6
    exact debt_ext (by omega) (by omega)
   ·rw [leD_iff]
    unfold ltD at h
    omega
   ·rw [hmem x]
    constructor
    ·exact h1 x
    ·intro h
     obtain ⟨d,h5,h6,h7⟩:=h3 _ _ h
     rw [←debt_ext h6 h7]
     exact h5
  rw [this]
  simp
end Go.Proofs.YtiklglcjecopcaaGreatDoor
namespace Go.Proofs.YtiklglcjecopcaaGreatDoor
open Go.RowKit Go.Maps Go.Shelf
def okD (outs:List (List api_Out)):Bool:=outs.all fun l=> l.all fun o=> debtR ⟨o.Event,o.Net⟩
theorem hk_of {inputs:List api_Input} {outs:List (List api_Out)} (hok:okD outs=true) (hn:outs.length≤20) (hl:∀l∈outs,l.length≤12) (ks:List api_Debt) (hd:ks.Nodup) (hm:∀x,x∈ks↔DueN inputs outs inputs.length x):ks.all debtR=true∧ks.length≤1000000:=by
 have hsub:∀x∈ks,x∈outs.flatten.map (fun o=> (⟨o.Event,o.Net⟩:api_Debt)):=fun x hx=> by
  obtain ⟨i,hi,he,_⟩:=(hm x).1 hx
  unfold hasE at he
  obtain ⟨o,ho,hoe⟩:=List.any_eq_true.1 he
  unfold isE at hoe
  simp only [Bool.and_eq_true,beq_iff_eq] at hoe
  have hol:outs.getD i []∈outs:=by
   rw [List.getD_eq_getElem?_getD] at ho ⊢
   cases hq:outs[i]? with
   | none=> rw [hq] at ho;cases ho
   | some l=> exact List.mem_of_getElem? hq
  refine List.mem_map.2 ⟨o,List.mem_flatten.2 ⟨_,hol,ho⟩,?_⟩
  cases x
  simp only at hoe
  rw [hoe.2.1,hoe.2.2]
 refine ⟨List.all_eq_true.2 fun x hx=> ?_,?_⟩
 ·obtain ⟨o,ho,rfl⟩:=List.mem_map.1 (hsub x hx)
  obtain ⟨l,hlm,hol⟩:=List.mem_flatten.1 ho
  exact List.all_eq_true.1 (List.all_eq_true.1 hok l hlm) o hol
 ·have hs2:ks ⊆ outs.flatten.map (fun o=> (⟨o.Event,o.Net⟩:api_Debt)):=fun x hx=> hsub x hx
  have h1:=hd.length_le_of_subset hs2
  have h2:=flat_le outs hl outs.length
  rw [List.take_length] at h2
  rw [List.length_map] at h1
  omega
def xIt2 (net ev part:Int):api_Out:=⟨0,net,ev,⟨ev,part,0,0,0,0,0,0,0,.empty,[]⟩⟩
def xEr:api_Out:=⟨2,1,2,⟨0,0,0,0,0,0,0,0,0,.empty,[]⟩⟩
def xTick:api_Input:=⟨9,0,0,0,0,⟨0,0,0,0,0,0,0,0,.empty,[]⟩,⟨0,0,0,0,false⟩,⟨0,0,0⟩,⟨0,0,false⟩,⟨0,0,0,0⟩,⟨0,0,0,0⟩,[]⟩
def xEv (cs:List Int):api_Event:=⟨0,0,cs,0,0,0,0,0,0,.empty,[],0⟩
theorem once0:audit_Once []=some true:=by
 rw [aOnce_eq [] (by decide) (by simp) (by decide)]
 rfl
theorem once1:audit_Once [[xIt2 1 3 0],[xIt2 1 3 0]]=some false:=by
 rw [aOnce_eq _ (by decide) (by intro l hl;simp at hl;subst hl;decide) (by decide)]
 rfl
theorem causal0:audit_Causal [] []=some true:=by
 obtain ⟨b,h1,h2⟩:=aCausal_eq [] [] (by decide)
 cases b
 ·obtain ⟨i,k,_,hk,_⟩:=h2.1 rfl
  exact absurd hk (Nat.not_lt_zero k)
 ·exact h1
theorem causal1:audit_Causal [xEv [],xEv [0]] [[xIt2 1 1 0,xIt2 1 0 0]]=some false:=by
 obtain ⟨b,h1,h2⟩:=aCausal_eq [xEv [],xEv [0]] [[xIt2 1 1 0,xIt2 1 0 0]] (by decide)
 have hl:∃i k,Late [xEv [],xEv [0]] (itemsL [[xIt2 1 1 0,xIt2 1 0 0]]) i k:=⟨0,1,by decide,by decide,rfl,by decide,by decide,by decide,⟨by decide,by decide,.step (.self 1) (by decide) (by decide)⟩,by decide⟩
 rw [h2.2 hl] at h1
 exact h1
theorem due1 (ev net:Int):DueP [xTick] [[xEr]] ev net↔ev=2∧net=1:=by
 constructor
 ·rintro ⟨i,hi,he,_⟩
  have:i=0:=by simp at hi;omega
  subst this
  have he:([xEr].any (isE ev net))=true:=he
  simp [isE,xEr] at he
  exact ⟨he.1.symm,he.2.symm⟩
 ·rintro ⟨rfl,rfl⟩
  exact ⟨0,by decide,by decide,fun j h1 h2=> by simp at h2;omega⟩
theorem debts0:audit_Debts [] [] []=some true:=by
 obtain ⟨b,h1,h2⟩:=aDebts_eq [] [] [] rfl (by decide) (by simp) (by decide) (hk_of (by decide) (by decide) (by simp))
 have:DebtsP [] [] []:=⟨by simp,fun k hk=> absurd hk (by simp),fun ev net ⟨i,hi,_⟩=> absurd hi (Nat.not_lt_zero i)⟩
 rw [h2.2 this] at h1
 exact h1
theorem debts1:audit_Debts [xTick] [[xEr]] []=some false:=by
 obtain ⟨b,h1,h2⟩:=aDebts_eq [xTick] [[xEr]] [] rfl (by decide) (by intro l hl;simp at hl;subst hl;decide) (by decide) (hk_of (by decide) (by decide) (by intro l hl;simp at hl;subst hl;decide))
 cases b
 ·exact h1
 ·obtain ⟨d,hd,_⟩:=(h2.1 rfl).2.2 2 1 ((due1 2 1).2 ⟨rfl,rfl⟩)
  cases hd
theorem debts2:audit_Debts [xTick] [[xEr]] [⟨2,1⟩]=some true:=by
 obtain ⟨b,h1,h2⟩:=aDebts_eq [xTick] [[xEr]] [⟨2,1⟩] rfl (by decide) (by intro l hl;simp at hl;subst hl;decide) (by decide) (hk_of (by decide) (by decide) (by intro l hl;simp at hl;subst hl;decide))
 have:DebtsP [xTick] [[xEr]] [⟨2,1⟩]:=⟨fun d hd=> by simp at hd;subst hd;exact (due1 2 1).2 ⟨rfl,rfl⟩,fun k hk=> absurd hk (by simp),fun ev net h=> by
  obtain ⟨rfl,rfl⟩:=(due1 ev net).1 h
  exact ⟨⟨2,1⟩,by simp,rfl,rfl⟩⟩
 rw [h2.2 this] at h1
 exact h1
def xTbl:List (FuncId×List D×Bool):= [
 (8,[.fz (List.map (encL api_Out.enc) [])],true),
 (10,[.fz (List.map api_Event.enc []),.fz (List.map (encL api_Out.enc) [])],true),
 (12,[.fz (List.map api_Input.enc []),.fz (List.map (encL api_Out.enc) []),.fz (List.map api_Debt.enc [])],true),
 (8,[.fz (List.map (encL api_Out.enc) [[xIt2 1 3 0],[xIt2 1 3 0]])],false),
 (12,[.fz (List.map api_Input.enc [xTick]),.fz (List.map (encL api_Out.enc) [[xEr]]),.fz (List.map api_Debt.enc [])],false),
 (12,[.fz (List.map api_Input.enc [xTick]),.fz (List.map (encL api_Out.enc) [[xEr]]),.fz (List.map api_Debt.enc [⟨2,1⟩])],true),
 (10,[.fz (List.map api_Event.enc [xEv [],xEv [0]]),.fz (List.map (encL api_Out.enc) [[xIt2 1 1 0,xIt2 1 0 0]])],false)]
theorem xTbl_ok:∀p∈xTbl,Fn False Tryz.prog p.1 (p.2.1.map AV.d) (.d (.v (.bool p.2.2))):=by
 intro p hp
 simp only [xTbl,List.mem_cons,List.not_mem_nil,or_false] at hp
 rcases hp with rfl | rfl | rfl | rfl | rfl | rfl | rfl
 ·exact audit_Once_fn once0
 ·exact audit_Causal_fn causal0
 ·exact audit_Debts_fn debts0
 ·exact audit_Once_fn once1
 ·exact audit_Debts_fn debts1
 ·exact audit_Debts_fn debts2
 ·exact audit_Causal_fn causal1
end Go.Proofs.YtiklglcjecopcaaGreatDoor

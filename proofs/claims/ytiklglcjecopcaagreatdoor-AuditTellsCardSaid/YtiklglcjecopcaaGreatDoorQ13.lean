/-
  Evaluation of Go code on plain data: steps that may change places. Over any program.
  Evaluation of Go code on plain data: which operations may change places. Over any program.
  Evaluation of Go code on plain data: operations that may change places. Over any program.
  Evaluation of Go code on plain data: the operations of a region, one after the other, in another order. Over any program.
-/
import Derived.Test.YtiklglcjecopcaaGreatDoorQ12
namespace Go.Proofs.YtiklglcjecopcaaGreatDoor
open Go.RowKit
def refs1:AV→List (Nat×Nat)
 | .lp s g _=> [(s,g)]
 | .rp s g _ _=> [(s,g)]
 | .row s g _=> [(s,g)]
 | .sub s g _ _=> [(s,g)]
 | .mp s g=> [(s,g)]
 | _=> []
def Step.Fits (R:Nat→Nat→Prop) (Z:Nat→Prop):Step→Prop
 | .ret _=> True
 | .rdb s g k=> R s g∧∀c:List AV,(∀p∈c.flatMap refs1,R p.1 p.2)→(k c).Fits R Z
 | .rdr s g k=> R s g∧∀c,(k c).Fits R Z
 | .rdm s g k=> R s g∧∀c e,(k c e).Fits R Z
 | .rww _ _ _=> False
 | .rdz s g _ k=> R s g∧k.Fits R Z
 | .wr _ _ _ _=> False
 | .new s _ k=> Z s∧∀g,(k g).Fits R Z
 | .app _ _ _ _ _=> False
 | .frz s g k=> R s g∧k.Fits R Z
 | .elem _ _ k=> ∀c,(k c).Fits R Z
 | .call _ _ k=> ∀r,(k r).Fits R Z
 | .chk _ k=> k.Fits R Z
 | .br _ x y=> x.Fits R Z∧y.Fits R Z
 | .fail=> True
inductive Eff where
 | add (s:Nat) (i:Inst)
 | frz (s g:Nat)
def frzI:Option Inst→Option Inst
 | some (.rows sz es _)=> some (.rows sz es true)
 | i=> i
def Eff.ap:Eff→Mem→Mem
 | .add s i,m=> m.add s i
 | .frz s g,m=> {m with at_:=fun x y=> if x=s∧y=g then frzI (m.at_ x y) else m.at_ x y}
def apL:List Eff→Mem→Mem
 | [],m=> m
 | e::es,m=> apL es (e.ap m)
def Eff.In (G:Nat→Nat) (Z:Nat→Prop):Eff→Prop
 | .add s _=> Z s
 | .frz s g=> g≤G s∨Z s
theorem mem_ext {m m':Mem} (h:∀x y,m.at_ x y=m'.at_ x y) (hg:∀x,m.gen x=m'.gen x):m=m':=by
 cases m;cases m'
 simp only [Mem.mk.injEq]
 exact ⟨funext fun x=> funext fun y=> h x y,funext hg⟩
theorem frz_set {m:Mem} {s g sz:Nat} {es:List (List D)} {ro:Bool} (h:m.at_ s g=some (.rows sz es ro)):m.set s g (some (.rows sz es true))=(Eff.frz s g).ap m:=by
 refine mem_ext (fun x y=> ?_) (fun x=> rfl)
 rw [setAt]
 show _=if x=s∧y=g then frzI (m.at_ x y) else m.at_ x y
 split
 ·rename_i hxy
  rw [hxy.1,hxy.2,h]
  rfl
 ·rfl
theorem ap_at (e:Eff) (m:Mem) (x y:Nat) (hy:y≤m.gen x):(e.ap m).at_ x y=m.at_ x y∨(e.ap m).at_ x y=frzI (m.at_ x y):=by
 cases e with
 | add s i=>
  left
  show (m.add s i).at_ x y=_
  rw [addAt,if_neg]
  rintro ⟨rfl,rfl⟩
  omega
 | frz s g=>
  show (if x=s∧y=g then frzI (m.at_ x y) else m.at_ x y)=_∨_=frzI (m.at_ x y)
  split
  ·right;show (if x=s∧y=g then frzI (m.at_ x y) else m.at_ x y)=_;rw [if_pos (by assumption)]
  ·left;rfl
theorem ap_gen (e:Eff) (m:Mem) (x:Nat):m.gen x≤(e.ap m).gen x:=by
 cases e with
 | add s i=>
  show m.gen x≤(m.add s i).gen x
  rw [addGen]
  split
  ·rename_i h;subst h;omega
  ·exact Nat.le_refl _
 | frz s g=> exact Nat.le_refl _
theorem frzI_idem (i:Option Inst):frzI (frzI i)=frzI i:=by
 cases i with
 | none=> rfl
 | some i=> cases i <;> rfl
theorem apL_gen:∀(es:List Eff) (m:Mem) (x:Nat),m.gen x≤(apL es m).gen x
 | [],_,_=> Nat.le_refl _
 | e::es,m,x=> Nat.le_trans (ap_gen e m x) (apL_gen es (e.ap m) x)
theorem apL_at:∀(es:List Eff) (m:Mem) (x y:Nat),y≤m.gen x→frzI ((apL es m).at_ x y)=frzI (m.at_ x y)
 | [],_,_,_,_=> rfl
 | e::es,m,x,y,h=> by
  rw [apL,apL_at es (e.ap m) x y (Nat.le_trans h (ap_gen e m x))]
  rcases ap_at e m x y h with h1 | h1
  ·rw [h1]
  ·rw [h1,frzI_idem]
theorem apL_gen_out {G:Nat→Nat} {Z:Nat→Prop}:∀(es:List Eff),(∀e∈es,e.In G Z)→∀(m:Mem) (x:Nat),¬Z x→(apL es m).gen x=m.gen x
 | [],_,_,_,_=> rfl
 | e::es,h,m,x,hx=> by
  rw [apL,apL_gen_out es (fun e' he'=> h e' (by simp [he'])) (e.ap m) x hx]
  have he:=h e (by simp)
  cases e with
  | add s i=>
   show (m.add s i).gen x=_
   rw [addGen,if_neg]
   rintro rfl
   exact hx he
  | frz s g=> rfl
theorem ap_comm {e f:Eff} {m:Mem} (h:∀s i t j,e= .add s i→f= .add t j→s≠t) (h1:∀s g t j,e= .frz s g→f= .add t j→¬(s=t∧g=m.gen t + 1)) (h2:∀s g t j,f= .frz s g→e= .add t j→¬(s=t∧g=m.gen t + 1)):e.ap (f.ap m)=f.ap (e.ap m):=by
 have frzadd:∀(s g t:Nat) (j:Inst),¬(s=t∧g=m.gen t + 1)→(Eff.frz s g).ap ((Eff.add t j).ap m)=(Eff.add t j).ap ((Eff.frz s g).ap m):=by
  intro s g t j hne
  refine mem_ext (fun x y=> ?_) (fun x=> rfl)
  show (if x=s∧y=g then frzI ((m.add t j).at_ x y) else (m.add t j).at_ x y)=(((Eff.frz s g).ap m).add t j).at_ x y
  rw [addAt,addAt]
  show _=(if x=t∧y=m.gen t + 1 then some j else if x=s∧y=g then frzI (m.at_ x y) else m.at_ x y)
  by_cases hx:x=s∧y=g
  ·obtain ⟨rfl,rfl⟩:=hx
   rw [if_pos ⟨rfl,rfl⟩,if_neg hne,if_neg hne,if_pos ⟨rfl,rfl⟩]
  ·rw [if_neg hx]
   split
   ·rfl
   ·rfl
 cases e with
 | add s i=>
  cases f with
  | add t j=>
   have hne:=h s i t j rfl rfl
   have g1:(m.add t j).gen s=m.gen s:=by rw [addGen,if_neg hne]
   have g2:(m.add s i).gen t=m.gen t:=by rw [addGen,if_neg (Ne.symm hne)]
   refine mem_ext (fun x y=> ?_) (fun x=> ?_)
   ·show ((m.add t j).add s i).at_ x y=((m.add s i).add t j).at_ x y
    rw [addAt,addAt,addAt,addAt,g1,g2]
    by_cases hx:x=s
    ·subst hx
     simp [hne]
    ·simp [hx]
   ·show ((m.add t j).add s i).gen x=((m.add s i).add t j).gen x
    rw [addGen (m:=m.add t j),addGen (m:=m.add s i),g1,g2,addGen,addGen]
    by_cases hx:x=s
    ·subst hx
     simp [hne]
    ·simp [hx]
  | frz t g=> exact (frzadd t g s i (h2 t g s i rfl rfl)).symm
 | frz s g=>
  cases f with
  | add t j=> exact frzadd s g t j (h1 s g t j rfl rfl)
  | frz t q=>
   refine mem_ext (fun x y=> ?_) (fun x=> rfl)
   show (if x=s∧y=g then frzI (if x=t∧y=q then frzI (m.at_ x y) else m.at_ x y) else if x=t∧y=q then frzI (m.at_ x y) else m.at_ x y)=(if x=t∧y=q then frzI (if x=s∧y=g then frzI (m.at_ x y) else m.at_ x y) else if x=s∧y=g then frzI (m.at_ x y) else m.at_ x y)
   by_cases h1:x=s∧y=g
   ·by_cases h2:x=t∧y=q
    ·rw [if_pos h1,if_pos h2,if_pos h2,if_pos h1]
    ·rw [if_pos h1,if_neg h2,if_neg h2,if_pos h1]
   ·by_cases h2:x=t∧y=q
    ·rw [if_neg h1,if_pos h2,if_pos h2,if_neg h1]
    ·rw [if_neg h1,if_neg h2,if_neg h2,if_neg h1]
theorem in_comm {G:Nat→Nat} {Z Z':Nat→Prop} (hd:∀s,Z s→Z' s→False) {e f:Eff} {m:Mem} (hg:∀s,G s≤m.gen s) (he:e.In G Z) (hf:f.In G Z'):e.ap (f.ap m)=f.ap (e.ap m):=by
 refine ap_comm ?_ ?_ ?_
 ·rintro s i t j rfl rfl rfl
  exact hd s he hf
 ·rintro s g t j rfl rfl ⟨rfl,rfl⟩
  rcases he with he | he
  ·have:=hg s;omega
  ·exact hd s he hf
 ·rintro s g t j rfl rfl ⟨rfl,rfl⟩
  rcases hf with hf | hf
  ·have:=hg s;omega
  ·exact hd s he hf
theorem ap_apL_comm {G:Nat→Nat} {Z Z':Nat→Prop} (hd:∀s,Z s→Z' s→False) (e:Eff) (he:e.In G Z):∀(es:List Eff) (m:Mem),(∀f∈es,f.In G Z')→(∀s,G s≤m.gen s)→apL es (e.ap m)=e.ap (apL es m)
 | [],_,_,_=> rfl
 | f::es,m,h,hg=> by
  rw [apL,apL,←in_comm hd hg he (h f (by simp))]
  exact ap_apL_comm hd e he es (f.ap m) (fun f' hf'=> h f' (by simp [hf'])) (fun s=> Nat.le_trans (hg s) (ap_gen f m s))
theorem apL_comm {G:Nat→Nat} {Z Z':Nat→Prop} (hd:∀s,Z s→Z' s→False):∀(a b:List Eff) (m:Mem),(∀f∈a,f.In G Z)→(∀f∈b,f.In G Z')→(∀s,G s≤m.gen s)→apL b (apL a m)=apL a (apL b m)
 | [],b,m,_,_,_=> rfl
 | e::a,b,m,ha,hb,hg=> by
  rw [apL,apL,apL_comm hd a b (e.ap m) (fun f hf=> ha f (by simp [hf])) hb (fun s=> Nat.le_trans (hg s) (ap_gen e m s)),ap_apL_comm hd e (ha e (by simp)) b m hb hg]
def MemWF (m:Mem):Prop:=∀s g i,m.at_ s g=some i→g≤m.gen s
theorem MemWF.add {m:Mem} (h:MemWF m) (s:Nat) (i:Inst):MemWF (m.add s i):=by
 intro x y j hj
 rw [addAt] at hj
 rw [addGen]
 split at hj
 ·rename_i hxy
  rw [if_pos hxy.1,hxy.2]
  exact Nat.le_refl _
 ·have:=h x y j hj
  split
  ·rename_i hx;subst hx;omega
  ·exact this
theorem MemWF.set {m:Mem} (h:MemWF m) {s g:Nat} {i:Inst} (hi:m.at_ s g=some i) (j:Option Inst):MemWF (m.set s g j):=by
 intro x y k hk
 rw [setAt] at hk
 split at hk
 ·rename_i hxy
  rw [hxy.1,hxy.2]
  exact h s g i hi
 ·exact h x y k hk
theorem frzI_box {i:Option Inst} {cs:List AV} (h:frzI i=frzI (some (.box cs))):i=some (.box cs):=by
 cases i with
 | none=> cases h
 | some i=> cases i with
  | rows=> cases h
  | _=> exact h
theorem frzI_map {i:Option Inst} {ck:CK} {es:List (Value×D)} (h:frzI i=frzI (some (.mapi ck es))):i=some (.mapi ck es):=by
 cases i with
 | none=> cases h
 | some i=>
  cases i with
  | rows sz es ro=> cases h
  | _=> exact h
theorem frzI_rows {i:Option Inst} {sz:Nat} {es:List (List D)} {ro:Bool} (h:frzI i=frzI (some (.rows sz es ro))):∃ro',i=some (.rows sz es ro'):=by
 cases i with
 | none=> cases h
 | some i=> cases i with
  | box=> cases h
  | mapi=> cases h
  | rows sz' es' ro'=>
   simp only [frzI,Option.some.injEq,Inst.rows.injEq,and_true] at h
   obtain ⟨rfl,rfl⟩:=h
   exact ⟨ro',rfl⟩
def RCl (R:Nat→Nat→Prop) (m:Mem):Prop:=(∀s g,R s g)∨((∀s g,R s g→g≤m.gen s)∧∀s g cs,R s g→m.at_ s g=some (.box cs)→∀p∈cs.flatMap refs1,R p.1 p.2)
theorem RCl.box {R:Nat→Nat→Prop} {m:Mem} (h:RCl R m) {s g:Nat} {cs:List AV} (hr:R s g) (hi:m.at_ s g=some (.box cs)):∀p∈cs.flatMap refs1,R p.1 p.2:=fun p hp=> h.elim (fun h=> h _ _) fun h=> h.2 s g cs hr hi p hp
theorem RCl.add {R:Nat→Nat→Prop} {m:Mem} (h:RCl R m) (s:Nat) (i:Inst):RCl R (m.add s i):=h.imp id fun ⟨h1,h2⟩=> ⟨fun x y hr=> Nat.le_trans (h1 x y hr) (by rw [addGen];split <;> rename_i hx <;> first | (subst hx;omega) | exact Nat.le_refl _),fun x y cs hr hi=> h2 x y cs hr (by
 rw [addAt,if_neg] at hi
 ·exact hi
 ·rintro ⟨rfl,rfl⟩
  have:=h1 _ _ hr
  omega)⟩
theorem RCl.set {R:Nat→Nat→Prop} {m:Mem} (h:RCl R m) (s g sz:Nat) (es:List (List D)) (ro:Bool):RCl R (m.set s g (some (.rows sz es ro))):=h.imp id fun ⟨h1,h2⟩=> ⟨h1,fun x y cs hr hi=> h2 x y cs hr (by
 rw [setAt] at hi
 split at hi
 ·cases hi
 ·exact hi)⟩
theorem Step.Fits.runs {F:FuncId→List AV→AV→Prop} {R:Nat→Nat→Prop} {Z:Nat→Prop} {x:Step} {m m':Mem} {v:AV} (hr:x.Runs F m v m'):x.Fits R Z→RCl R m→MemWF m→
  ∃es,m'=apL es m∧((∀e∈es,e.In m.gen Z)∧∀s g,Eff.frz s g∈es→R s g∧(Z s∨∃i,m.at_ s g=some i))∧MemWF m'∧∀q:Mem,(∀s,Z s→q.gen s=m.gen s)→(∀s g,R s g→(∃i,m.at_ s g=some i)→frzI (q.at_ s g)=frzI (m.at_ s g))→x.Runs F q v (apL es q):=by
 induction hr with
 | ret=> exact fun _ _ hw=> ⟨[],rfl,⟨by simp,by simp⟩,hw,fun q _ _=> .ret⟩
 | rdb h r ih=>
  intro hf hc hw
  obtain ⟨es,h1,h2,h3,h4⟩:=ih (hf.2 _ (hc.box hf.1 h)) hc hw
  refine ⟨es,h1,h2,h3,fun q hz hq=> ?_⟩
  have:=hq _ _ hf.1 ⟨_,h⟩
  rw [h] at this
  exact .rdb (frzI_box this) (h4 q hz hq)
 | rdr h r ih=>
  intro hf hc hw
  obtain ⟨es,h1,h2,h3,h4⟩:=ih (hf.2 _) hc hw
  refine ⟨es,h1,h2,h3,fun q hz hq=> ?_⟩
  have:=hq _ _ hf.1 ⟨_,h⟩
  rw [h] at this
  obtain ⟨ro',h5⟩:=frzI_rows this
  exact .rdr h5 (h4 q hz hq)
 | rdm h r ih=>
  intro hf hc hw
  obtain ⟨es,h1,h2,h3,h4⟩:=ih (hf.2 _ _) hc hw
  refine ⟨es,h1,h2,h3,fun q hz hq=> ?_⟩
  have:=hq _ _ hf.1 ⟨_,h⟩
  rw [h] at this
  exact .rdm (frzI_map this) (h4 q hz hq)
 | rww=> exact fun hf=> hf.elim
 | rdz h r ih=>
  intro hf hc hw
  obtain ⟨es,h1,h2,h3,h4⟩:=ih hf.2 hc hw
  refine ⟨es,h1,h2,h3,fun q hz hq=> ?_⟩
  have:=hq _ _ hf.1 ⟨_,h⟩
  rw [h] at this
  obtain ⟨ro',h5⟩:=frzI_rows this
  exact .rdz h5 (h4 q hz hq)
 | wr=> exact fun hf=> hf.elim
 | @new s i k m m' v r ih=>
  intro hf hc hw
  obtain ⟨es,h1,h2,h3,h4⟩:=ih (hf.2 _) (hc.add s i) (hw.add s i)
  refine ⟨.add s i::es,h1,⟨fun e he=> ?_,fun s' g' he=> ?_⟩,h3,fun q hz hq=> ?_⟩
  ·rcases List.mem_cons.1 he with rfl | he
   ·exact hf.1
   ·have:=h2.1 e he
    cases e with
    | add=> exact this
    | frz s' g'=>
     rcases this with this | this
     ·rw [addGen] at this
      split at this
      ·rename_i hs;subst hs;exact Or.inr hf.1
      ·exact Or.inl this
     ·exact Or.inr this
  ·obtain ⟨k1,k2⟩:=h2.2 s' g' (by simpa using he)
   refine ⟨k1,?_⟩
   rcases k2 with k2 | ⟨i',k2⟩
   ·exact Or.inl k2
   ·rw [addAt] at k2
    split at k2
    ·rename_i hx
     exact Or.inl (hx.1 ▸ hf.1)
    ·exact Or.inr ⟨i',k2⟩
  ·refine .new ?_
   rw [hz s hf.1]
   refine h4 (q.add s i) (fun s' hs'=> ?_) (fun s' g' hr' hi'=> ?_)
   ·rw [addGen,addGen,hz s hf.1,hz s' hs']
   ·rw [addAt,addAt,hz s hf.1]
    split
    ·rfl
    ·refine hq s' g' hr' ?_
     obtain ⟨i',hi'⟩:=hi'
     rw [addAt,if_neg (by assumption)] at hi'
     exact ⟨i',hi'⟩
 | app=> exact fun hf=> hf.elim
 | @frz s g sz es0 ro k m m' v h r ih=>
  intro hf hc hw
  obtain ⟨es,h1,h2,h3,h4⟩:=ih hf.2 (hc.set _ _ _ _ _) (hw.set h _)
  refine ⟨.frz s g::es,by rw [h1,frz_set h];rfl,⟨fun e he=> ?_,fun s' g' he=> ?_⟩,h3,fun q hz hq=> ?_⟩
  ·rcases List.mem_cons.1 he with rfl | he
   ·exact Or.inl (hw s g _ h)
   ·exact h2.1 e he
  ·rcases List.mem_cons.1 he with he | he
   ·injection he with q1 q2
    subst q1 q2
    exact ⟨hf.1,Or.inr ⟨_,h⟩⟩
   ·obtain ⟨k1,k2⟩:=h2.2 s' g' he
    refine ⟨k1,?_⟩
    rcases k2 with k2 | ⟨i',k2⟩
    ·exact Or.inl k2
    ·rw [setAt] at k2
     split at k2
     ·rename_i hx
      obtain ⟨rfl,rfl⟩:=hx
      exact Or.inr ⟨_,h⟩
     ·exact Or.inr ⟨i',k2⟩
  ·have:=hq _ _ hf.1 ⟨_,h⟩
   rw [h] at this
   obtain ⟨ro',h5⟩:=frzI_rows this
   refine .frz h5 ?_
   have:=h4 (q.set s g (some (.rows sz es0 true))) hz (fun s' g' hr' hi'=> ?_)
   ·rw [frz_set h5] at this ⊢
    exact this
   ·rw [setAt,setAt]
    split
    ·rfl
    ·refine hq s' g' hr' ?_
     obtain ⟨i',hi'⟩:=hi'
     rw [setAt,if_neg (by assumption)] at hi'
     exact ⟨i',hi'⟩
 | elem h r ih=>
  intro hf hc hw
  obtain ⟨es,h1,h2,h3,h4⟩:=ih (hf _) hc hw
  exact ⟨es,h1,h2,h3,fun q hz hq=> .elem h (h4 q hz hq)⟩
 | call h r ih=>
  intro hf hc hw
  obtain ⟨es,h1,h2,h3,h4⟩:=ih (hf _) hc hw
  exact ⟨es,h1,h2,h3,fun q hz hq=> .call h (h4 q hz hq)⟩
 | chk h r ih=>
  intro hf hc hw
  obtain ⟨es,h1,h2,h3,h4⟩:=ih hf hc hw
  exact ⟨es,h1,h2,h3,fun q hz hq=> .chk h (h4 q hz hq)⟩
 | @br b x y m m' v r ih=>
  intro hf hc hw
  obtain ⟨es,h1,h2,h3,h4⟩:=ih (by cases b;exact hf.2;exact hf.1) hc hw
  exact ⟨es,h1,h2,h3,fun q hz hq=> .br (h4 q hz hq)⟩
theorem fits_swap {F:FuncId→List AV→AV→Prop} {G:Nat→Nat} {Z Z':Nat→Prop} {x y:Step} (hx:x.Fits (fun _ _=> True) Z) (hy:y.Fits (fun s g=> g≤G s) Z') (hd:∀s,Z s→Z' s→False) {m m1 m2:Mem} {v u:AV} (hw:MemWF m) (hG:∀s,G s≤m.gen s) (hbox:∀s g cs,g≤G s→m.at_ s g=some (.box cs)→∀p∈cs.flatMap refs1,p.2≤G p.1) (h1:x.Runs F m v m1) (h2:y.Runs F m1 u m2):
  ∃m1',y.Runs F m u m1'∧x.Runs F m1' v m2:=by
 have hold:∀s g,g≤G s→g≤m.gen s:=fun s g h=> Nat.le_trans h (hG s)
 obtain ⟨ex,e1,⟨e2,_⟩,e3,e4⟩:=Step.Fits.runs h1 hx (Or.inl fun _ _=> trivial) hw
 subst e1
 obtain ⟨ey,f1,⟨f2,f2'⟩,f3,f4⟩:=Step.Fits.runs h2 hy (Or.inr ⟨fun s g h=> Nat.le_trans (hold s g h) (apL_gen ex m s),fun s g cs hr hi=> hbox s g cs hr (frzI_box (by rw [←apL_at ex m s g (hold s g hr),hi]))⟩) e3
 have hgy:∀s,Z' s→m.gen s=(apL ex m).gen s:=fun s hs=> (apL_gen_out ex e2 m s fun hz=> hd s hz hs).symm
 have r1:=f4 m hgy (fun s g hr hi=> (apL_at ex m s g (hold s g hr)).symm)
 refine ⟨apL ey m,r1,?_⟩
 have fy:∀f∈ey,f.In m.gen Z':=by
  intro f hf
  have:=f2 f hf
  cases f with
  | add=> exact this
  | frz s g=> exact Or.inl (hold s g (f2' s g hf).1)
 have r2:=e4 (apL ey m) (fun s hs=> apL_gen_out ey fy m s fun hz=> hd s hs hz) (fun s g hr hi=> by
  obtain ⟨i,hi⟩:=hi
  exact apL_at ey m s g (hw s g i hi))
 rw [apL_comm hd ex ey m e2 fy (fun s=> Nat.le_refl _)] at f1
 rw [f1]
 exact r2
def refsOf:AV→List (Nat×Nat)
 | .agg cs=> cs.flatMap refs1
 | .tup cs=> cs.flatMap refs1
 | .fn _ cs=> cs.flatMap refs1
 | v=> refs1 v
theorem refs1_rel {κ:Cx} {v:AV} {x:Value} (h:Rel κ v x):∀p∈refs1 v,p.2≤κ.gn p.1:=by
 cases h with
 | lp hg hb=> simpa [refs1] using hg
 | rp hg hb=> simpa [refs1] using hg
 | row0 A hg=> simpa [refs1] using hg
 | row hg=> simpa [refs1] using hg
 | sub0 A hg=> simpa [refs1] using hg
 | sub A hg=> simpa [refs1] using hg
 | mp hg=> simpa [refs1] using hg
 | _=> simp [refs1]
theorem refsOf_rel {κ:Cx} {v:AV} {x:Value} (h:Rel κ v x):∀p∈refsOf v,p.2≤κ.gn p.1:=by
 have many:∀{cs:List AV} {vs:Array Value},vs.size=cs.length→(∀(j:Nat) (c:AV) (v:Value),cs[j]? =some c→vs[j]? =some v→Rel κ c v)→∀p∈cs.flatMap refs1,p.2≤κ.gn p.1:=by
  intro cs vs hl h p hp
  obtain ⟨c,hc,hp⟩:=List.mem_flatMap.1 hp
  obtain ⟨j,hj,rfl⟩:=List.getElem_of_mem hc
  exact refs1_rel (h j cs[j] _ (List.getElem?_eq_getElem hj) (Array.getElem?_eq_getElem (by omega))) p hp
 have h1:=refs1_rel h
 cases h with
 | agg hl h=> exact many hl h
 | tup hl h=> exact many hl h
 | fn hl h=> exact many hl h
 | _=> exact h1
theorem refs1_unk (v:AV):refs1 (unk1 v)=refs1 v:=by cases v <;> rfl
theorem refsOf_unk (v:AV):refsOf (unk v)=refsOf v:=by
 cases v with
 | agg cs=>
  simp only [unk,refsOf,List.flatMap_map]
  congr 1
  funext x
  exact refs1_unk x
 | _=> rfl
section
variable {R : Nat → Nat → Prop} {Z : Nat → Prop}
theorem settle_fits {s:Nat} (hz:∀k,Z (s + 65536 * k)) (cz:List Nat):∀(cs:List AV) (j:Nat) (k:List AV→Step),(∀r,(k r).Fits R Z)→(settle s cz j cs k).Fits R Z
 | [],j,k,h=> h []
 | c::cs,j,k,h=> by
  have gen:(settle s cz (j + 1) cs fun r=> k (c::r)).Fits R Z:=settle_fits hz cz cs (j + 1) _ fun r=> h _
  cases c with
  | nl=> exact ⟨hz (j + 1),fun g=> settle_fits hz cz cs (j + 1) _ fun r=> h _⟩
  | _=> exact gen
theorem dataOf_fits {v:AV} (hr:∀p∈refs1 v,R p.1 p.2) {k:D→Step} (h:∀x,(k x).Fits R Z):(dataOf v k).Fits R Z:=by
 cases v with
 | d x=> exact h x
 | nl=> exact h _
 | row s g n=> exact ⟨hr (s,g) (by simp [refs1]),fun c=> ⟨hr (s,g) (by simp [refs1]),h _⟩⟩
 | sub s g o n=> exact ⟨hr (s,g) (by simp [refs1]),fun c=> ⟨hr (s,g) (by simp [refs1]),h _⟩⟩
 | _=> exact trivial
theorem dataList_fits:∀(vs:List AV),(∀p∈vs.flatMap refs1,R p.1 p.2)→∀(k:List D→Step),(∀x,(k x).Fits R Z)→(dataList vs k).Fits R Z
 | [],_,k,h=> h []
 | v::vs,hr,k,h=> dataOf_fits (fun p hp=> hr p (by simp [hp])) fun x=> dataList_fits vs (fun p hp=> hr p (by
   rw [List.flatMap_cons];exact List.mem_append_right _ hp)) _ fun xs=> h _
theorem drop_refs (cs:List AV) (o:Nat):∀p∈(cs.drop o).flatMap refs1,p∈cs.flatMap refs1:=by
 intro p hp
 obtain ⟨c,hc,hp⟩:=List.mem_flatMap.1 hp
 exact List.mem_flatMap.2 ⟨c,List.mem_of_mem_drop hc,hp⟩
theorem cellL0_fits:∀(cs:List AV),(∀p∈cs.flatMap refs1,R p.1 p.2)→∀(k:List D→List (Nat×Nat)→Step),(∀ds l,(∀p∈l,R p.1 p.2)→(k ds l).Fits R Z)→(cellL0 cs k).Fits R Z
 | [],_,k,h=> h [] [] (by simp)
 | c::cs,hr,k,h=> by
  have hr':∀p∈cs.flatMap refs1,R p.1 p.2:=fun p hp=> hr p (by rw [List.flatMap_cons];exact List.mem_append_right _ hp)
  have hc:∀p∈refs1 c,R p.1 p.2:=fun p hp=> hr p (by rw [List.flatMap_cons];exact List.mem_append_left _ hp)
  have more:∀(q:Nat×Nat),R q.1 q.2→∀(x:D),(cellL0 cs fun ds l=> k (x::ds) (q::l)).Fits R Z:=fun q hq x=> cellL0_fits cs hr' _ fun ds l hl=> h _ _ fun p hp=> by
   rcases List.mem_cons.1 hp with rfl | hp
   ·exact hq
   ·exact hl p hp
  cases c with
  | d x=> exact cellL0_fits cs hr' _ fun ds l hl=> h _ _ hl
  | mp s g=> exact ⟨hc (s,g) (by simp [refs1]),fun ck es=> more (s,g) (hc (s,g) (by simp [refs1])) _⟩
  | row s g n=> exact ⟨hc (s,g) (by simp [refs1]),fun es=> more (s,g) (hc (s,g) (by simp [refs1])) _⟩
  | _=> exact trivial
theorem cellL_fits:∀(cs:List AV),(∀p∈cs.flatMap refs1,R p.1 p.2)→∀(k:List D→List (Nat×Nat)→Step),(∀ds l,(∀p∈l,R p.1 p.2)→(k ds l).Fits R Z)→(cellL cs k).Fits R Z
 | [],_,k,h=> h [] [] (by simp)
 | c::cs,hr,k,h=> by
  have hr':∀p∈cs.flatMap refs1,R p.1 p.2:=fun p hp=> hr p (by rw [List.flatMap_cons];exact List.mem_append_right _ hp)
  have hc:∀p∈refs1 c,R p.1 p.2:=fun p hp=> hr p (by rw [List.flatMap_cons];exact List.mem_append_left _ hp)
  have more:∀(q:Nat×Nat),R q.1 q.2→∀(x:D),(cellL cs fun ds l=> k (x::ds) (q::l)).Fits R Z:=fun q hq x=> cellL_fits cs hr' _ fun ds l hl=> h _ _ fun p hp=> by
   rcases List.mem_cons.1 hp with rfl | hp
   ·exact hq
   ·exact hl p hp
  cases c with
  | d x=> exact cellL_fits cs hr' _ fun ds l hl=> h _ _ hl
  | fp ds0=> exact cellL_fits cs hr' _ fun ds l hl=> h _ _ hl
  | mp s g=> exact ⟨hc (s,g) (by simp [refs1]),fun ck es=> more (s,g) (hc (s,g) (by simp [refs1])) _⟩
  | row s g n=> exact ⟨hc (s,g) (by simp [refs1]),fun es=> more (s,g) (hc (s,g) (by simp [refs1])) _⟩
  | lp s g o=> exact ⟨hc (s,g) (by simp [refs1]),fun c0 hc0=> cellL0_fits _ (fun p hp=> hc0 p (drop_refs _ _ p hp)) _ fun ds0 l0 hl0=> cellL_fits cs hr' _ fun ds l hl=> h _ _ fun p hp=> by
    rcases List.mem_cons.1 hp with rfl | hp
    ·exact hc (s,g) (by simp [refs1])
    ·rcases List.mem_append.1 hp with hp | hp
     ·exact hl0 p hp
     ·exact hl p hp⟩
  | _=> exact trivial
theorem arg0_fits {v:AV} (hr:∀p∈refs1 v,R p.1 p.2) {k:AV→List (Nat×Nat)→Step} (h:∀x l,(∀p∈l,R p.1 p.2)→(k x l).Fits R Z):(arg0 v k).Fits R Z:=by
 cases v with
 | d x=> exact h _ [] (by simp)
 | nl=> exact h _ [] (by simp)
 | row s g n=> exact ⟨hr (s,g) (by simp [refs1]),fun c=> h _ [(s,g)] (by simpa using hr (s,g) (by simp [refs1]))⟩
 | sub s g o n=> exact ⟨hr (s,g) (by simp [refs1]),fun c=> h _ [(s,g)] (by simpa using hr (s,g) (by simp [refs1]))⟩
 | lp s g o=>
  refine ⟨hr (s,g) (by simp [refs1]),fun c hc=> cellL_fits _ (fun p hp=> hc p (drop_refs _ _ p hp)) _ fun ds l hl=> h _ _ fun p hp=> ?_⟩
  rcases List.mem_cons.1 hp with rfl | hp
  ·exact hr (s,g) (by simp [refs1])
  ·exact hl p hp
 | fp ds=> exact h _ [] (by simp)
 | _=> exact trivial
theorem argL_fits:∀(vs:List AV),(∀p∈vs.flatMap refs1,R p.1 p.2)→∀(k:List AV→List (Nat×Nat)→Step),(∀x l,(∀p∈l,R p.1 p.2)→(k x l).Fits R Z)→(argL vs k).Fits R Z
 | [],_,k,h=> h [] [] (by simp)
 | v::vs,hr,k,h=> arg0_fits (fun p hp=> hr p (by simp [hp])) fun x l hl=> argL_fits vs (fun p hp=> hr p (by
   rw [List.flatMap_cons];exact List.mem_append_right _ hp)) _ fun xs l' hl'=> h _ _ fun p hp=> by
   rcases List.mem_append.1 hp with hp | hp
   ·exact hl p hp
   ·exact hl' p hp
theorem arg1_fits {v:AV} (hr:∀p∈refsOf v,R p.1 p.2) {k:AV→List (Nat×Nat)→Step} (h:∀x l,(∀p∈l,R p.1 p.2)→(k x l).Fits R Z):(arg1 v k).Fits R Z:=by
 cases v with
 | fn f cs=> exact argL_fits cs hr _ fun x l hl=> h _ l hl
 | agg cs=> exact trivial
 | tup cs=> exact trivial
 | _=> exact arg0_fits (v:=_) (by simpa [refsOf] using hr) h
theorem argT_fits:∀(vs:List (Option AV)),(∀v,some v∈vs→∀p∈refsOf v,R p.1 p.2)→∀(k:List AV→List (Nat×Nat)→Step),(∀x l,(∀p∈l,R p.1 p.2)→(k x l).Fits R Z)→(argT vs k).Fits R Z
 | [],_,k,h=> h [] [] (by simp)
 | none::vs,_,k,h=> trivial
 | some v::vs,hr,k,h=> by
  have next:∀(x:AV) (l:List (Nat×Nat)),(∀p∈l,R p.1 p.2)→(argT vs fun xs m=> k (x::xs) (l ++ m)).Fits R Z:=fun x l hl=>
   argT_fits vs (fun v hv=> hr v (by simp [hv])) _ fun xs l' hl'=> h _ _ fun p hp=> by
    rcases List.mem_append.1 hp with hp | hp
    ·exact hl p hp
    ·exact hl' p hp
  have hv:=hr v (by simp)
  have one:(∀p∈refsOf v,R p.1 p.2)→(arg1 v fun x l=> argT vs fun xs m=> k (x::xs) (l ++ m)).Fits R Z:=fun h1=> arg1_fits h1 next
  cases v with
  | agg cs=> exact argL_fits cs hv _ fun x l hl=> next _ l hl
  | tup cs=> exact trivial
  | _=> exact one hv
theorem frzL_fits:∀(l:List (Nat×Nat)) (k:Step),(∀p∈l,R p.1 p.2)→k.Fits R Z→(frzL l k).Fits R Z
 | [],k,_,h=> h
 | (s,g)::l,k,hl,h=> ⟨hl (s,g) (by simp),frzL_fits l k (fun p hp=> hl p (by simp [hp])) h⟩
theorem recv1_fits {s:Nat} (hz:Z s) (v:AV) {k:AV→Step} (h:∀x,(k x).Fits R Z):(recv1 s v k).Fits R Z:=by
 cases v with
 | ow sz es=> exact ⟨hz,fun g=> h _⟩
 | d x=> exact h _
 | _=> exact trivial
theorem recvL_fits {s:Nat} (hz:∀k,Z (s + 65536 * k)):∀(vs:List AV) (j:Nat) (k:List AV→Step),(∀r,(k r).Fits R Z)→(recvL s j vs k).Fits R Z
 | [],_,_k,h=> h []
 | v::vs,j,_k,h=> recv1_fits (hz (j + 1)) v fun _x=> recvL_fits hz vs (j + 1) _ fun _r=> h _
theorem recvC_fits {s:Nat} (hz:∀k,Z (s + 65536 * k)) (v:AV) {k:AV→Step} (h:∀x,(k x).Fits R Z):(recvC s v k).Fits R Z:=by
 have one:(recv1 s v k).Fits R Z:=recv1_fits (hz 0) v h
 cases v with
 | agg cs=> exact recvL_fits hz cs 0 _ fun r=> h _
 | _=> exact one
theorem recvT_fits {s:Nat} (hz:∀k,Z (s + 65536 * k)):∀(vs:List AV) (j:Nat) (k:List AV→Step),(∀r,(k r).Fits R Z)→(recvT s j vs k).Fits R Z
 | [],j,k,h=> h []
 | v::vs,j,k,h=> recvC_fits (fun k'=> by have:=hz (16 * (j + 1) + k');rw [Nat.mul_add,←Nat.add_assoc,←Nat.mul_assoc] at this;exact this) v fun x=> recvT_fits hz vs (j + 1) _ fun r=> h _
theorem recv_fits {s:Nat} (hz:∀k,Z (s + 65536 * k)) (v:AV) {k:AV→Step} (h:∀x,(k x).Fits R Z):(recv s v k).Fits R Z:=by
 have one:(recvC s v k).Fits R Z:=recvC_fits hz v h
 cases v with
 | tup cs=> exact recvT_fits hz cs 0 _ fun r=> h _
 | _=> exact one
theorem argS1_fits {v:AV} (hr:∀p∈refsOf v,R p.1 p.2) {k:AV→Step} (h:∀x,(∀p∈refs1 x,R p.1 p.2)→(k x).Fits R Z):(argS1 v k).Fits R Z:=by
 have gen:(∀p∈refs1 v,R p.1 p.2)→(dataOf v fun d=> k (.d d)).Fits R Z:=fun hr=> dataOf_fits hr fun x=> h _ (by simp [refs1])
 cases v with
 | lp s g o=> exact h _ (by simpa [refsOf] using hr)
 | mp s g=> exact h _ (by simpa [refsOf] using hr)
 | fp cs=> exact h _ (by simp [refs1])
 | agg cs=> exact dataList_fits cs hr _ fun ds=> h _ (by simp [refs1])
 | tup cs=> exact trivial
 | fn f cs=> exact trivial
 | _=> exact gen (by simpa [refsOf] using hr)
theorem argS_fits:∀(xs:List (Option AV)),(∀v,some v∈xs→∀p∈refsOf v,R p.1 p.2)→∀(k:List AV→Step),(∀ys,(∀y∈ys,∀p∈refs1 y,R p.1 p.2)→(k ys).Fits R Z)→(argS xs k).Fits R Z
 | [],_,k,h=> h [] (by simp)
 | none::xs,_,k,h=> trivial
 | some v::xs,hr,k,h=> argS1_fits (hr v (by simp)) fun x hx=> argS_fits xs (fun v hv=> hr v (by simp [hv])) _ fun ys hys=> h _ fun y hy=> by
   rcases List.mem_cons.1 hy with rfl | hy
   ·exact hx
   ·exact hys y hy
theorem objC_fits:∀(cs:List AV),(∀p∈cs.flatMap refs1,R p.1 p.2)→∀(n:Nat) (k:List AV→List (Nat×Nat)→List AV→Step),(∀zs l is,(k zs l is).Fits R Z)→(objC cs n k).Fits R Z
 | [],_,n,k,h=> h [] [] []
 | c::cs,hr,n,k,h=> by
  have hr':∀p∈cs.flatMap refs1,R p.1 p.2:=fun p hp=> hr p (by rw [List.flatMap_cons];exact List.mem_append_right _ hp)
  have hc:∀p∈refs1 c,R p.1 p.2:=fun p hp=> hr p (by rw [List.flatMap_cons];exact List.mem_append_left _ hp)
  cases c with
  | d x=> exact objC_fits cs hr' n _ fun zs l is=> h _ _ _
  | mp s g=> exact ⟨hc (s,g) (by simp [refs1]),fun ck es=> objC_fits cs hr' (n + 1) _ fun zs l is=> h _ _ _⟩
  | _=> exact trivial
theorem objL_fits:∀(ys:List AV),(∀y∈ys,∀p∈refs1 y,R p.1 p.2)→∀(n:Nat) (k:List AV→List (Nat×Nat)→List AV→Step),(∀zs l is,(k zs l is).Fits R Z)→(objL ys n k).Fits R Z
 | [],_,n,k,h=> h [] [] []
 | y::ys,hr,n,k,h=> by
  have hr':∀y∈ys,∀p∈refs1 y,R p.1 p.2:=fun y hy=> hr y (by simp [hy])
  have hc:=hr y (by simp)
  have dat:(bif datA y then objL ys n fun zs l' is'=> k (y::zs) l' is' else .fail:Step).Fits R Z:=by
   cases datA y
   ·exact trivial
   ·exact objL_fits ys hr' n _ fun zs l is=> h _ _ _
  cases y with
  | lp s g o=> exact ⟨hc (s,g) (by simp [refs1]),fun cs hcs=> objC_fits cs hcs _ _ fun zs l is=> objL_fits ys hr' _ _ fun zs' l' is'=> h _ _ _⟩
  | mp s g=> exact ⟨hc (s,g) (by simp [refs1]),fun ck es=> objL_fits ys hr' _ _ fun zs' l' is'=> h _ _ _⟩
  | _=> exact dat
theorem objN_fits {s:Nat} (hz:∀k,Z (s + 65536 * k)):∀(rest:List AV) (j:Nat) (L:List (Nat×Nat)) (k:List (Nat×Nat)→Step),(∀L,(k L).Fits R Z)→(objN s j L rest k).Fits R Z
 | [],j,L,k,h=> h L
 | b::rest,j,L,k,h=> by
  unfold objN
  split
  ·refine ⟨?_,fun g=> objN_fits hz rest _ _ _ h⟩
   have:=hz (4096 * (j + 1))
   rwa [←Nat.mul_assoc] at this
  ·trivial
theorem objV_fits {s:Nat} (hz:∀k,Z (s + 65536 * k)) (L:List (Nat×Nat)) (v:AV):(objV s L v).Fits R Z:=by
 have one:(recv s v .ret).Fits R Z:=recv_fits hz v fun x=> trivial
 cases v with
 | lp s' g o=> exact (by cases h:ofC L (.lp s' g o) <;> simp only [objV,h] <;> trivial)
 | mp s' g=> exact (by cases h:ofC L (.mp s' g) <;> simp only [objV,h] <;> trivial)
 | _=> exact one
theorem objCall_fits {s:Nat} (hz:∀k,Z (s + 65536 * k)) (f:FuncId) (xs:List (Option AV)) (hr:∀v,some v∈xs→∀p∈refsOf v,R p.1 p.2):(objCall s 7 f xs).Fits R Z:=by
 refine argS_fits xs hr _ fun ys hys=> objL_fits ys hys 0 _ fun zs l is=> ?_
 cases nodupL l
 ·trivial
 ·intro r
  cases r with
  | hp is2=>
   cases is2 with
   | nil=> trivial
   | cons v js=>
    show (bif (js.take l.length).all isNlA then _ else _:Step).Fits R Z
    cases (js.take l.length).all isNlA
    ·trivial
    ·exact objN_fits hz _ _ _ _ fun L=> objV_fits hz L v
  | _=> trivial
theorem boxF_fits {t:TI} {s:Nat} (hz:∀k,Z (s + 65536 * k)) (v:AV):(boxF t s v).Fits R Z:=by
 unfold boxF
 cases (cellsOf v).all isOne
 ·trivial
 ·exact settle_fits hz _ _ _ _ fun r=> ⟨hz 0,fun g=> trivial⟩
theorem ldA_fits {t:TI} {cs:List AV}:(ldA t cs).Fits R Z:=by
 unfold ldA
 cases t.known
 ·trivial
 ·cases t.agg
  ·cases cs <;> trivial
  ·simp only [Bool.not_true,cond_false,cond_true]
   cases Nat.ble t.size cs.length <;> trivial
theorem ldD_fits {t:TI} {cs:List D}:(ldD t cs).Fits R Z:=by rw [ldD_eq];exact ldA_fits
theorem retO_fits {x:Option AV}:(retO x).Fits R Z:=by cases x <;> trivial
theorem buildEs_fits (sz n:Nat):∀(parts:List (Nat×Option AV)) (i:Nat) (k:List (List D)→Step),(∀p∈parts,∀v,p.2=some v→∀q∈(cellsOf v).flatMap refs1,R q.1 q.2)→(∀es,(k es).Fits R Z)→(buildEs sz n i parts k).Fits R Z
 | [],i,k,_,h=> by
  simp only [buildEs]
  cases Nat.beq i n
  ·trivial
  ·exact h []
 | (j,none)::r,i,k,_,h=> trivial
 | (j,some v)::r,i,k,hr,h=> by
  simp only [buildEs]
  cases (Nat.beq i j && Nat.beq (cellsOf v).length sz && (cellsOf v).all isOne)
  ·trivial
  ·exact dataList_fits _ (hr (j,some v) (by simp) v rfl) _ fun ds=> buildEs_fits sz n r (i + 1) _ (fun p hp=> hr p (by simp [hp])) fun es=> h _
end
end Go.Proofs.YtiklglcjecopcaaGreatDoor
namespace Go.Proofs.YtiklglcjecopcaaGreatDoor
open Go.RowKit
def opRefs (E:Nat→Option AV) (o:Oper) (s g:Nat):Prop:=∃x∈o.op.operands,∃v,rawOf E x=some v∧(s,g)∈refsOf v
theorem opRefs_rho {E:Nat→Option AV} {o:Oper} {x:Operand} (hx:x∈o.op.operands) {v:AV} (hv:rhoOf E x=some v):∀p∈refsOf v,opRefs E o p.1 p.2:=by
 intro p hp
 unfold rhoOf at hv
 cases hq:rawOf E x with
 | none=> rw [hq] at hv;cases hv
 | some q=>
  rw [hq] at hv
  injection hv with hv
  subst hv
  rw [refsOf_unk] at hp
  exact ⟨x,hx,q,hq,hp⟩
theorem refs1_sub (v:AV):∀p∈refs1 v,p∈refsOf v:=by
 intro p hp
 cases v with
 | agg=> simp [refs1] at hp
 | tup=> simp [refs1] at hp
 | fn=> simp [refs1] at hp
 | _=> exact hp
theorem cells_refs (v:AV):∀p∈(cellsOf v).flatMap refs1,p∈refsOf v:=by
 intro p hp
 have one:p∈ [v].flatMap refs1→p∈refsOf v:=fun h=> refs1_sub v p (by simpa using h)
 cases v with
 | agg cs=> exact hp
 | _=> exact one hp
theorem retA_fits {R:Nat→Nat→Prop} {Z:Nat→Prop} {x:Option (List AV)}:(retA x).Fits R Z:=by cases x <;> trivial
section
variable {T : Nat → TI} {base : Nat} {E : Nat → Option AV} {o : Oper}
theorem opF_fits0 (h:opKind T o.op=0) {R:Nat→Nat→Prop} {Z:Nat→Prop}:(opF T base E o).Fits R Z:=by
 unfold opF
 split
 all_goals rename_i ho
 all_goals try (rw [ho] at h;cases h;done)
 ·unfold pickF
  split
  ·exact retO_fits
  ·exact retO_fits
  ·exact ⟨retO_fits,retO_fits⟩
  ·trivial
 ·unfold buildF
  split
  ·exact retA_fits
  ·exact retA_fits
  ·trivial
 ·unfold nilckF
  split <;> trivial
 ·show (bif isNilP _ then _ else _:Step).Fits _ _
  cases isNilP _
  case true=>
   show (nilpF _ _ _).Fits _ _
   unfold nilpF
   split <;> trivial
  show (bif isNilC _ then _ else _:Step).Fits _ _
  cases isNilC _
  case true=>
   show (nilF _ _ _).Fits _ _
   unfold nilF
   split <;> trivial
  show (bopF _ _ _ _).Fits _ _
  unfold bopF
  split
  ·split <;> trivial
  ·unfold binF
   split
   ·split
    ·trivial
    ·unfold intF
     split
     ·trivial
     ·split <;> trivial
   ·split <;> trivial
   ·split
    ·split <;> trivial
    ·trivial
   ·trivial
  ·trivial
 ·unfold unF
  split <;> trivial
 ·unfold convF
  split <;> trivial
 ·unfold mfuncF
  split <;> trivial
 ·unfold faddrF
  split
  ·split <;> trivial
  ·trivial
 ·unfold fieldF
  split
  ·split
   ·exact ldA_fits
   ·trivial
  ·trivial
 ·unfold indexF
  split
  ·trivial
  ·exact ldA_fits
  ·trivial
 ·unfold extractF
  split
  ·exact retO_fits
  ·trivial
 ·rename_i x t
  have hm:∀a b,(T t).k≠ .map a b:=by
   intro a b e
   rw [ho] at h
   have h:(bif [t].any fun t=> (T t).k.isMap then 1 else 0)=0:=h
   simp [e,TK.isMap] at h
  show (lenF (T t).k (rhoOf E x)).Fits _ _
  generalize (T t).k=k at hm
  unfold lenF
  split
  all_goals first
   | trivial
   | exact absurd rfl (hm _ _)
 ·unfold minF
  split <;> trivial
 ·unfold maxF
  split <;> trivial
 ·exfalso
  rw [ho] at h
  rename_i fv xs ts
  have h:(bif Nat.beq (ownOf T fv) 0 || Nat.beq (ownOf T fv) 7 then 1 else 2)=0:=h
  cases hb:(Nat.beq (ownOf T fv) 0 || Nat.beq (ownOf T fv) 7) <;> rw [hb] at h <;> cases h
 ·trivial
theorem opF_fits1 (h:opKind T o.op=1) {d:Nat} (hd:o.dst=some d) {R:Nat→Nat→Prop} (hop:∀s g,opRefs E o s g→R s g):(opF T base E o).Fits R (fun s=> ∃k,s=base + d + 65536 * k):=by
 have hz:∀k,∃k',base + o.dst.getD 0 + 65536 * k=base + d + 65536 * k':=fun k=> ⟨k,by rw [hd];rfl⟩
 have hz0:∃k',base + o.dst.getD 0=base + d + 65536 * k':=⟨0,by rw [hd];rfl⟩
 have mv:∀(sz:Nat) (x:Option AV),(mvF (base + o.dst.getD 0) sz x).Fits R (fun s=> ∃k,s=base + d + 65536 * k):=by
  intro sz x
  unfold mvF
  split
  ·exact ⟨hz0,fun g=> trivial⟩
  ·exact retO_fits
 unfold opF
 split
 all_goals rename_i ho
 all_goals try (rw [ho] at h;cases h;done)
 ·exact mv _ _
 ·exact mv _ _
 ·unfold allocF
  cases (T _).known
  ·trivial
  ·exact boxF_fits hz _
 ·unfold boxO
  split
  ·exact boxF_fits hz _
  ·trivial
 ·rename_i t n parts
  split
  ·rename_i e z hk
   show (bsliceF (T e) (base + o.dst.getD 0) n (parts.toList.map fun p=> (p.1,rhoOf E p.2))).Fits _ _
   unfold bsliceF
   cases ((T e).known && Nat.ble (n * (T e).size) 1000000 && Nat.blt 0 (T e).size)
   ·trivial
   ·refine buildEs_fits _ _ _ _ _ (fun p hp v hv q hq=> ?_) fun es=> ⟨hz0,fun g=> trivial⟩
    obtain ⟨p',hp',rfl⟩:=List.mem_map.1 hp
    refine hop _ _ (opRefs_rho (x:=p'.2) ?_ hv q (cells_refs v q hq))
    rw [ho]
    simp only [Op.operands]
    simp
    exact ⟨p'.1,by simpa using hp'⟩
  ·trivial
 ·rename_i t x
  show (loadF (T t) (rhoOf E x)).Fits _ _
  have hx:∀v,rhoOf E x=some v→∀p∈refsOf v,R p.1 p.2:=fun v hv p hp=> hop _ _ (opRefs_rho (by rw [ho];simp [Op.operands]) hv p hp)
  unfold loadF
  split
  ·exact ldD_fits
  ·rename_i s g q hv
   exact ⟨hx _ hv (s,g) (by simp [refsOf,refs1]),fun c _=> ldA_fits⟩
  ·rename_i s g i q hv
   exact ⟨hx _ hv (s,g) (by simp [refsOf,refs1]),fun c c'=> ldD_fits⟩
  ·trivial
 ·rename_i t x lo hi
  show (sliceF (T t).k (rhoOf E x) (lo.map (rhoOf E)) (hi.map (rhoOf E))).Fits _ _
  have hx:∀v,rhoOf E x=some v→∀p∈refsOf v,R p.1 p.2:=fun v hv p hp=> hop _ _ (opRefs_rho (by rw [ho];simp [Op.operands]) hv p hp)
  unfold sliceF
  split
  ·split <;> trivial
  ·split <;> trivial
  ·rename_i hv
   split
   ·exact ⟨hx _ hv (_,_) (by simp [refsOf,refs1]),trivial⟩
   ·trivial
  ·rename_i hv
   split
   ·exact ⟨hx _ hv (_,_) (by simp [refsOf,refs1]),trivial⟩
   ·trivial
  ·trivial
 ·rename_i t x ix
  show (iaddrF (T t).k (rhoOf E x) (rhoOf E ix)).Fits _ _
  have hx:∀v,rhoOf E x=some v→∀p∈refsOf v,R p.1 p.2:=fun v hv p hp=> hop _ _ (opRefs_rho (by rw [ho];simp [Op.operands]) hv p hp)
  generalize hq:rhoOf E x=c at hx
  unfold iaddrF
  split
  ·trivial
  ·trivial
  ·trivial
  ·exact fun c=> trivial
  ·exact ⟨hx _ rfl (_,_) (by simp [refsOf,refs1]),trivial⟩
  ·exact ⟨hx _ rfl (_,_) (by simp [refsOf,refs1]),trivial⟩
  ·trivial
 ·rename_i x t
  show (lenF (T t).k (rhoOf E x)).Fits _ _
  have hx:∀v,rhoOf E x=some v→∀p∈refsOf v,R p.1 p.2:=fun v hv p hp=> hop _ _ (opRefs_rho (by rw [ho];simp [Op.operands,Call.operands]) hv p hp)
  generalize rhoOf E x=c at hx
  unfold lenF
  split
  all_goals first
   | trivial
   | exact ⟨hx _ rfl (_,_) (by simp [refsOf,refs1]),fun _ _=> trivial⟩
 ·show (mkmapF _ _ _).Fits _ _
  unfold mkmapF
  split
  ·split
   ·exact ⟨hz0,fun g=> trivial⟩
   ·trivial
  ·trivial
 ·rename_i t x k ok
  show (lookupF T (T t).k ok (rhoOf E x) (rhoOf E k)).Fits _ _
  have hx:∀v,rhoOf E x=some v→∀p∈refsOf v,R p.1 p.2:=fun v hv p hp=> hop _ _ (opRefs_rho (by rw [ho];simp [Op.operands]) hv p hp)
  generalize hq:rhoOf E x=c at hx
  unfold lookupF
  split
  ·split
   ·cases ((T _).known && ckHas _ _)
    ·trivial
    ·refine ⟨hx _ rfl (_,_) (by simp [refsOf,refs1]),fun ck es=> ?_⟩
     show (bif ckSame _ ck then Step.ret _ else Step.fail).Fits _ _
     cases ckSame _ ck
     ·exact trivial
     ·exact trivial
   ·trivial
  ·split
   ·cases ((T _).known && ckHas _ _ && ckSame _ _)
    ·trivial
    ·trivial
   ·trivial
  ·trivial
 ·rename_i fv xs ts
  rw [ho] at h
  cases hb:Nat.beq (ownOf T fv) 0
  ·have h7:Nat.beq (ownOf T fv) 7=true:=by
    have h:(bif Nat.beq (ownOf T fv) 0 || Nat.beq (ownOf T fv) 7 then 1 else 2)=1:=h
    rw [hb] at h
    cases hb:Nat.beq (ownOf T fv) 7
    ·rw [hb] at h;cases h
    ·rfl
   show (ocallF T (base + o.dst.getD 0) fv (xs.toList.map (rhoOf E))).Fits _ _
   cases fv with
   | func f=>
    have h7:ownF T f=7:=Nat.eq_of_beq_eq_true h7
    show (bif Nat.beq (ownF T f) 3 then _ else bif Nat.beq (ownF T f) 4 then _ else bif Nat.beq (ownF T f) 7 then _ else _:Step).Fits _ _
    rw [h7]
    refine objCall_fits hz f _ fun v hv p hp=> ?_
    obtain ⟨x,hx,he⟩:=List.mem_map.1 hv
    exact hop _ _ (opRefs_rho (by rw [ho];simp only [Op.operands,Call.operands];simp;right;simpa using hx) he p hp)
   | _=> exact trivial
  show (fcallF (base + o.dst.getD 0) (rhoOf E fv) (xs.toList.map (rhoOf E))).Fits _ _
  generalize hfv:rhoOf E fv=c
  unfold fcallF
  split
  ·rename_i f cs
   cases hcap:cs.all cap1
   ·exact trivial
   simp only [cond_true]
   refine argT_fits _ (fun v hv p hp=> ?_) _ fun ys l hl=> fun r=> ?_
   ·rcases List.mem_append.1 hv with hv | hv
    ·obtain ⟨x,hx,he⟩:=List.mem_map.1 hv
     exact hop _ _ (opRefs_rho (by rw [ho];simp only [Op.operands,Call.operands];simp;right;simpa using hx) he p hp)
    ·obtain ⟨x,hx,he⟩:=List.mem_map.1 hv
     injection he with he
     subst he
     refine hop _ _ (opRefs_rho (x:=fv) (by rw [ho];simp only [Op.operands,Call.operands];simp) hfv p ?_)
     refine List.mem_flatMap.2 ⟨x,hx,?_⟩
     have:=List.all_eq_true.1 hcap x hx
     cases x <;> first | exact hp | cases this
   ·show (bif scalar r then _ else _:Step).Fits _ _
    cases scalar r
    ·exact frzL_fits _ _ hl (recv_fits hz _ fun x=> trivial)
    ·exact recv_fits hz _ fun x=> trivial
  ·trivial
 ·trivial
theorem congr_pairs {E E':Nat→Option AV} (parts:Array (Nat×Operand)) (h:∀x∈(parts.toList.map (·.2)),rhoOf E x=rhoOf E' x):(parts.toList.map fun p=> (p.1,rhoOf E p.2))=(parts.toList.map fun p=> (p.1,rhoOf E' p.2)):=
 List.map_congr_left fun p hp=> by rw [h p.2 (List.mem_map.2 ⟨p,hp,rfl⟩)]
theorem opF_congr {E E':Nat→Option AV} (h:∀x∈o.op.operands,rawOf E x=rawOf E' x):opF T base E o=opF T base E' o:=by
 have hr:∀x∈o.op.operands,rhoOf E x=rhoOf E' x:=fun x hx=> by unfold rhoOf;rw [h x hx]
 unfold opF
 split
 all_goals rename_i ho
 all_goals try rw [ho] at h hr
 all_goals try simp only [Op.operands] at h hr
 ·rw [h _ (by simp)]
 ·rw [h _ (by simp)]
 ·rename_i c x y
  rw [h c (by simp),h x (by simp),h y (by simp)]
 ·rw [hr _ (by simp)]
 ·rw [congr_pairs _ fun x hx=> hr x (by simpa using hx)]
 ·rw [congr_pairs _ fun x hx=> hr x (by simpa using hx)]
 ·rw [hr _ (by simp)]
 ·rename_i x y
  rw [hr x (by simp),hr y (by simp)]
 ·rw [hr _ (by simp)]
 ·rename_i x y _
  rw [hr x (by simp),hr y (by simp)]
 ·rw [hr _ (by simp)]
 ·rw [hr _ (by simp)]
 ·rename_i f first cap
  have e1:first.toList.map (rhoOf E)=first.toList.map (rhoOf E'):=List.map_congr_left fun x hx=> hr x (by simp;left;simpa using hx)
  have e2:∀(l:List Operand),(∀x∈l,rhoOf E x=rhoOf E' x)→l.mapM (rhoOf E)=l.mapM (rhoOf E'):=by
   intro l
   induction l with
   | nil=> intro _;rfl
   | cons x l ih=>
    intro hl
    rw [List.mapM_cons,List.mapM_cons,hl x (by simp),ih fun y hy=> hl y (by simp [hy])]
  rw [e1,e2 _ fun x hx=> hr x (by simp;right;simpa using hx)]
 ·rename_i t x lo hi
  have e1:lo.map (rhoOf E)=lo.map (rhoOf E'):=by
   cases lo with
   | none=> rfl
   | some l=> simp only [Option.map_some];rw [hr l (by simp)]
  have e2:hi.map (rhoOf E)=hi.map (rhoOf E'):=by
   cases hi with
   | none=> rfl
   | some l=> simp only [Option.map_some];rw [hr l (by simp)]
  rw [hr x (by simp),e1,e2]
 ·rw [hr _ (by simp)]
 ·rw [hr _ (by simp)]
 ·rename_i x y
  rw [hr x (by simp),hr y (by simp)]
 ·rename_i x y
  rw [hr x (by simp),hr y (by simp)]
 ·rw [hr _ (by simp)]
 ·rw [hr _ (by simp [Call.operands])]
 ·rename_i x y t t'
  rw [hr x (by simp [Call.operands]),hr y (by simp [Call.operands])]
 ·rename_i x y t t'
  rw [hr x (by simp [Call.operands]),hr y (by simp [Call.operands])]
 ·rename_i x t
  rw [hr x (by simp [Call.operands])]
 ·rename_i t x y
  rw [hr x (by simp),hr y (by simp)]
 ·rename_i t x k ok
  rw [hr x (by simp),hr k (by simp)]
 ·rename_i t x k y
  rw [hr x (by simp),hr k (by simp),hr y (by simp)]
 ·rename_i t x k y
  rw [hr x (by simp),hr k (by simp),hr y (by simp)]
 ·rename_i x k t t'
  rw [hr x (by simp [Call.operands]),hr k (by simp [Call.operands])]
 ·rename_i x y _
  rw [hr x (by simp [Call.operands]),hr y (by simp [Call.operands])]
 ·rename_i x y _
  rw [hr x (by simp [Call.operands]),hr y (by simp [Call.operands])]
 ·rename_i fv xs ts
  have e1:xs.toList.map (rhoOf E)=xs.toList.map (rhoOf E'):=List.map_congr_left fun x hx=> hr x (by simp [Call.operands];right;simpa using hx)
  rw [hr fv (by simp [Call.operands]),e1]
 ·rfl
end
end Go.Proofs.YtiklglcjecopcaaGreatDoor
namespace Go.Proofs.YtiklglcjecopcaaGreatDoor
open Go.RowKit
def unkE (env:Nat→Option AV):Nat→Option AV:=fun t=> unkO (env t)
theorem unk1_idem (v:AV):unk1 (unk1 v)=unk1 v:=by cases v <;> rfl
theorem unk_idem (v:AV):unk (unk v)=unk v:=by
 have h:=unk1_idem v
 cases v with
 | agg cs=>
  simp only [unk,List.map_map]
  congr 1
  apply List.map_congr_left
  intro x _
  exact unk1_idem x
 | _=> first | rfl | exact h
theorem unkO_idem (v:Option AV):unkO (unkO v)=unkO v:=by
 cases v with
 | none=> rfl
 | some v=> simp only [unkO,unk_idem]
theorem raw_unkE (env:Nat→Option AV) (x:Operand):unkO (rawOf (unkE env) x)=unkO (rawOf env x):=by
 cases x with
 | tmp t=> exact unkO_idem _
 | _=> rfl
theorem rho_unkE (env:Nat→Option AV):rhoOf (unkE env)=rhoOf env:=funext fun x=> raw_unkE env x
section
variable {T : Nat → TI} {base nt : Nat} {F : FuncId → List AV → AV → Prop}
theorem mv_unk {s sz:Nat} {x y:Option AV} (h:unkO x=unkO y) {m m':Mem} {v:AV} (hr:(mvF s sz x).Runs F m v m'):∃v',(mvF s sz y).Runs F m v' m'∧unk v'=unk v:=by
 cases x with
 | none=> cases hr
 | some x=>
  cases y with
  | none=> cases h
  | some y=>
   have h:unk x=unk y:=Option.some.inj h
   by_cases hx:x= .nl
   ·subst hx
    have hy:y= .nl:=by
     cases y <;> first | rfl | cases h
    subst hy
    exact ⟨v,hr,rfl⟩
   ·have hy:y≠ .nl:=by
     rintro rfl
     apply hx
     cases x <;> first | rfl | cases h
    have e1:mvF s sz (some x)= .ret x:=by cases x <;> first | rfl | exact absurd rfl hx
    have e2:mvF s sz (some y)= .ret y:=by cases y <;> first | rfl | exact absurd rfl hy
    rw [e1] at hr
    cases hr with
    | ret=> exact ⟨y,by rw [e2];exact .ret,h.symm⟩
theorem retO_unk {x y:Option AV} (h:unkO x=unkO y) {m m':Mem} {v:AV} (hr:(retO x).Runs F m v m'):∃v',(retO y).Runs F m v' m'∧unk v'=unk v:=by
 cases x with
 | none=> cases hr
 | some x=>
  cases y with
  | none=> cases h
  | some y=>
   cases hr with
   | ret=> exact ⟨y,.ret,(Option.some.inj h).symm⟩
theorem pick_unk {c c' x x' y y':Option AV} (hc:unkO c=unkO c') (hx:unkO x=unkO x') (hy:unkO y=unkO y') {m m':Mem} {v:AV} (hr:(pickF c x y).Runs F m v m'):∃v',(pickF c' x' y').Runs F m v' m'∧unk v'=unk v:=by
 obtain ⟨t,ht,hr⟩:=pickF_inv hr
 have hb:unkO c'=some (.d (.v (.bool t))):=by
  rw [←hc]
  rcases ht with rfl | rfl <;> rfl
 have hc':c'=some (.d (.v (.bool t)))∨c'=some (.kb t):=by
  cases c' with
  | none=> cases hb
  | some c'=>
   cases c' with
   | d z=> left;exact hb
   | kb b=> right;injection hb with hb;injection hb with hb;injection hb with hb;injection hb with hb;rw [hb]
   | _=> cases hb
 have fin:∃v',(bif t then retO x' else retO y').Runs F m v' m'∧unk v'=unk v:=by
  cases t
  ·exact retO_unk hy hr
  ·exact retO_unk hx hr
 obtain ⟨v',h1,h2⟩:=fin
 refine ⟨v',?_,h2⟩
 rcases hc' with rfl | rfl
 ·exact .br h1
 ·cases t <;> exact h1
theorem opF_unk {env env':Nat→Option AV} (h:unkE env=unkE env') {o:Oper} {m m':Mem} {v:AV} (hr:(opF T base env o).Runs F m v m'):∃v',(opF T base env' o).Runs F m v' m'∧unk v'=unk v:=by
 have hraw:∀x,unkO (rawOf env x)=unkO (rawOf env' x):=fun x=> by rw [←raw_unkE env,←raw_unkE env',h]
 have hrho:rhoOf env=rhoOf env':=funext hraw
 unfold opF at hr ⊢
 split at hr
 all_goals rename_i ho
 ·exact mv_unk (hraw _) hr
 ·exact mv_unk (hraw _) hr
 ·exact pick_unk (hraw _) (hraw _) (hraw _) hr
 all_goals first | exact ⟨v,hr,rfl⟩ | (rw [←hrho];exact ⟨v,hr,rfl⟩)
def Go1 (T:Nat→TI) (base:Nat) (F:FuncId→List AV→AV→Prop) (ops:Array Oper) (o:Oper) (env:Nat→Option AV) (v:AV) (m m1:Mem):Prop:=
 match o.guard with
 | none=> ∃v',(opF T base env o).Runs F m v' m1∧v=unk v'
 | some (j,want)=> ∃t,gdst ops.toList j=some t∧((∃b,env t=some (.d (.v (.bool b)))∧((b=want∧∃v',(opF T base env o).Runs F m v' m1∧v=unk v')∨(b≠want∧v= .tup []∧m1=m)))∨(env t=some (.tup [])∧v= .tup []∧m1=m))
def StepN (T:Nat→TI) (base nt:Nat) (F:FuncId→List AV→AV→Prop) (ops:Array Oper) (o:Oper) (st st':ASt):Prop:=dstOk nt o=true∧∃v,Go1 T base F ops o st.env v st.m st'.m∧st'.env=putE st.env o.dst v
def ChainN (T:Nat→TI) (base nt:Nat) (F:FuncId→List AV→AV→Prop) (ops:Array Oper):List Oper→ASt→ASt→Prop
 | [],st,st'=> st'=st
 | o::r,st,st'=> ∃st1,StepN T base nt F ops o st st1∧ChainN T base nt F ops r st1 st'
theorem unkE_put (env:Nat→Option AV) (d:Option Tmp) (v:AV):unkE (putE env d v)=putE (unkE env) d (unk v):=by
 funext t
 cases d with
 | none=> rfl
 | some d=>
  simp only [unkE,putE,updT,beq_dec]
  by_cases h:t=d <;> simp [h,unkO]
theorem unkE_idem (env:Nat→Option AV):unkE (unkE env)=unkE env:=funext fun _=> unkO_idem _
theorem unkE_known {env:Nat→Option AV} {t:Nat} {b:Bool} (h:env t=some (.d (.v (.bool b)))):unkE (updT env t (some (.kb b)))=unkE env:=by
 funext x
 simp only [unkE,updT,beq_dec]
 by_cases hx:x=t
 ·subst hx;simp [h,unkO,unk,unk1]
 ·simp [hx]
theorem runL_chain {ops:Array Oper} {K:ASt→Prop}:∀(l:List Oper) (st:ASt),runL T base nt F ops.toList l st K→∃st',ChainN T base nt F ops l ⟨unkE st.env,st.m⟩ ⟨unkE st'.env,st'.m⟩∧K st'
 | [],st,h=> ⟨st,rfl,h⟩
 | o::r,st,h=> by
  unfold runL at h
  cases hdo:dstOk nt o
  ·rw [hdo] at h;exact h.elim
  ·rw [hdo] at h
   simp only [Bool.not_true,cond_false] at h
   have exec:∀env,unkE env=unkE st.env→(opF T base env o).wp F st.m (fun v m=> runL T base nt F ops.toList r ⟨putE env o.dst v,m⟩ K)→
     ∃v' m1 st',(opF T base (unkE st.env) o).Runs F st.m v' m1∧ChainN T base nt F ops r ⟨putE (unkE st.env) o.dst (unk v'),m1⟩ ⟨unkE st'.env,st'.m⟩∧K st':=by
    intro env he h
    obtain ⟨v,m1,h1,h2⟩:=Step.wp_runs _ _ _ h
    obtain ⟨st',h3,h4⟩:=runL_chain r _ h2
    obtain ⟨v',h5,h6⟩:=opF_unk (env':=unkE st.env) (by rw [he,unkE_idem]) h1
    refine ⟨v',m1,st',h5,?_,h4⟩
    simp only [unkE_put,he] at h3
    rw [h6]
    exact h3
   have skip:∀env,unkE env=unkE st.env→runL T base nt F ops.toList r ⟨putE env o.dst (.tup []),st.m⟩ K→∃st',ChainN T base nt F ops r ⟨putE (unkE st.env) o.dst (.tup []),st.m⟩ ⟨unkE st'.env,st'.m⟩∧K st':=by
    intro env he h
    obtain ⟨st',h3,h4⟩:=runL_chain r _ h
    simp only [unkE_put,he] at h3
    exact ⟨st',h3,h4⟩
   cases hg:o.guard with
   | none=>
    rw [hg] at h
    obtain ⟨v',m1,st',h1,h2,h3⟩:=exec _ rfl h
    exact ⟨st',⟨_,⟨hdo,unk v',by unfold Go1;rw [hg];exact ⟨v',h1,rfl⟩,rfl⟩,h2⟩,h3⟩
   | some p=>
    obtain ⟨j,want⟩:=p
    rw [hg] at h
    dsimp only at h
    cases hj:gdst ops.toList j with
    | none=> rw [hj] at h;exact h.elim
    | some t=>
     rw [hj] at h
     dsimp only at h
     have yes:∀(b:Bool) (env:Nat→Option AV),unkE env=unkE st.env→unkO (st.env t)=some (.d (.v (.bool b)))→b=want→(opF T base env o).wp F st.m (fun v m=> runL T base nt F ops.toList r ⟨putE env o.dst v,m⟩ K)→∃st',ChainN T base nt F ops (o::r) ⟨unkE st.env,st.m⟩ ⟨unkE st'.env,st'.m⟩∧K st':=by
      intro b env he hb hw h
      obtain ⟨v',m1,st',h1,h2,h3⟩:=exec env he h
      exact ⟨st',⟨_,⟨hdo,unk v',by unfold Go1;rw [hg];exact ⟨t,hj,Or.inl ⟨b,hb,Or.inl ⟨hw,v',h1,rfl⟩⟩⟩,rfl⟩,h2⟩,h3⟩
     have no:∀(b:Bool) (env:Nat→Option AV),unkE env=unkE st.env→unkO (st.env t)=some (.d (.v (.bool b)))→b≠want→runL T base nt F ops.toList r ⟨putE env o.dst (.tup []),st.m⟩ K→∃st',ChainN T base nt F ops (o::r) ⟨unkE st.env,st.m⟩ ⟨unkE st'.env,st'.m⟩∧K st':=by
      intro b env he hb hw h
      obtain ⟨st',h2,h3⟩:=skip env he h
      exact ⟨st',⟨_,⟨hdo,.tup [],by unfold Go1;rw [hg];exact ⟨t,hj,Or.inl ⟨b,hb,Or.inr ⟨hw,rfl,rfl⟩⟩⟩,rfl⟩,h2⟩,h3⟩
     split at h
     ·rename_i hb
      have hb':unkO (st.env t)=some (.d (.v (.bool true))):=by rw [hb];rfl
      cases want
      ·exact no true _ rfl hb' (by decide) h
      ·exact yes true _ rfl hb' rfl h
     ·rename_i hb
      have hb':unkO (st.env t)=some (.d (.v (.bool false))):=by rw [hb];rfl
      cases want
      ·exact yes false _ rfl hb' rfl h
      ·exact no false _ rfl hb' (by decide) h
     ·rename_i b hb
      have hb':unkO (st.env t)=some (.d (.v (.bool b))):=by rw [hb];rfl
      have he:=unkE_known hb
      cases b
      ·cases want
       ·exact yes false _ he hb' rfl (h.2 rfl)
       ·exact no false _ he hb' (by decide) (h.2 rfl)
      ·cases want
       ·exact no true _ he hb' (by decide) (h.1 rfl)
       ·exact yes true _ he hb' rfl (h.1 rfl)
     ·rename_i hb
      have hb':unkO (st.env t)=some (.tup []):=by rw [hb];rfl
      obtain ⟨st',h2,h3⟩:=skip _ rfl h
      exact ⟨st',⟨_,⟨hdo,.tup [],by unfold Go1;rw [hg];exact ⟨t,hj,Or.inr ⟨hb',rfl,rfl⟩⟩,rfl⟩,h2⟩,h3⟩
     ·exact h.elim
end
end Go.Proofs.YtiklglcjecopcaaGreatDoor

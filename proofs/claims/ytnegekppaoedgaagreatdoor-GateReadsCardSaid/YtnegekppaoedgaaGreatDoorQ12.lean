/-
Values that are not known: that the table tells the truth about them.
-/
import Derived.Test.YtnegekppaoedgaaGreatDoorQ06
import Derived.Test.YtnegekppaoedgaaGreatDoorQ11
set_option linter.all false
noncomputable section
namespace Go.Proofs.YtnegekppaoedgaaGreatDoor
namespace Ci
theorem rV (a b:Int):Rx a b=decide (a < b):=by
 rw [Bool.eq_iff_iff,decide_eq_true_eq]
 cases a <;> cases b <;> simp only [Rx,Nat.ble_eq] <;> constructor <;> intro h <;> first | omega | (cases h;done) | exact Int.ofNat_lt.2 h | exact Int.ofNat_lt.1 h | exact Int.lt_of_lt_of_le (Int.negSucc_lt_zero _) (Int.natCast_nonneg _) | trivial
theorem Fb (a b:Int):eqI a b=decide (a=b):=by
 rw [Bool.eq_iff_iff,decide_eq_true_eq]
 cases a <;> cases b <;> simp [eqI] <;> omega
def okS (s:X5) (m:Int):Prop:=s.lo≤m∧m≤s.hi∧PI m s.ne=false∧(∀r,s.md=some r→m.tmod 12=r)
theorem agm {n m:Int}:∀{l:List Int},PI n l=true→PI m l=false→m≠n
 | [],h,_=> by cases h
 | k::l,h,hm=> by
  intro e
  subst e
  rw [h] at hm
  cases hm
def okV (f:Nat→Value) (i:Nat):Prop:=lU (i % 100)=true→∀s,lK (i / 100)=some s→∃m,f (i % 100)= .int .i64 m∧okS s m∧(∀t,s.rm=some t→(i % 100=5∨i % 100=11∨i % 100=16)∧∃q,lK t=some q∧okS q (m.tmod 12)∧q.rm=none∧q.df=none)∧∀k,s.df=some k→f k≠ .int .i64 m
theorem acU {s:X5} {m n:Int} {b:Bool} (h:okS s m) (hb:eqS s n=some b):(m=n↔b=true):=by
 unfold eqS at hb
 rw [rV,rV,Fb,Fb] at hb
 obtain ⟨h1,h2,h3,_⟩:=h
 by_cases c1:n < s.lo
 ·simp only [c1,decide_true,cond_true] at hb
  injection hb with hb
  subst hb
  constructor <;> intro e
  ·omega
  ·cases e
 ·by_cases c2:s.hi < n
  ·simp only [c1,c2,decide_true,decide_false,cond_true,cond_false] at hb
   injection hb with hb
   subst hb
   constructor <;> intro e
   ·omega
   ·cases e
  ·simp only [c1,c2,decide_false,cond_false] at hb
   cases c3:PI n s.ne with
   | true=>
    rw [c3] at hb
    injection hb with hb
    subst hb
    exact ⟨fun e=> absurd e (agm c3 h3),fun e=> by cases e⟩
   | false=>
    rw [c3] at hb
    simp only [cond_false] at hb
    by_cases c4:s.lo=n
    ·by_cases c5:s.hi=n
     ·simp only [c4,c5,decide_true,cond_true] at hb
      injection hb with hb
      subst hb
      exact ⟨fun _=> rfl,fun _=> by omega⟩
     ·simp [c4,c5] at hb
    ·simp [c4] at hb
theorem LC {s:X5} {m n:Int} {b:Bool} (h:okS s m) (hb:ltS s n=some b):(m < n↔b=true):=by
 unfold ltS at hb
 rw [rV,rV] at hb
 obtain ⟨h1,h2,_⟩:=h
 by_cases c1:s.hi < n
 ·simp only [c1,decide_true,cond_true] at hb
  injection hb with hb
  subst hb
  exact ⟨fun _=> rfl,fun _=> by omega⟩
 ·by_cases c2:s.lo < n
  ·simp [c1,c2] at hb
  ·simp only [c1,c2,decide_false,cond_false] at hb
   injection hb with hb
   subst hb
   exact ⟨fun e=> by omega,fun e=> by cases e⟩
theorem LD {s:X5} {m n:Int} {b:Bool} (h:okS s m) (hb:gtS s n=some b):(n < m↔b=true):=by
 unfold gtS at hb
 rw [rV,rV] at hb
 obtain ⟨h1,h2,_⟩:=h
 by_cases c1:n < s.lo
 ·simp only [c1,decide_true,cond_true] at hb
  injection hb with hb
  subst hb
  exact ⟨fun _=> rfl,fun _=> by omega⟩
 ·by_cases c2:n < s.hi
  ·simp [c1,c2] at hb
  ·simp only [c1,c2,decide_false,cond_false] at hb
   injection hb with hb
   subst hb
   exact ⟨fun e=> by omega,fun e=> by cases e⟩
theorem mM {o:Option Bool} {r:UA} (h:Td o=some r):∃b,o=some b∧r= .b b:=by
 cases o with
 | none=> cases h
 | some b=> exact ⟨b,rfl,(Option.some.inj h).symm⟩
theorem mO {o:Option Bool} {b:Bool} (h:abu o=some b):o=some (!b):=by
 cases o with
 | none=> cases h
 | some c=>
  have:=Option.some.inj h
  subst this
  cases c <;> rfl
theorem tY {p:Prop} [Decidable p] {b:Bool} (h:p↔b=true):decide p=b:=by
 rw [Bool.eq_iff_iff,decide_eq_true_eq]
 exact h
theorem pF {p q:Prop} [Decidable p] [Decidable q] {b:Bool} (h:q↔(!b)=true) (hp:p↔¬q):decide p=b:=by
 rw [Bool.eq_iff_iff,decide_eq_true_eq,hp,h]
 cases b <;> simp
theorem akV {s:X5} {m n:Int} (h:okS s m) {op:BinOp} {left:Bool} {r:UA} {i:Nat} (hr:opA s i op left n=some r):(∃b,r= .b b∧opI op (bif left then m else n) (bif left then n else m)=some (.bool b))∨(op= .rem∧left=true∧n=12∧ae8 s i=some r):=by
 cases op <;> first | (exact absurd hr (by intro h;cases h)) | skip
 case eql=>
  obtain ⟨b,h1,rfl⟩:=mM hr
  have:=acU h h1
  refine .inl ⟨b,rfl,?_⟩
  cases left
  ·show some (Value.bool (n==m))=_
   rw [show (n==m)=decide (m=n) by rw [Bool.eq_iff_iff,beq_iff_eq,decide_eq_true_eq];exact eq_comm,tY this]
  ·show some (Value.bool (m==n))=_
   rw [show (m==n)=decide (m=n) by rw [Bool.eq_iff_iff];simp,tY this]
 case neq=>
  obtain ⟨b,h1,rfl⟩:=mM hr
  have:=acU h (mO h1)
  refine .inl ⟨b,rfl,?_⟩
  cases left
  ·show some (Value.bool (n !=m))=_
   rw [show (n !=m)=decide (¬m=n) by rw [Bool.eq_iff_iff,bne_iff_ne,decide_eq_true_eq];exact ne_comm,pF this Iff.rfl]
  ·show some (Value.bool (m !=n))=_
   rw [show (m !=n)=decide (¬m=n) by rw [Bool.eq_iff_iff];simp,pF this Iff.rfl]
 case lss=>
  obtain ⟨b,h1,rfl⟩:=mM hr
  refine .inl ⟨b,rfl,?_⟩
  cases left
  ·show some (Value.bool (decide (n < m)))=_
   rw [tY (LD h h1)]
  ·show some (Value.bool (decide (m < n)))=_
   rw [tY (LC h h1)]
 case leq=>
  obtain ⟨b,h1,rfl⟩:=mM hr
  refine .inl ⟨b,rfl,?_⟩
  cases left
  ·show some (Value.bool (decide (n≤m)))=_
   rw [pF (LC h (mO h1)) (by omega)]
  ·show some (Value.bool (decide (m≤n)))=_
   rw [pF (LD h (mO h1)) (by omega)]
 case gtr=>
  obtain ⟨b,h1,rfl⟩:=mM hr
  refine .inl ⟨b,rfl,?_⟩
  cases left
  ·show some (Value.bool (decide (n > m)))=_
   rw [tY (show n > m↔b=true from LC h h1)]
  ·show some (Value.bool (decide (m > n)))=_
   rw [tY (show m > n↔b=true from LD h h1)]
 case geq=>
  obtain ⟨b,h1,rfl⟩:=mM hr
  refine .inl ⟨b,rfl,?_⟩
  cases left
  ·show some (Value.bool (decide (n≥m)))=_
   rw [pF (LD h (mO h1)) (by omega)]
  ·show some (Value.bool (decide (m≥n)))=_
   rw [pF (LC h (mO h1)) (by omega)]
 case rem=>
  cases left with
  | false=> cases hr
  | true=>
   have hr:(bif eqI n 12 then ae8 s i else none)=some r:=hr
   rw [Fb] at hr
   by_cases hn:n=12
   ·simp only [hn,decide_true,cond_true] at hr
    exact .inr ⟨rfl,rfl,hn,hr⟩
   ·simp [hn] at hr
structure AY where
 f:Nat→Value
 one:∀i,(f i).oneCell'=true
 text:∃s,f 13= .string s∧f 40= .int .i64 (s.size:Int)
 files:∃a n c,f 14= .slice a n c∧f 41= .int .i64 (n:Int)
 up:∃a n c,f 34= .slice a n c∧f 42= .int .i64 (n:Int)∧(1≤n→∃b q,a=some ⟨b,q,none⟩∧f 70= .pointer (some ⟨b,q,none⟩)∧f 71= .pointer (some ⟨b,q + 1,none⟩))
 P:World→Prop
 base:Nat
 st:∀w w',P w→(∀b,b < base→w'.heap[b]? =w.heap[b]?)→P w'
 cl:∃a n c,f 46= .slice a n c∧f 47= .int .i64 (n:Int)
 rem:∀i m,i=5∨i=11∨i=16→f i= .int .i64 m→f (40 + i)= .int .i64 (m.tmod 12)
def akW (f:Nat→Value) (t:Nat):Prop:=match t with
 | 36=> f 14≠ .slice none 0 0
 | 37=> f 14≠ .slice none 0 0∧okV f 1760
 | 38=> f 14≠ .slice none 0 0∧okV f 1760∧okV f 3561
 | 39=> f 14≠ .slice none 0 0∧okV f 1760∧f 61=f 60
 | 40=> f 14≠ .slice none 0 0∧okV f 1760∧okV f 1761
 | _=> True
def okP (F:AY) (i:Nat):Prop:=∀x,wL i=some x→∃b q,F.f (i % 100)= .pointer (some ⟨b,q,none⟩)∧∀w,F.P w→w.cell? ⟨b,q,none⟩=some (.bool x)
structure okA (F:AY) (i:Nat):Prop where
 v:okV F.f i
 t:i % 100=13→okV F.f (i + 27)
 n:i % 100=14→okV F.f (i + 27)
 c:i % 100=14→akW F.f (i / 100)
 u:i % 100=34→okV F.f (i + 8)
 q:i % 100=34→okP F (i + 36)∧okP F (i + 37)
 m:i % 100=46→okV F.f (i + 1)
 p:i % 100=70∨i % 100=71→okP F i
theorem qB {F:AY} {i:Nat} (h:okV F.f i) (h1:i % 100≠13) (h2:i % 100≠14) (h3:i % 100≠34) (h4:i % 100≠46) (h5:i % 100≠70) (h6:i % 100≠71):okA F i:=⟨h,fun e=> absurd e h1,fun e=> absurd e h2,fun e=> absurd e h2,fun e=> absurd e h3,fun e=> absurd e h3,fun e=> absurd e h4,fun e=> e.elim (fun e=> absurd e h5) fun e=> absurd e h6⟩
theorem aoa (F:AY) {i:Nat} {op:BinOp} {left:Bool} {n:Int} {r:UA} (hi:okA F i) (h:abv i op left n=some r):
  (∀j,r= .u j→okA F j)∧∃m:Int,F.f (i % 100)= .int .i64 m∧opI op (bif left then m else n) (bif left then n else m)=some (akk (fun j=> F.f (j % 100)) r):=by
 unfold abv at h
 cases hs:lU (Nat.mod i 100) with
 | false=> rw [hs] at h;cases h
 | true=>
  rw [hs] at h
  have h:(match lK (i / 100) with
   | none=> none
   | some s=> opA s i op left n)=some r:=h
  cases hso:lK (i / 100) with
  | none=> rw [hso] at h;cases h
  | some s=>
   rw [hso] at h
   obtain ⟨m,h1,h2,h3,h4⟩:=hi.v hs s hso
   rcases akV h2 h with ⟨b,rfl,hb⟩ | ⟨rfl,rfl,rfl,hr⟩
   ·exact ⟨fun j e=> (by cases e),m,h1,hb⟩
   ·unfold ae8 at hr
    cases hmd:s.md with
    | some q=>
     rw [hmd] at hr
     have hr:=Option.some.inj hr
     subst hr
     refine ⟨fun j e=> (by cases e),m,h1,?_⟩
     show some (Value.int .i64 (m.tmod 12))=some (Value.int .i64 q)
     rw [h2.2.2.2 q hmd]
    | none=>
     rw [hmd] at hr
     cases hrm:s.rm with
     | none=> rw [hrm] at hr;cases hr
     | some t=>
      rw [hrm] at hr
      have hr:=Option.some.inj hr
      subst hr
      obtain ⟨hk,q,hq,hok,hq1,hq2⟩:=h3 t hrm
      have hf:=F.rem (i % 100) m hk h1
      have e1:Nat.add (Nat.mul 100 t) (Nat.add 40 (Nat.mod i 100))=100 * t + (40 + i % 100):=rfl
      have e2:(100 * t + (40 + i % 100)) % 100=40 + i % 100:=by omega
      have e3:(100 * t + (40 + i % 100)) / 100=t:=by omega
      refine ⟨fun j e=> ?_,m,h1,?_⟩
      ·injection e with e
       subst e
       rw [e1]
       refine qB (fun _ s' hs'=> ?_) (by omega) (by omega) (by omega) (by omega) (by omega) (by omega)
       rw [e3,hq] at hs'
       have hs':=Option.some.inj hs'
       subst hs'
       rw [e2]
       exact ⟨_,hf,hok,fun t' ht=> (by rw [hq1] at ht;cases ht),fun k hk=> (by rw [hq2] at hk;cases hk)⟩
      ·show some (Value.int .i64 (m.tmod 12))=some (F.f (Nat.add (Nat.mul 100 t) (Nat.add 40 (Nat.mod i 100)) % 100))
       rw [e1,e2,hf]
theorem aob {a b:Int} {o:BinOp} {c:Bool} (h:(o= .eql∧c=decide (a=b))∨(o= .neq∧c=decide (¬a=b))):opI o a b=some (.bool c):=by
 rcases h with ⟨rfl,rfl⟩ | ⟨rfl,rfl⟩
 ·show some (Value.bool (a==b))=_
  rw [show (a==b)=decide (a=b) by rw [Bool.eq_iff_iff];simp]
 ·show some (Value.bool (a !=b))=_
  rw [show (a !=b)=decide (¬a=b) by rw [Bool.eq_iff_iff];simp]
theorem Ym {op:BinOp} {i j:Nat} {b:Bool} (h:abw op i j=some b):∃c,eqU i j=some c∧((op= .eql∧b=c)∨(op= .neq∧b= !c)):=by
 cases op <;> first | (cases h;done) | skip
 ·exact ⟨b,h,.inl ⟨rfl,rfl⟩⟩
 ·exact ⟨!b,mO h,.inr ⟨rfl,by simp⟩⟩
theorem aoc (F:AY) {i j:Nat} {op:BinOp} {b:Bool} (hi:okA F i) (hj:okA F j) (hn:∀k,lU k=true→k=i % 100→∃m,F.f k= .int .i64 m) (h:abw op i j=some b):
  (∃m n:Int,F.f (i % 100)= .int .i64 m∧F.f (j % 100)= .int .i64 n∧opI op m n=some (.bool b))∨∃s,F.f (i % 100)= .string s∧F.f (j % 100)= .string s∧((op= .eql∧b=true)∨(op= .neq∧b=false)):=by
 obtain ⟨c,h1,h2⟩:=Ym h
 unfold eqU at h1
 cases he:Nat.beq (Nat.mod i 100) (Nat.mod j 100) with
 | true=>
  rw [he] at h1
  have he:i % 100=j % 100:=Nat.eq_of_beq_eq_true he
  have h1:(bif (bif lU (Nat.mod i 100) then true else Nat.beq (Nat.mod i 100) 13) then some true else none)=some c:=h1
  cases hs:lU (Nat.mod i 100) with
  | true=>
   rw [hs] at h1
   have h1:=Option.some.inj h1
   subst h1
   obtain ⟨m,hm⟩:=hn _ hs rfl
   have hm:F.f (i % 100)= .int .i64 m:=hm
   refine .inl ⟨m,m,hm,by rw [←he];exact hm,aob ?_⟩
   rcases h2 with ⟨rfl,rfl⟩ | ⟨rfl,rfl⟩
   ·exact .inl ⟨rfl,by simp⟩
   ·exact .inr ⟨rfl,by simp⟩
  | false=>
   rw [hs] at h1
   have h1:(bif Nat.beq (Nat.mod i 100) 13 then some true else none)=some c:=h1
   cases h13:Nat.beq (Nat.mod i 100) 13 with
   | false=> rw [h13] at h1;cases h1
   | true=>
    rw [h13] at h1
    have h1:=Option.some.inj h1
    subst h1
    have h13:i % 100=13:=Nat.eq_of_beq_eq_true h13
    obtain ⟨s,hs,_⟩:=F.text
    refine .inr ⟨s,by rw [h13];exact hs,by rw [←he,h13];exact hs,?_⟩
    rcases h2 with ⟨rfl,rfl⟩ | ⟨rfl,rfl⟩
    ·exact .inl ⟨rfl,rfl⟩
    ·exact .inr ⟨rfl,rfl⟩
 | false=>
  rw [he] at h1
  have h1:(bif (bif lU (Nat.mod i 100) then lU (Nat.mod j 100) else false) then (match lK (i / 100),lK (j / 100) with
   | some s,some t=> bif (bif dfS s (Nat.mod j 100) then true else bif dfS t (Nat.mod i 100) then true else bif mdS s t then true else bif Rx s.hi t.lo then true else Rx t.hi s.lo) then some false else none
   | _,_=> none) else none)=some c:=h1
  cases hsi:lU (Nat.mod i 100) with
  | false=> rw [hsi] at h1;cases h1
  | true=>
  cases hsj:lU (Nat.mod j 100) with
  | false=> rw [hsi,hsj] at h1;cases h1
  | true=>
  rw [hsi,hsj] at h1
  cases hi':lK (i / 100) with
  | none=> rw [hi'] at h1;cases h1
  | some s=>
  cases hj':lK (j / 100) with
  | none=> rw [hi',hj'] at h1;cases h1
  | some t=>
  rw [hi',hj'] at h1
  have h1:(bif (bif dfS s (Nat.mod j 100) then true else bif dfS t (Nat.mod i 100) then true else bif mdS s t then true else bif Rx s.hi t.lo then true else Rx t.hi s.lo) then some false else none)=some c:=h1
  obtain ⟨m,a1,a2,_,a4⟩:=hi.v hsi s hi'
  obtain ⟨n,b1,b2,_,b4⟩:=hj.v hsj t hj'
  have key:m≠n∧c=false:=by
   cases d1:dfS s (Nat.mod j 100) with
   | true=>
    rw [d1] at h1
    have h1:=Option.some.inj h1
    refine ⟨?_,h1.symm⟩
    unfold dfS at d1
    split at d1
    ·rename_i k hk
     have:=Nat.eq_of_beq_eq_true d1
     intro e
     subst e
     exact a4 k hk (by rw [this];exact b1)
    ·cases d1
   | false=>
   cases d2:dfS t (Nat.mod i 100) with
   | true=>
    rw [d1,d2] at h1
    have h1:=Option.some.inj h1
    refine ⟨?_,h1.symm⟩
    unfold dfS at d2
    split at d2
    ·rename_i k hk
     have:=Nat.eq_of_beq_eq_true d2
     intro e
     subst e
     exact b4 k hk (by rw [this];exact a1)
    ·cases d2
   | false=>
   rw [d1,d2] at h1
   have h1:(bif (bif mdS s t then true else bif Rx s.hi t.lo then true else Rx t.hi s.lo) then some false else none)=some c:=h1
   cases d3:mdS s t with
   | true=>
    rw [d3] at h1
    have h1:=Option.some.inj h1
    refine ⟨?_,h1.symm⟩
    unfold mdS at d3
    split at d3
    ·rename_i x y hx hy
     rw [Fb] at d3
     have e1:=a2.2.2.2 _ hx
     have e2:=b2.2.2.2 _ hy
     intro e
     subst e
     rw [e1] at e2
     simp [e2] at d3
    ·cases d3
   | false=>
   rw [d3,rV,rV] at h1
   have h1:(bif (bif decide (s.hi < t.lo) then true else decide (t.hi < s.lo)) then some false else none)=some c:=h1
   have r1:=a2.1
   have r2:=a2.2.1
   have r3:=b2.1
   have r4:=b2.2.1
   by_cases d4:s.hi < t.lo
   ·simp only [d4,decide_true,cond_true] at h1
    exact ⟨by omega,(Option.some.inj h1).symm⟩
   ·by_cases d5:t.hi < s.lo
    ·simp only [d4,d5,decide_true,decide_false,cond_true,cond_false] at h1
     exact ⟨by omega,(Option.some.inj h1).symm⟩
    ·simp [d4,d5] at h1
  obtain ⟨k1,rfl⟩:=key
  refine .inl ⟨m,n,a1,b1,aob ?_⟩
  rcases h2 with ⟨rfl,rfl⟩ | ⟨rfl,rfl⟩
  ·exact .inl ⟨rfl,by simp [k1]⟩
  ·exact .inr ⟨rfl,by simp [k1]⟩
theorem aiy (F:AY) {i j k:Nat} (hi:okA F i) (h:afb i j=some k):okA F k∧∃b q n c,F.f (i % 100)= .slice (some ⟨b,q,none⟩) n c∧j < n∧F.f (k % 100)= .pointer (some ⟨b,q + j,none⟩):=by
 unfold afb at h
 cases h1:Nat.beq (Nat.mod i 100) 34 with
 | false=> rw [h1] at h;cases h
 | true=>
 cases h2:Nat.ble 41 (Nat.div i 100) with
 | false=> rw [h1,h2] at h;cases h
 | true=>
 cases h3:Nat.ble (Nat.div i 100) 44 with
 | false=> rw [h1,h2,h3] at h;cases h
 | true=>
 cases h4:Nat.ble j 1 with
 | false=> rw [h1,h2,h3,h4] at h;cases h
 | true=>
 rw [h1,h2,h3,h4] at h
 have h:=Option.some.inj h
 subst h
 have h1:i % 100=34:=Nat.eq_of_beq_eq_true h1
 have h2:41≤i / 100:=Nat.le_of_ble_eq_true h2
 have h3:i / 100≤44:=Nat.le_of_ble_eq_true h3
 have h4:j≤1:=Nat.le_of_ble_eq_true h4
 have e:Nat.add i (Nat.add 36 j)=i + (36 + j):=rfl
 rw [e]
 obtain ⟨a,n,c,hs,hl,hp⟩:=F.up
 have hu:=hi.u h1
 have e1:(i + 8) % 100=42:=by omega
 have hn:n=2:=by
  have key:∀t,41≤t→t≤44→lK t=some ⟨2,2,[],none,none,none⟩:=by
   intro t a b
   have:t=41∨t=42∨t=43∨t=44:=by omega
   rcases this with rfl | rfl | rfl | rfl <;> rfl
  obtain ⟨m,a1,a2,_⟩:=hu (by rw [e1];rfl) _ (key ((i + 8) / 100) (by omega) (by omega))
  rw [e1,hl] at a1
  injection a1 with _ a1
  have b1:(2:Int)≤m:=a2.1
  have b2:m≤2:=a2.2.1
  omega
 obtain ⟨b,q,rfl,p0,p1⟩:=hp (by omega)
 obtain ⟨q0,q1⟩:=hi.q h1
 have:j=0∨j=1:=by omega
 rcases this with rfl | rfl
 ·have e2:(i + (36 + 0)) % 100=70:=by omega
  refine ⟨⟨fun hs=> ?_,fun e=> ?_,fun e=> ?_,fun e=> ?_,fun e=> ?_,fun e=> ?_,fun e=> ?_,fun _=> q0⟩,b,q,n,c,by rw [h1];exact hs,by omega,by rw [e2];exact p0⟩
  ·rw [e2] at hs
   cases hs
  all_goals omega
 ·have e2:(i + (36 + 1)) % 100=71:=by omega
  refine ⟨⟨fun hs=> ?_,fun e=> ?_,fun e=> ?_,fun e=> ?_,fun e=> ?_,fun e=> ?_,fun e=> ?_,fun _=> q1⟩,b,q,n,c,by rw [h1];exact hs,by omega,by rw [e2];exact p1⟩
  ·rw [e2] at hs
   cases hs
  all_goals omega
theorem aod (F:AY) {i:Nat} {x:Bool} (hi:okA F i) (h:wL i=some x):∃b q,F.f (i % 100)= .pointer (some ⟨b,q,none⟩)∧∀w,F.P w→w.cell? ⟨b,q,none⟩=some (.bool x):=by
 have hs:i % 100=70∨i % 100=71:=by
  unfold wL at h
  cases h1:Nat.beq (Nat.mod i 100) 70 with
  | true=> exact .inl (Nat.eq_of_beq_eq_true h1)
  | false=>
   rw [h1] at h
   cases h2:Nat.beq (Nat.mod i 100) 71 with
   | true=> exact .inr (Nat.eq_of_beq_eq_true h2)
   | false=> rw [h2] at h;cases h
 exact hi.p hs x h
@[instance_reducible] def TM : fE where
 live _:=false
 val _:= .bool false
 one _ h:=by cases h
 c _ _ _ _ _ h:=by cases h
 u _ _ _ _ h:=by cases h
 l _ _ h:=by cases h
 n _ _ h:=by cases h
 P _:=True
 base:=0
 st _ _ _ _:=trivial
 a _ _ _ h:=by cases h
 p _ _ h:=by cases h
open Classical in
@[instance_reducible] def oM (F : AY) (hn : ∀ k, lU k = true → ∃ m, F.f k = .int .i64 m) : fE where
 P:=F.P
 base:=F.base
 st:=F.st
 a i j k hi h:=⟨decide_eq_true (aiy F (of_decide_eq_true hi) h).1,(aiy F (of_decide_eq_true hi) h).2⟩
 p i x hi h:=aod F (of_decide_eq_true hi) h
 live i:=decide (okA F i)
 val i:=F.f (i % 100)
 one i _:=F.one _
 c i op left n r hi h:=by
  obtain ⟨h1,m,h2,h3⟩:=aoa F (of_decide_eq_true hi) h
  refine ⟨?_,m,h2,h3⟩
  cases r with
  | u j=> exact decide_eq_true (h1 j rfl)
  | _=> rfl
 u op i j b hi hj h:=aoc F (of_decide_eq_true hi) (of_decide_eq_true hj) (fun k hk _=> hn k hk) h
 l i j hi h:=by
  unfold ae9 at h
  cases hb:Nat.beq (Nat.mod i 100) 13 with
  | false=> rw [hb] at h;cases h
  | true=>
   rw [hb] at h
   have h:=Option.some.inj h
   subst h
   have hb:i % 100=13:=Nat.eq_of_beq_eq_true hb
   have h2:=(of_decide_eq_true hi).t hb
   have e:Nat.add i 27=i + 27:=rfl
   rw [e]
   obtain ⟨s,hs,hl⟩:=F.text
   refine ⟨decide_eq_true (qB h2 (by omega) (by omega) (by omega) (by omega) (by omega) (by omega)),s,by rw [hb];exact hs,?_⟩
   rw [show (i + 27) % 100=40 by omega]
   exact hl
 n i j hi h:=by
  unfold afa at h
  cases hb:Nat.beq (Nat.mod i 100) 14 with
  | true=>
   rw [hb] at h
   have h:=Option.some.inj h
   subst h
   have hb:i % 100=14:=Nat.eq_of_beq_eq_true hb
   have h2:=(of_decide_eq_true hi).n hb
   have e:Nat.add i 27=i + 27:=rfl
   rw [e]
   obtain ⟨a,n,c,hs,hl⟩:=F.files
   refine ⟨decide_eq_true (qB h2 (by omega) (by omega) (by omega) (by omega) (by omega) (by omega)),a,n,c,by rw [hb];exact hs,?_⟩
   rw [show (i + 27) % 100=41 by omega]
   exact hl
  | false=>
   rw [hb] at h
   have h:(bif Nat.beq (Nat.mod i 100) 34 then some (Nat.add i 8) else bif Nat.beq (Nat.mod i 100) 46 then some (Nat.add i 1) else none)=some j:=h
   cases hc:Nat.beq (Nat.mod i 100) 34 with
   | false=>
    rw [hc] at h
    have h:(bif Nat.beq (Nat.mod i 100) 46 then some (Nat.add i 1) else none)=some j:=h
    cases hd:Nat.beq (Nat.mod i 100) 46 with
    | false=> rw [hd] at h;cases h
    | true=>
     rw [hd] at h
     have h:=Option.some.inj h
     subst h
     have hd:i % 100=46:=Nat.eq_of_beq_eq_true hd
     have h2:=(of_decide_eq_true hi).m hd
     have e:Nat.add i 1=i + 1:=rfl
     rw [e]
     obtain ⟨a,n,c,hs,hl⟩:=F.cl
     refine ⟨decide_eq_true (qB h2 (by omega) (by omega) (by omega) (by omega) (by omega) (by omega)),a,n,c,by rw [hd];exact hs,?_⟩
     rw [show (i + 1) % 100=47 by omega]
     exact hl
   | true=>
    rw [hc] at h
    have h:=Option.some.inj h
    subst h
    have hc:i % 100=34:=Nat.eq_of_beq_eq_true hc
    have h2:=(of_decide_eq_true hi).u hc
    have e:Nat.add i 8=i + 8:=rfl
    rw [e]
    obtain ⟨a,n,c,hs,hl,_⟩:=F.up
    refine ⟨decide_eq_true (qB h2 (by omega) (by omega) (by omega) (by omega) (by omega) (by omega)),a,n,c,by rw [hc];exact hs,?_⟩
    rw [show (i + 8) % 100=42 by omega]
    exact hl
open Go.RowKit Go.Shelf
structure agn (F:AY) [fE]:Prop where
 val:∀i,fE.val i=F.f (i % 100)
 live:∀i,fE.live i=true↔okA F i
open Classical in
theorem LG (F:AY) (hn:∀k,lU k=true→∃m,F.f k= .int .i64 m): @agn F (oM F hn):=by
 letI:=oM F hn
 exact ⟨fun _=> rfl,fun i=> decide_eq_true_iff⟩
def xs (F:AY):Array Value:=((List.range 35).map F.f).toArray
def need (F:AY) (p:Nat×CV):Prop:=match p.2 with
 | .u i=> F.f (i % 100)=F.f p.1∧okA F i
 | .v v=> F.f p.1=v
 | _=> False
def needs (F:AY) (l:List (Nat×CV)):Prop:=∀p∈l,need F p
theorem zi (j:Nat):∀(l:List (Nat×CV)),ni j l= .u j∨(j,ni j l)∈l
 | []=> .inl rfl
 | p::l=> by
  unfold ni
  cases h:Nat.beq p.1 j with
  | true=>
   have:p.1=j:=Nat.eq_of_beq_eq_true h
   subst this
   exact .inr (List.mem_cons_self ..)
  | false=> exact (zi j l).imp id fun h=> List.mem_cons_of_mem _ h
theorem Jt {i:Nat} (h:i / 100=0):wL i=none:=by
 unfold wL
 rw [show Nat.div i 100=0 from h]
 cases Nat.beq (Nat.mod i 100) 70 <;> cases Nat.beq (Nat.mod i 100) 71 <;> rfl
theorem acV (F:AY) {j:Nat} (h:j < 40):okA F j:=by
 have h0:j / 100=0:=by omega
 have h1:∀k,k < 100→okV F.f k:=fun k hk _ s hs=> by
  rw [show k / 100=0 by omega] at hs
  cases hs
 refine ⟨h1 j (by omega),fun _=> h1 _ (by omega),fun _=> h1 _ (by omega),fun _=> ?_,fun _=> h1 _ (by omega),fun _=> ⟨fun x hx=> ?_,fun x hx=> ?_⟩,fun _=> h1 _ (by omega),fun _=> by omega⟩
 ·rw [h0]
  trivial
 ·rw [Jt (show (j + 36) / 100=0 by omega)] at hx
  cases hx
 ·rw [Jt (show (j + 37) / 100=0 by omega)] at hx
  cases hx
theorem xK (l:List (Nat×CV)):∀(k j i:Nat),i < k→(Yl l k j)[i]? =some (ni (j + i) l)
 | 0,_,_,h=> absurd h (Nat.not_lt_zero _)
 | k + 1,j,0,_=> rfl
 | k + 1,j,i + 1,h=> by
  rw [Yl,List.getElem?_cons_succ,xK l k (j + 1) i (by omega)]
  congr 2
  omega
theorem rW (l:List (Nat×CV)):∀(k j:Nat),(Yl l k j).length=k
 | 0,_=> rfl
 | k + 1,j=> by rw [Yl,List.length_cons,rW l k]
section
variable {F : AY} [fE] (hU : agn F) {σ : Nm}
include hU
theorem QJ {l:List (Nat×CV)} (hl:needs F l) {j:Nat} (hj:j < 35):VR σ (ni j l) (F.f j)∧iQ (ni j l)=true:=by
 rcases zi j l with h | h
 ·rw [h]
  have:=VR.u (σ:=σ) j ((hU.live j).2 (acV F (by omega)))
  rw [hU.val,Nat.mod_eq_of_lt (by omega)] at this
  exact ⟨this,rfl⟩
 ·have h2:=hl _ h
  generalize ni j l=c at h2 ⊢
  unfold need at h2
  cases c with
  | u i=>
   obtain ⟨e,ho⟩:=h2
   have:=VR.u (σ:=σ) i ((hU.live i).2 ho)
   rw [hU.val,e] at this
   exact ⟨this,rfl⟩
  | v v=>
   have h2:F.f j=v:=h2
   rw [h2]
   exact ⟨.v v (by rw [←h2];exact F.one j),rfl⟩
  | _=> exact h2.elim
theorem QK {l:List (Nat×CV)} (hl:needs F l) {j:Nat} (_hj:j < 35) {v:Value} (h:VR σ (ni j l) v):v=F.f j:=by
 rcases zi j l with h1 | h1
 ·rw [h1] at h
  rw [h.uv.1,hU.val,Nat.mod_eq_of_lt (by omega)]
 ·have h2:=hl _ h1
  generalize ni j l=c at h2 h
  unfold need at h2
  cases c with
  | u i=> rw [h.uv.1,hU.val];exact h2.1
  | v v'=> rw [h.val];exact Eq.symm (show F.f j=v' from h2)
  | _=> exact h2.elim
theorem Ju {l:List (Nat×CV)} (hl:needs F l):VR σ (.agg (aU l)) (.agg (xs F)):=by
 refine .agg _ _ (fun c hc=> ?_) (by simp [xs,aU,rW]) fun j c u hc hu=> ?_
 ·obtain ⟨j,hj,rfl⟩:=List.getElem_of_mem hc
  have hj':j < 35:=by simpa [aU,rW] using hj
  have:=xK l 35 0 j hj'
  rw [Nat.zero_add] at this
  have e:(aU l)[j]=ni j l:=Option.some.inj ((List.getElem?_eq_getElem hj).symm.trans this)
  have:=(QJ hU (σ:=fun _=> none) hl hj').2
  rw [←e] at this
  exact this
 ·have hj:j < 35:=by
   have:=(List.getElem?_eq_some_iff.1 hc).1
   simpa [aU,rW] using this
  have:=xK l 35 0 j hj
  rw [Nat.zero_add] at this
  have e:ni j l=c:=Option.some.inj (this.symm.trans hc)
  have e2:F.f j=u:=by
   unfold xs at hu
   rw [List.getElem?_toArray,List.getElem?_map,List.getElem?_range hj] at hu
   exact Option.some.inj hu
  rw [←e,←e2]
  exact (QJ hU hl hj).1
theorem Yn {l:List (Nat×CV)} (hl:needs F l) {v:Value} (h:VR σ (.agg (aU l)) v):v= .agg (xs F):=by
 obtain ⟨vs,rfl,hr,_⟩:=h.Dw
 congr 1
 have hlen:vs.size=35:=by
  have:=hr.1
  simpa [aU,rW] using this
 apply Array.ext
 ·rw [hlen];simp [xs]
 ·intro j h1 h2
  have hj:j < 35:=by rw [←hlen];exact h1
  have hg:=xK l 35 0 j hj
  rw [Nat.zero_add] at hg
  have:=QK hU hl hj (hr.2 j _ vs[j] hg (by rw [Array.getElem?_toList];exact Array.getElem?_eq_getElem h1))
  rw [this]
  simp [xs]
end
end Ci
namespace Ci
open Go.RowKit Go.Shelf
structure GX (F:AY) (rt:Bool) [fE] (w0:Base):Prop where
 gb:GB w0
 rin:∀(vals:Array Value) (w:World),(callFunc 8 vals).run Tryz.prog w= .ok (.enter 8 vals) w
 right:∀w,dO w0 w→Calls Tryz.prog 8 #[.agg (xs F)] w fun e w'=> e= .returned (.bool rt)∧Below w.heap.size w w'
 cin:∀(vals:Array Value) (w:World),(callFunc 60 vals).run Tryz.prog w= .ok (.enter 60 vals) w
 clone:∀(w:World) (n:Nat),dO w0 w→F.f 14≠ .slice none 0 0→F.f 41= .int .i64 (n:Int)→n≤2→Calls Tryz.prog 60 #[F.f 14] w fun e w'=> ∃(g:Nat) (vals:Array Value) (T:TypeId) (k:Nat),e= .returned (.slice (some ⟨g,0,none⟩) n k)∧w.heap.size≤g∧w'.heap[g]? =some (.cells vals T (0,0))∧n≤k∧k≤vals.size∧k≤maxLen∧(∀j,j < n→vals[j]? =some (F.f (60 + j)))∧Below w.heap.size w w'
section
variable {F : AY} [fE] (hU : agn F) {rt : Bool}
include hU
theorem aoe {l:List (Nat×CV)} (hl:needs F l):iP Tryz.prog (GX F rt) (xR rt (aU l)):=by
 intro f args H nx v H' nx' h w0 σ w vals hg hr hL
 obtain ⟨h1,h2⟩:=aC (show fP (Bool.and (Nat.beq f 8) (qA args [.agg (aU l)])) (some (dG.ok (.v (.bool rt)) H nx))=some (.ok v H' nx') from h)
 obtain ⟨h3,h4⟩:=and_true h1
 have h3:=ay h3
 have h4:=pq h4
 subst h3 h4
 obtain ⟨e1,e2,e3⟩:=bU (Option.some.inj h2)
 subst e1 e2 e3
 have hv:vals= #[.agg (xs F)]:=by
  obtain ⟨x,r,e,h5,h6⟩:=hL.cons_inv
  have:=h6.bg
  subst this
  rw [Yn hU hl h5] at e
  apply Array.ext'
  exact e
 rw [hv]
 exact ⟨hg.rin _ w,kW hr (.v _ rfl) (hg.right w hr.below)⟩
theorem Fe {n:Nat} {cs:List CV} {H H':Tr aP} {nx nx':Nat} {v:CV} (hc:clo H nx cs=some (.ok v H' nx')) (hn:F.f 41= .int .i64 (n:Int)) (hlen:cs.length=n) (h2:n≤2) (hnn:F.f 14≠ .slice none 0 0)
  {w0:Base} {σ:Nm} {w:World} (hg:GX F rt w0) (hr:R w0 σ H nx w) (hcs:∀(j:Nat) (c:CV),cs[j]? =some c→VR (um σ nx ⟨0,0,0⟩) c (F.f (60 + j))∧∃i,c= .u i):
  Calls Tryz.prog 60 #[F.f 14] w fun e w'=> ∃x,e= .returned x∧After w0 σ nx v H' nx' x w':=by
 refine (hg.clone w n hr.below hnn hn h2).mono ?_
 rintro e w' ⟨g,vals,T,k,rfl,hge,hgv,hnk,hks,hkm,hel,hb⟩
 injection (show some (dG.ok (.s nx 0 (len cs) (.op 1 (len cs))) (H.put nx (.cl .any cs)) (Nat.succ nx))=some (.ok v H' nx') from hc) with hc
 obtain ⟨rfl,rfl,rfl⟩:=bU hc
 have hr':=hr.keep hb
 have hno:=hr'.none
 have hle:=jg (σ:=σ) (l:=nx) ⟨g,0,vals.size⟩ hno
 have hnm:=hr'.name (w':=w') (H':=H.put nx (.cl .any cs)) (nx':=Nat.succ nx) (l:=nx) (c:=⟨g,0,vals.size⟩) (b:= .cl .any cs) hno (Nat.lt_succ_self _) (Nat.le_succ _) (dR _ _ _) (fun j hj=> dK _ _ hj) rfl rfl rfl (Nat.le_refl _)
  ⟨fun hF=> by have h1:g < w0.w.heap.size:=w0.lt _ hF;have:=hr.below.size;omega,lt_of_block hgv⟩ (fun _ _ _=> rfl) (fun l' c' b' hl' hb' e=> by
   have:=(hr.lo l' c' hl').2
   have e:c'.blk=g:=e
   omega)
  ⟨vals,T,hgv,by rw [hlen];show n≤vals.size;omega,Nat.zero_add _,trivial,fun j y hy=> by
   obtain ⟨q1,i,rfl⟩:=hcs j y hy
   have hj:j < n:=by rw [←hlen];exact (List.getElem?_eq_some_iff.1 hy).1
   refine ⟨F.f (60 + j),?_,?_,rfl⟩
   ·rw [Nat.zero_add]
    exact hel j hj
   ·obtain ⟨e1,e2⟩:=q1.uv
    rw [e1]
    exact .u i e2⟩
 refine ⟨_,rfl,_,hle,fun j hj=> lu σ _ (by omega),hnm,Nat.le_succ _,?_⟩
 rw [len_eq,hlen]
 exact .so 0 n 1 n k (jS _ _ _) hnk hnk (by rw [Nat.zero_add,Nat.mul_one];exact hks) hkm
theorem aof:iP Tryz.prog (GX F rt) xC:=by
 intro f args H nx v H' nx' h w0 σ w vals hg hr hL
 obtain ⟨h1,h2⟩:=aC (show fP (Nat.beq f 60) (match args with
  | [.u i]=> fP (Nat.beq (Nat.mod i 100) 14) (xC1 H nx (Nat.div i 100))
  | _=> none)=some _ from h)
 have h1:=ay h1
 subst h1
 refine ⟨hg.cin _ w,?_⟩
 split at h2
 ·rename_i i
  obtain ⟨h3,h4⟩:=aC h2
  have h3:i % 100=14:=ay h3
  have h4:xC1 H nx (i / 100)=some (.ok v H' nx'):=h4
  obtain ⟨x,r,e,h5,h6⟩:=hL.cons_inv
  have:=h6.bg
  subst this
  obtain ⟨e1,e2⟩:=h5.uv
  rw [hU.val,h3] at e1
  subst e1
  have hv:vals= #[F.f 14]:=by
   apply Array.ext'
   exact e
  rw [hv]
  have ho:=(hU.live i).1 e2
  have hc:=ho.c h3
  have hn:=ho.n h3
  have e27:(i + 27) % 100=41:=by omega
  have e28:(i + 27) / 100=i / 100:=by omega
  have two:∀(k:Nat),lK (i / 100)=some ⟨k,k,[],none,none,none⟩→F.f 41= .int .i64 (k:Int):=by
   intro k hk
   obtain ⟨m,a1,a2,_⟩:=hn (by rw [e27];rfl) _ (by rw [e28];exact hk)
   rw [e27] at a1
   have b1:(k:Int)≤m:=a2.1
   have b2:m≤(k:Int):=a2.2.1
   rw [a1]
   congr 1
   omega
  have vu:∀(s:Nm) (q:Nat),okV F.f q→q % 100≠13→q % 100≠14→q % 100≠34→q % 100≠46→q % 100≠70→q % 100≠71→VR s (.u q) (F.f (q % 100)):=by
   intro s q hq a b c d e f
   have:=VR.u (σ:=s) q ((hU.live q).2 (qB hq a b c d e f))
   rw [hU.val] at this
   exact this
  generalize ht:i / 100=t at h4 hc two
  unfold xC1 at h4
  split at h4
  ·exact Fe hU h4 (two 0 rfl) rfl (by omega) hc hg hr fun j c hj=> by simp at hj
  ·obtain ⟨c1,c2⟩:=hc
   refine Fe hU h4 (two 1 rfl) rfl (by omega) c1 hg hr fun j c hj=> ?_
   match j,hj with
   | 0,hj=>
    injection hj with hj
    subst hj
    exact ⟨vu _ 1760 c2 (by decide) (by decide) (by decide) (by decide) (by decide) (by decide),_,rfl⟩
  ·obtain ⟨c1,c2,c3⟩:=hc
   refine Fe hU h4 (two 2 rfl) rfl (by omega) c1 hg hr fun j c hj=> ?_
   match j,hj with
   | 0,hj=>
    injection hj with hj
    subst hj
    exact ⟨vu _ 1760 c2 (by decide) (by decide) (by decide) (by decide) (by decide) (by decide),_,rfl⟩
   | 1,hj=>
    injection hj with hj
    subst hj
    exact ⟨vu _ 3561 c3 (by decide) (by decide) (by decide) (by decide) (by decide) (by decide),_,rfl⟩
  ·obtain ⟨c1,c2,c3⟩:=hc
   refine Fe hU h4 (two 2 rfl) rfl (by omega) c1 hg hr fun j c hj=> ?_
   match j,hj with
   | 0,hj=>
    injection hj with hj
    subst hj
    exact ⟨vu _ 1760 c2 (by decide) (by decide) (by decide) (by decide) (by decide) (by decide),_,rfl⟩
   | 1,hj=>
    injection hj with hj
    subst hj
    refine ⟨?_,_,rfl⟩
    rw [show F.f (60 + 1)=F.f 60 from c3]
    exact vu _ 1760 c2 (by decide) (by decide) (by decide) (by decide) (by decide) (by decide)
  ·obtain ⟨c1,c2,c3⟩:=hc
   refine Fe hU h4 (two 2 rfl) rfl (by omega) c1 hg hr fun j c hj=> ?_
   match j,hj with
   | 0,hj=>
    injection hj with hj
    subst hj
    exact ⟨vu _ 1760 c2 (by decide) (by decide) (by decide) (by decide) (by decide) (by decide),_,rfl⟩
   | 1,hj=>
    injection hj with hj
    subst hj
    exact ⟨vu _ 1761 c3 (by decide) (by decide) (by decide) (by decide) (by decide) (by decide),_,rfl⟩
  ·cases h4
 ·cases h2
theorem agp {l:List (Nat×CV)} (hl:needs F l):iP Tryz.prog (GX F rt) (akU rt (aU l)):=
 yY (aoe hU hl) (yY (aof hU) fun f args H nx v H' nx' h w0 σ w vals hg hr hL=> agl f args H nx v H' nx' h w0 σ w vals hg.gb hr hL)
theorem agq {l:List (Nat×CV)} (hl:needs F l) {w0:Base} {σ:Nm} {w:World} (hg:GX F rt w0) (hr:R w0 σ Js take0 w) {vs:List Value} (hv:fU σ (app opn.args [rU]) vs) (h:isOk (au rt (aU l))=true):
  Calls Tryz.prog 12 (vs ++ [Value.agg (xs F)]).toArray w fun e w'=> ∃cs o' n,e= .returned (.tuple #[.agg cs,o',.int .i64 n])∧cs.size=13∧(∀u∈cs.toList,u.oneCell'=true)∧o'.oneCell'=true∧dO w0 w'∧(isArg (au rt (aU l))=true→o'= .slice none 0 0∧n=1):=by
 unfold au at h ⊢
 cases hrc:rc Tryz.prog (akU rt (aU l)) 100000 60 12 (app opn.args [rU,.agg (aU l)]) Js take0 with
 | no=> rw [hrc] at h;cases h
 | ok v H' nx'=>
  rw [hrc] at h
  obtain ⟨cs,o,n,rfl,hlen,ho⟩:∃cs o n,v= .bH [.agg cs,o,.v (.int .i64 n)]∧len cs=13∧iQ o=true:=by
   unfold isOk at h
   split at h
   ·rename_i heq
    obtain ⟨h1,h2⟩:=and_true h
    exact ⟨_,_,_,(bU heq).1,ay h1,h2⟩
   ·cases h
  have hargs:fU σ (app opn.args [rU,.agg (aU l)]) ((vs ++ [Value.agg (xs F)]).toArray).toList:=by
   rw [List.toList_toArray,kU]
   rw [kU] at hv
   have:=hv.append (.cons (Ju hU hl) (.nil σ))
   rw [List.append_assoc] at this
   exact this
  refine (Jm mixed (agp hU hl) 100000 60 12 _ Js take0 _ H' nx' hrc w0 σ w _ hg hr hargs).2.mono ?_
  rintro e w' ⟨x,rfl,σ',_,_,hR,_,hx⟩
  obtain ⟨vs',rfl,hvs⟩:=hx.abX
  obtain ⟨y,r,e1,h1,h2⟩:=hvs.cons_inv
  obtain ⟨y2,r2,e2,h3,h4⟩:=h2.cons_inv
  obtain ⟨y3,r3,e3,h5,h6⟩:=h4.cons_inv
  have:=h6.bg
  subst this e3 e2
  obtain ⟨us,rfl,hus,hone⟩:=h1.Dw
  have e:vs'= #[.agg us,y2,.int .i64 n]:=by
   apply Array.ext'
   rw [e1,h5.val]
  subst e
  refine ⟨us,y2,n,rfl,?_,hus.ones hone,h3.one ho,hR.below,fun ha=> ?_⟩
  ·rw [←Array.length_toList,hus.1,←len_eq]
   exact hlen
  ·unfold isArg at ha
   split at ha
   ·rename_i heq
    have hq:=(bU heq).1
    injection hq with hq
    injection hq with _ hq
    injection hq with q1 hq
    injection hq with q2 _
    subst q1
    injection q2 with q2
    injection q2 with _ q2
    exact ⟨h3.val,q2⟩
   ·cases ha
end
end Ci
namespace Ci
open Go.RowKit Go.Shelf
structure qM where
 z:Nat→Int
 s:ByteArray
 fa:Option Addr
 fn:Nat
 fc:Nat
 fl:List Int
 ua:Option Addr
 un:Nat
 uc:Nat
 ul:List Bool
 b1:Bool
 b2:Bool
 hfl:fl.length=fn
 Xl:ul.length=un
 hua:1≤un→∃b q,ua=some ⟨b,q,none⟩
namespace qM
def ptr (x:qM) (j:Nat):Value:=match x.ua with
 | some a=> .pointer (some ⟨a.block,a.off + j,none⟩)
 | none=> .pointer none
def f (x:qM) (k:Nat):Value:=match k with
 | 13=> .string x.s
 | 14=> .slice x.fa x.fn x.fc
 | 19=> .bool x.b1
 | 25=> .bool x.b2
 | 34=> .slice x.ua x.un x.uc
 | 40=> .int .i64 (x.s.size:Int)
 | 41=> .int .i64 (x.fn:Int)
 | 42=> .int .i64 (x.un:Int)
 | 45=> .int .i64 ((x.z 5).tmod 12)
 | 46=> .slice x.fa x.fn x.fc
 | 47=> .int .i64 (x.fn:Int)
 | 51=> .int .i64 ((x.z 11).tmod 12)
 | 56=> .int .i64 ((x.z 16).tmod 12)
 | 60=> .int .i64 (x.fl.getD 0 0)
 | 61=> .int .i64 (x.fl.getD 1 0)
 | 70=> x.ptr 0
 | 71=> x.ptr 1
 | k=> .int .i64 (x.z k)
def P (x:qM) (w:World):Prop:=∀b q,x.ua=some ⟨b,q,none⟩→∀(j:Nat) (v:Bool),x.ul[j]? =some v→w.cell? ⟨b,q + j,none⟩=some (.bool v)
def base (x:qM):Nat:=match x.ua with
 | some a=> if x.un=0 then 0 else a.block + 1
 | none=> 0
def F (x:qM):AY where
 f:=x.f
 one i:=by unfold f;split <;> first | rfl | (unfold ptr;split <;> rfl)
 text:=⟨x.s,rfl,rfl⟩
 files:=⟨x.fa,x.fn,x.fc,rfl,rfl⟩
 up:=⟨x.ua,x.un,x.uc,rfl,rfl,fun h=> by
  obtain ⟨b,q,e⟩:=x.hua h
  refine ⟨b,q,e,?_,?_⟩
  ·show x.ptr 0=_
   unfold ptr
   rw [e]
   rfl
  ·show x.ptr 1=_
   unfold ptr
   rw [e]⟩
 P:=x.P
 base:=x.base
 st w w' h he b q e j v hv:=by
  have:=h b q e j v hv
  unfold World.cell? at this ⊢
  rw [show (⟨b,q + j,none⟩:Addr).block=b from rfl] at this ⊢
  have hn:x.un≠0:=fun h0=> by
   have hl:=x.Xl
   rw [h0] at hl
   rw [List.eq_nil_of_length_eq_zero hl] at hv
   simp at hv
  rw [he b (by unfold base;rw [e];simp only [hn,if_false];exact Nat.lt_succ_self b)]
  exact this
 cl:=⟨x.fa,x.fn,x.fc,rfl,rfl⟩
 rem i m h hm:=by
  rcases h with rfl | rfl | rfl <;> (injection hm with _ hm;subst hm;rfl)
theorem ints (x:qM) (k:Nat) (h:lU k=true):∃m,x.F.f k= .int .i64 m:=by
 show ∃m,x.f k= .int .i64 m
 unfold f
 split <;> first | exact ⟨_,rfl⟩ | (exact absurd h (by decide))
end qM
theorem notMem {m:Int}:∀{l:List Int},(∀n∈l,n≠m)→PI m l=false
 | [],_=> rfl
 | n::l,h=> by
  unfold PI
  rw [Fb,decide_eq_false (h n (List.mem_cons_self ..))]
  exact notMem fun k hk=> h k (List.mem_cons_of_mem _ hk)
def SO (t:Nat) (m:Int):Prop:=∃s,lK t=some s∧okS s m∧s.rm=none∧s.df=none
theorem s1 {m:Int} (h:0≤m∧m≤1099511627776):SO 1 m:=⟨_,rfl,⟨h.1,h.2,rfl,fun r h=> by cases h⟩,rfl,rfl⟩
theorem s2 {m:Int} (h:0≤m∧m≤1999∧m≠0∧m≠1∧m≠12∧m≠13∧m % 12=0):SO 2 m:=⟨_,rfl,⟨h.1,h.2.1,notMem (by simp;omega),fun r hr=> by rw [Int.tmod_eq_emod_of_nonneg h.1,←Option.some.inj hr];omega⟩,rfl,rfl⟩
theorem s3 {m:Int} (h:0≤m∧m≤1999∧m≠0∧m≠1∧m≠12∧m≠13∧m % 12=1):SO 3 m:=⟨_,rfl,⟨h.1,h.2.1,notMem (by simp;omega),fun r hr=> by rw [Int.tmod_eq_emod_of_nonneg h.1,←Option.some.inj hr];omega⟩,rfl,rfl⟩
theorem s4 {m:Int} (h:0≤m∧m≤1999∧m≠13∧m % 12=0):SO 4 m:=⟨_,rfl,⟨h.1,h.2.1,notMem (by simp;omega),fun r hr=> by rw [Int.tmod_eq_emod_of_nonneg h.1,←Option.some.inj hr];omega⟩,rfl,rfl⟩
theorem s5 {m:Int} (h:0≤m∧m≤1999∧m % 12=1):SO 5 m:=⟨_,rfl,⟨h.1,h.2.1,rfl,fun r hr=> by rw [Int.tmod_eq_emod_of_nonneg h.1,←Option.some.inj hr];omega⟩,rfl,rfl⟩
theorem s6 {m:Int} (h:0≤m∧m≤1999∧m≠13∧m % 12=1):SO 6 m:=⟨_,rfl,⟨h.1,h.2.1,notMem (by simp;omega),fun r hr=> by rw [Int.tmod_eq_emod_of_nonneg h.1,←Option.some.inj hr];omega⟩,rfl,rfl⟩
theorem s7 {m:Int} (h:1≤m∧m≤499):SO 7 m:=⟨_,rfl,⟨h.1,h.2,rfl,fun r h=> by cases h⟩,rfl,rfl⟩
theorem s8 {m:Int} (h:0≤m∧m≤499):SO 8 m:=⟨_,rfl,⟨h.1,h.2,rfl,fun r h=> by cases h⟩,rfl,rfl⟩
theorem s9 {m:Int} (h:2≤m∧m≤11):SO 9 m:=⟨_,rfl,⟨h.1,h.2,rfl,fun r h=> by cases h⟩,rfl,rfl⟩
theorem s10 {m:Int} (h:0≤m∧m≤1):SO 10 m:=⟨_,rfl,⟨h.1,h.2,rfl,fun r h=> by cases h⟩,rfl,rfl⟩
theorem s11 {m:Int} (h:0≤m∧m≤11∧m≠1):SO 11 m:=⟨_,rfl,⟨h.1,h.2.1,notMem (by simp;omega),fun r h=> by cases h⟩,rfl,rfl⟩
theorem s12 {m:Int} (h:1≤m∧m≤11):SO 12 m:=⟨_,rfl,⟨h.1,h.2,rfl,fun r h=> by cases h⟩,rfl,rfl⟩
theorem s13 {m:Int} (h:0≤m∧m≤99999):SO 13 m:=⟨_,rfl,⟨h.1,h.2,rfl,fun r h=> by cases h⟩,rfl,rfl⟩
theorem s14 {m:Int} (h:3≤m∧m≤199):SO 14 m:=⟨_,rfl,⟨h.1,h.2,rfl,fun r h=> by cases h⟩,rfl,rfl⟩
theorem s15 {m:Int} (h:0≤m∧m≤2):SO 15 m:=⟨_,rfl,⟨h.1,h.2,rfl,fun r h=> by cases h⟩,rfl,rfl⟩
theorem s16 {m:Int} (h:1≤m∧m≤2):SO 16 m:=⟨_,rfl,⟨h.1,h.2,rfl,fun r h=> by cases h⟩,rfl,rfl⟩
theorem s17 {m:Int} (h:0≤m∧m≤1073741824):SO 17 m:=⟨_,rfl,⟨h.1,h.2,rfl,fun r h=> by cases h⟩,rfl,rfl⟩
theorem s18 {m:Int} (h:0≤m∧m≤12∧m≠2):SO 18 m:=⟨_,rfl,⟨h.1,h.2.1,notMem (by simp;omega),fun r h=> by cases h⟩,rfl,rfl⟩
theorem s19 {m:Int} (h:0≤m∧m≤40):SO 19 m:=⟨_,rfl,⟨h.1,h.2,rfl,fun r h=> by cases h⟩,rfl,rfl⟩
theorem s20 {m:Int} (h:41≤m∧m≤200):SO 20 m:=⟨_,rfl,⟨h.1,h.2,rfl,fun r h=> by cases h⟩,rfl,rfl⟩
theorem jV {m:Int} (h:0≤m∧m≤200):SO 21 m:=⟨_,rfl,⟨h.1,h.2,rfl,fun r h=> by cases h⟩,rfl,rfl⟩
theorem s22 {m:Int} (h:1≤m∧m≤4):SO 22 m:=⟨_,rfl,⟨h.1,h.2,rfl,fun r h=> by cases h⟩,rfl,rfl⟩
theorem s23 {m:Int} (h:3≤m∧m≤4):SO 23 m:=⟨_,rfl,⟨h.1,h.2,rfl,fun r h=> by cases h⟩,rfl,rfl⟩
theorem s24 {m:Int} (h:0≤m∧m≤15):SO 24 m:=⟨_,rfl,⟨h.1,h.2,rfl,fun r h=> by cases h⟩,rfl,rfl⟩
theorem s25 {m:Int} (h:16≤m∧m≤100):SO 25 m:=⟨_,rfl,⟨h.1,h.2,rfl,fun r h=> by cases h⟩,rfl,rfl⟩
theorem s26 {m:Int} (h:0≤m∧m≤100):SO 26 m:=⟨_,rfl,⟨h.1,h.2,rfl,fun r h=> by cases h⟩,rfl,rfl⟩
theorem jW {m:Int} (h:0≤m∧m≤1999):SO 29 m:=⟨_,rfl,⟨h.1,h.2,rfl,fun r h=> by cases h⟩,rfl,rfl⟩
theorem s36 {m:Int} (h:0≤m∧m≤0):SO 36 m:=⟨_,rfl,⟨h.1,h.2,rfl,fun r h=> by cases h⟩,rfl,rfl⟩
theorem Y0 {m:Int} (h:1≤m∧m≤1):SO 37 m:=⟨_,rfl,⟨h.1,h.2,rfl,fun r h=> by cases h⟩,rfl,rfl⟩
theorem s38 {m:Int} (h:2≤m∧m≤2):SO 38 m:=⟨_,rfl,⟨h.1,h.2,rfl,fun r h=> by cases h⟩,rfl,rfl⟩
theorem s39 {m:Int} (h:2≤m∧m≤2):SO 39 m:=⟨_,rfl,⟨h.1,h.2,rfl,fun r h=> by cases h⟩,rfl,rfl⟩
theorem s40 {m:Int} (h:2≤m∧m≤2):SO 40 m:=⟨_,rfl,⟨h.1,h.2,rfl,fun r h=> by cases h⟩,rfl,rfl⟩
theorem s41 {m:Int} (h:2≤m∧m≤2):SO 41 m:=⟨_,rfl,⟨h.1,h.2,rfl,fun r h=> by cases h⟩,rfl,rfl⟩
theorem s42 {m:Int} (h:2≤m∧m≤2):SO 42 m:=⟨_,rfl,⟨h.1,h.2,rfl,fun r h=> by cases h⟩,rfl,rfl⟩
theorem s43 {m:Int} (h:2≤m∧m≤2):SO 43 m:=⟨_,rfl,⟨h.1,h.2,rfl,fun r h=> by cases h⟩,rfl,rfl⟩
theorem s44 {m:Int} (h:2≤m∧m≤2):SO 44 m:=⟨_,rfl,⟨h.1,h.2,rfl,fun r h=> by cases h⟩,rfl,rfl⟩
theorem Jv {m:Int} (h: -9223372036854775808≤m∧m≤ -1):SO 50 m:=⟨_,rfl,⟨h.1,h.2,rfl,fun r h=> by cases h⟩,rfl,rfl⟩
theorem s51 {m:Int} (h:1099511627777≤m∧m≤9223372036854775807):SO 51 m:=⟨_,rfl,⟨h.1,h.2,rfl,fun r h=> by cases h⟩,rfl,rfl⟩
theorem s52 {m:Int} (h:12≤m∧m≤9223372036854775807):SO 52 m:=⟨_,rfl,⟨h.1,h.2,rfl,fun r h=> by cases h⟩,rfl,rfl⟩
theorem s53 {m:Int} (h:100000≤m∧m≤9223372036854775807):SO 53 m:=⟨_,rfl,⟨h.1,h.2,rfl,fun r h=> by cases h⟩,rfl,rfl⟩
theorem s54 {m:Int} (h:2000≤m∧m≤9223372036854775807):SO 54 m:=⟨_,rfl,⟨h.1,h.2,rfl,fun r h=> by cases h⟩,rfl,rfl⟩
theorem s55 {m:Int} (h:20≤m∧m≤9223372036854775807):SO 55 m:=⟨_,rfl,⟨h.1,h.2,rfl,fun r h=> by cases h⟩,rfl,rfl⟩
theorem s56 {m:Int} (h:0≤m∧m≤19):SO 56 m:=⟨_,rfl,⟨h.1,h.2,rfl,fun r h=> by cases h⟩,rfl,rfl⟩
theorem NS {m:Int} (h:0≤m∧m≤11):SO 57 m:=⟨_,rfl,⟨h.1,h.2,rfl,fun r h=> by cases h⟩,rfl,rfl⟩
theorem s58 {m:Int} (h:1≤m∧m≤4):SO 58 m:=⟨_,rfl,⟨h.1,h.2,rfl,fun r h=> by cases h⟩,rfl,rfl⟩
theorem s59 {m:Int} (h: -9223372036854775808≤m∧m≤0):SO 59 m:=⟨_,rfl,⟨h.1,h.2,rfl,fun r h=> by cases h⟩,rfl,rfl⟩
theorem s60 {m:Int} (h:5≤m∧m≤9223372036854775807):SO 60 m:=⟨_,rfl,⟨h.1,h.2,rfl,fun r h=> by cases h⟩,rfl,rfl⟩
theorem s61 {m:Int} (h:0≤m∧m≤4):SO 61 m:=⟨_,rfl,⟨h.1,h.2,rfl,fun r h=> by cases h⟩,rfl,rfl⟩
theorem s62 {m:Int} (h:0≤m∧m≤199):SO 62 m:=⟨_,rfl,⟨h.1,h.2,rfl,fun r h=> by cases h⟩,rfl,rfl⟩
theorem s63 {m:Int} (h:200≤m∧m≤9223372036854775807):SO 63 m:=⟨_,rfl,⟨h.1,h.2,rfl,fun r h=> by cases h⟩,rfl,rfl⟩
theorem s64 {m:Int} (h:1073741825≤m∧m≤9223372036854775807):SO 64 m:=⟨_,rfl,⟨h.1,h.2,rfl,fun r h=> by cases h⟩,rfl,rfl⟩
theorem s65 {m:Int} (h:0≤m∧m≤3):SO 65 m:=⟨_,rfl,⟨h.1,h.2,rfl,fun r h=> by cases h⟩,rfl,rfl⟩
theorem s66 {m:Int} (h:4≤m∧m≤9223372036854775807):SO 66 m:=⟨_,rfl,⟨h.1,h.2,rfl,fun r h=> by cases h⟩,rfl,rfl⟩
theorem s67 {m:Int} (h: -9223372036854775808≤m∧m≤9223372036854775807∧m≠0):SO 67 m:=⟨_,rfl,⟨h.1,h.2.1,notMem (by simp;omega),fun r h=> by cases h⟩,rfl,rfl⟩
theorem s68 {m:Int} (h:0≤m∧m≤12):SO 68 m:=⟨_,rfl,⟨h.1,h.2,rfl,fun r h=> by cases h⟩,rfl,rfl⟩
theorem s69 {m:Int} (h:13≤m∧m≤9223372036854775807):SO 69 m:=⟨_,rfl,⟨h.1,h.2,rfl,fun r h=> by cases h⟩,rfl,rfl⟩
theorem s70 {m:Int} (h:10≤m∧m≤9223372036854775807):SO 70 m:=⟨_,rfl,⟨h.1,h.2,rfl,fun r h=> by cases h⟩,rfl,rfl⟩
theorem rX {F:AY} {i:Nat} {m:Int} (h:SO (i / 100) m) (hf:F.f (i % 100)= .int .i64 m):okV F.f i:=fun _ s hs=> by
 obtain ⟨s',h1,h2,h3,h4⟩:=h
 rw [h1] at hs
 have hs:=Option.some.inj hs
 subst hs
 exact ⟨m,hf,h2,fun t ht=> (by rw [h3] at ht;cases ht),fun k hk=> (by rw [h4] at hk;cases hk)⟩
theorem acW {m:Int} (h:0≤m):m.tmod 12=m % 12:=Int.tmod_eq_emod_of_nonneg h
section
variable {x : qM}
theorem nC {k:Nat} {n:Int} (hk:x.f k= .int .i64 (x.z k)) (h:x.z k=n):need x.F (k,.v (.int .i64 n)):=by
 show x.f k=_
 rw [hk,h]
theorem nN (h:x.f 14= .slice none 0 0):need x.F (14,.v (.slice none 0 0)):=h
theorem nA {k i:Nat} (e:i % 100=k) (h:okA x.F i):need x.F (k,.u i):=by
 subst e
 exact ⟨rfl,h⟩
theorem nU {k i:Nat} {t:Nat} (e:i % 100=k) (e2:i / 100=t) (hk:x.f k= .int .i64 (x.z k)) (hb:(k==13 || k==14 || k==34 || k==46 || k==70 || k==71)=false) (h:SO t (x.z k)):need x.F (k,.u i):=by
 subst e e2
 simp at hb
 exact nA rfl (qB (rX h hk) (by omega) (by omega) (by omega) (by omega) (by omega) (by omega))
theorem ahG {i t:Nat} (e:i % 100=5) (e2:i / 100=t) (h:x.z 11=x.z 5) (h2:SO t (x.z 5)):need x.F (11,.u i):=by
 refine ⟨?_,(nU e e2 rfl rfl h2).2⟩
 rw [e]
 show Value.int .i64 (x.z 5)=Value.int .i64 (x.z 11)
 rw [h]
theorem pG {i:Nat} (h1:i % 100=13∨i % 100=14∨i % 100=34) (t:i % 100=13→okV x.F.f (i + 27)) (n:i % 100=14→okV x.F.f (i + 27)∧akW x.F.f (i / 100)) (u:i % 100=34→okV x.F.f (i + 8)∧okP x.F (i + 36)∧okP x.F (i + 37)):okA x.F i:=
 ⟨fun hs=> by rcases h1 with h | h | h <;> (rw [h] at hs;cases hs),t,fun e=> (n e).1,fun e=> (n e).2,fun e=> (u e).1,fun e=> (u e).2,fun e=> by omega,fun e=> by omega⟩
theorem nT {i t:Nat} (e:i % 100=13) (e2:i / 100=t) (h:SO t (x.s.size:Int)):need x.F (13,.u i):=by
 subst e2
 exact nA e (pG (.inl e) (fun _=> rX (by rw [show (i + 27) / 100=i / 100 by omega];exact h) (by rw [show (i + 27) % 100=40 by omega];rfl)) (fun h=> by omega) fun h=> by omega)
theorem nF {i t:Nat} (e:i % 100=14) (e2:i / 100=t) (h:SO t (x.fn:Int)) (hc:akW x.F.f t):need x.F (14,.u i):=by
 subst e2
 exact nA e (pG (.inr (.inl e)) (fun h=> by omega) (fun _=> ⟨rX (by rw [show (i + 27) / 100=i / 100 by omega];exact h) (by rw [show (i + 27) % 100=41 by omega];rfl),hc⟩) fun h=> by omega)
theorem QL {i:Nat} (h:i / 100 < 41):wL i=none:=by
 unfold wL
 have h:Nat.div i 100 < 41:=h
 generalize Nat.div i 100=d at h
 cases Nat.beq (Nat.mod i 100) 70 <;> cases Nat.beq (Nat.mod i 100) 71 <;> simp only [cond_true,cond_false] <;> (try rfl) <;> (split <;> first | omega | rfl)
theorem nP {i t:Nat} (e:i % 100=34) (e2:i / 100=t) (ht:t < 41) (h:SO t (x.un:Int)):need x.F (34,.u i):=by
 subst e2
 refine nA e (pG (.inr (.inr e)) (fun h=> by omega) (fun h=> by omega) fun _=> ⟨rX (by rw [show (i + 8) / 100=i / 100 by omega];exact h) (by rw [show (i + 8) % 100=42 by omega];rfl),fun y hy=> ?_,fun y hy=> ?_⟩)
 ·rw [QL (by omega)] at hy
  cases hy
 ·rw [QL (by omega)] at hy
  cases hy
theorem WC {i t:Nat} {v0 v1:Bool} (e:i % 100=34) (e2:i / 100=t) (h:SO t (x.un:Int)) (hu:x.un=2) (h0:wL (i + 36)=some v0) (h1:wL (i + 37)=some v1) (hl:x.ul= [v0,v1]):need x.F (34,.u i):=by
 subst e2
 obtain ⟨b,q,ea⟩:=x.hua (by omega)
 refine nA e (pG (.inr (.inr e)) (fun h=> by omega) (fun h=> by omega) fun _=> ⟨rX (by rw [show (i + 8) / 100=i / 100 by omega];exact h) (by rw [show (i + 8) % 100=42 by omega];rfl),fun y hy=> ?_,fun y hy=> ?_⟩)
 ·rw [h0] at hy
  have hy:=Option.some.inj hy
  subst hy
  refine ⟨b,q,?_,fun w hw=> hw b q ea 0 v0 (by rw [hl];rfl)⟩
  rw [show (i + 36) % 100=70 by omega]
  show x.ptr 0=_
  unfold qM.ptr
  rw [ea]
  rfl
 ·rw [h1] at hy
  have hy:=Option.some.inj hy
  subst hy
  refine ⟨b,q + 1,?_,fun w hw=> hw b q ea 1 v1 (by rw [hl];rfl)⟩
  rw [show (i + 37) % 100=71 by omega]
  show x.ptr 1=_
  unfold qM.ptr
  rw [ea]
theorem nR {k i:Nat} (r:Nat) {t:Nat} {lo hi:Int} (e:i % 100=k) (e2:i / 100=t) (hk:x.f k= .int .i64 (x.z k)) (hs:k=5∨k=11∨k=16) (ht:lK t=some ⟨lo,hi,[],none,some r,none⟩) (hl:lo≤x.z k∧x.z k≤hi) (h0:0≤x.z k) (h:SO r (x.z k % 12)):need x.F (k,.u i):=by
 subst e e2
 refine nA rfl (qB (fun _ s hs'=> ?_) (by omega) (by omega) (by omega) (by omega) (by omega) (by omega))
 rw [ht] at hs'
 have hs':=Option.some.inj hs'
 subst hs'
 obtain ⟨q,q1,q2,q3,q4⟩:=h
 refine ⟨_,hk,⟨hl.1,hl.2,rfl,fun r h=> (by cases h)⟩,fun t' ht'=> ⟨hs,q,?_,?_,q3,q4⟩,fun k hk=> by cases hk⟩
 ·have:r=t':=Option.some.inj ht'
  rw [←this]
  exact q1
 ·rw [acW h0]
  exact q2
theorem acX {i t j:Nat} {m:Int} {lo hi:Int} {md:Option Int} (e2:i / 100=t) (hk:x.f (i % 100)= .int .i64 m) (ht:lK t=some ⟨lo,hi,[],md,none,some j⟩) (hl:lo≤m∧m≤hi) (hm:∀r,md=some r→m.tmod 12=r) (hd:x.f j≠ .int .i64 m):okV x.F.f i:=fun _ s hs=> by
 subst e2
 rw [ht] at hs
 have hs:=Option.some.inj hs
 subst hs
 exact ⟨_,hk,⟨hl.1,hl.2,rfl,hm⟩,fun t' ht'=> (by cases ht'),fun k hk=> (by
  have:j=k:=Option.some.inj hk
  rw [←this]
  exact hd)⟩
theorem nD {i t:Nat} {r:Int} (e:i % 100=11) (e2:i / 100=t) (ht:lK t=some ⟨0,1999,[],some r,none,some 5⟩) (hl:0≤x.z 11∧x.z 11≤1999∧x.z 11 % 12=r) (hd:x.z 5≠x.z 11):need x.F (11,.u i):=by
 refine nA e (qB (acX e2 (m:=x.z 11) (by rw [e];rfl) ht ⟨hl.1,hl.2.1⟩ (fun q hq=> ?_) fun h=> ?_) (by omega) (by omega) (by omega) (by omega) (by omega) (by omega))
 ·rw [←Option.some.inj hq,acW hl.1]
  exact hl.2.2
 ·injection (show Value.int .i64 (x.z 5)=Value.int .i64 (x.z 11) from h) with _ h
  exact hd h
theorem nc {F:AY} {p:Nat×CV} {l:List (Nat×CV)} (h:need F p) (hl:needs F l):needs F (p::l):=fun q hq=> by
 rcases List.mem_cons.1 hq with rfl | hq
 ·exact h
 ·exact hl q hq
theorem nk {k:Nat} {n:Int} {l:List (Nat×CV)} (hk:x.f k= .int .i64 (x.z k)) (h:x.z k=n) (hl:needs x.F l):needs x.F ((k,.v (.int .i64 n))::l):=nc (nC hk h) hl
theorem nu {k i:Nat} {t:Nat} {l:List (Nat×CV)} (e:i % 100=k) (e2:i / 100=t) (hk:x.f k= .int .i64 (x.z k)) (hb:(k==13 || k==14 || k==34 || k==46 || k==70 || k==71)=false) (h:SO t (x.z k)) (hl:needs x.F l):needs x.F ((k,.u i)::l):=nc (nU e e2 hk hb h) hl
theorem nw {i t:Nat} {l:List (Nat×CV)} (e:i % 100=13) (e2:i / 100=t) (h:SO t (x.s.size:Int)) (hl:needs x.F l):needs x.F ((13,.u i)::l):=nc (nT e e2 h) hl
theorem nn {F:AY}:needs F []:=fun q hq=> by cases hq
def vK (x:qM):Prop:=∃l,needs x.F l∧isOk (au true (aU l))=true
end
end Ci
namespace Ci
open Go.RowKit Go.Shelf
def slots (k:Int):List Nat:=match k with
 | 0=> [5,6,7,8,9,10,11,12,13,14]
 | 1=> [1,2,3,4]
 | 2=> [1,15,16,17,18,19]
 | 3=> [20,21,22]
 | 4=> [23,24,25]
 | 5=> [26,27,28,29]
 | 6=> [4]
 | 7=> [30,31,32,33]
 | 8=> [1,2]
 | 9=> [34]
 | _=> []
def zeroAt (j:Nat):CV:=match j with
 | 13=> .t []
 | 14=> .v (.slice none 0 0)
 | 19=> .v (.bool false)
 | 25=> .v (.bool false)
 | 34=> .v (.slice none 0 0)
 | _=> .v (.int .i64 0)
def inL (j:Nat):List Nat→Bool
 | []=> false
 | k::l=> bif Nat.beq k j then true else inL j l
def TN (s:List Nat) (l:List (Nat×CV)):Nat→Nat→List CV
 | 0,_=> []
 | n + 1,j=> (bif inL j (0::s) then ni j l else zeroAt j)::TN s l n (j + 1)
def xW (b:Bool) (f:FuncId) (args:List CV) (h:Tr aP) (nx:Nat):Option dG:=fP (Bool.and (Nat.beq f 46) (qA args [.agg [.u 5,.u 6,.u 7,.u 8,.u 9,.u 10,.u 11,.u 12,.u 13,.u 14]])) (some (.ok (.v (.bool b)) h nx))
def aH (s:List Nat) (l:List (Nat×CV)) (b:Bool):dG→Bool
 | .ok (.bH [.agg cs,.v (.bool c)]) _ _=> qA cs (TN s l 35 0) && (b==c)
 | _=> false
def aI (b:Bool) (l:List (Nat×CV)):dG:=rc Tryz.prog (orX (xW b) (Ls fun _ _ _ _=> none)) 100000 60 30 [.agg (aU l)] .e 0
def zeroV (j:Nat):Value:=match j with
 | 13=> .string ⟨#[]⟩
 | 14=> .slice none 0 0
 | 19=> .bool false
 | 25=> .bool false
 | 34=> .slice none 0 0
 | _=> .int .i64 0
def Fg (F:AY) (s:List Nat):Array Value:=((List.range 35).map fun j=> bif inL j (0::s) then F.f j else zeroV j).toArray
theorem QM (s:List Nat) (l:List (Nat×CV)):∀(k j i:Nat),i < k→(TN s l k j)[i]? =some (bif inL (j + i) (0::s) then ni (j + i) l else zeroAt (j + i))
 | 0,_,_,h=> absurd h (Nat.not_lt_zero _)
 | k + 1,j,0,_=> rfl
 | k + 1,j,i + 1,h=> by
  rw [TN,List.getElem?_cons_succ,QM s l k (j + 1) i (by omega),show j + 1 + i=j + (i + 1) by omega]
theorem QN (s:List Nat) (l:List (Nat×CV)):∀(k j:Nat),(TN s l k j).length=k
 | 0,_=> rfl
 | k + 1,j=> by rw [TN,List.length_cons,QN s l k]
structure GF (F:AY) (b:Bool) [fE] (w0:Base):Prop where
 gb:GB w0
 win:∀(vals:Array Value) (w:World),(callFunc 46 vals).run Tryz.prog w= .ok (.enter 46 vals) w
 raw:∀w,dO w0 w→Calls Tryz.prog 46 #[.agg ((List.range 10).map fun j=> F.f (5 + j)).toArray] w fun e w'=> e= .returned (.bool b)∧Below w.heap.size w w'
section
variable {F : AY} [fE] (hU : agn F) {b : Bool}
include hU
theorem aoj:iP Tryz.prog (GF F b) (xW b):=by
 intro f args H nx v H' nx' h w0 σ w vals hg hr hL
 obtain ⟨h1,h2⟩:=aC (show fP (Bool.and (Nat.beq f 46) (qA args [.agg [.u 5,.u 6,.u 7,.u 8,.u 9,.u 10,.u 11,.u 12,.u 13,.u 14]])) (some (dG.ok (.v (.bool b)) H nx))=some (.ok v H' nx') from h)
 obtain ⟨h3,h4⟩:=and_true h1
 have h3:=ay h3
 have h4:=pq h4
 subst h3 h4
 obtain ⟨e1,e2,e3⟩:=bU (Option.some.inj h2)
 subst e1 e2 e3
 have hv:vals= #[.agg ((List.range 10).map fun j=> F.f (5 + j)).toArray]:=by
  obtain ⟨x,r,e,h5,h6⟩:=hL.cons_inv
  have:=h6.bg
  subst this
  obtain ⟨vs,rfl,hvs,_⟩:=h5.Dw
  have:vs.toList=(List.range 10).map fun j=> F.f (5 + j):=by
   apply List.ext_getElem?
   intro j
   by_cases hj:j < 10
   ·have hc:([.u 5,.u 6,.u 7,.u 8,.u 9,.u 10,.u 11,.u 12,.u 13,.u 14]:List CV)[j]? =some (.u (5 + j)):=by
     match j,hj with
     | 0,_=> rfl
     | 1,_=> rfl
     | 2,_=> rfl
     | 3,_=> rfl
     | 4,_=> rfl
     | 5,_=> rfl
     | 6,_=> rfl
     | 7,_=> rfl
     | 8,_=> rfl
     | 9,_=> rfl
    obtain ⟨v,q1,q2⟩:=hvs.get hc
    rw [q1,List.getElem?_map,List.getElem?_range hj,q2.uv.1,hU.val,Nat.mod_eq_of_lt (by omega)]
    rfl
   ·have:=hvs.1
    rw [List.getElem?_eq_none (by rw [this];show 10≤j;omega),List.getElem?_eq_none (by simp;omega)]
  apply Array.ext'
  rw [e]
  congr 2
  apply Array.ext'
  rw [this]
 rw [hv]
 exact ⟨hg.win _ w,kW hr (.v _ rfl) (hg.raw w hr.below)⟩
theorem agr {s:List Nat} {l:List (Nat×CV)} (hl:needs F l) {σ:Nm} {v:Value} (h:VR σ (.agg (TN s l 35 0)) v):v= .agg (Fg F s):=by
 obtain ⟨vs,rfl,hr,_⟩:=h.Dw
 congr 1
 have hlen:vs.size=35:=by
  have:=hr.1
  simpa [QN] using this
 apply Array.ext
 ·rw [hlen];simp [Fg]
 ·intro j h1 h2
  have hj:j < 35:=by rw [←hlen];exact h1
  have hg:=QM s l 35 0 j hj
  rw [Nat.zero_add] at hg
  have hv:=hr.2 j _ vs[j] hg (by rw [Array.getElem?_toList];exact Array.getElem?_eq_getElem h1)
  have e:(Fg F s)[j]'h2=bif inL j (0::s) then F.f j else zeroV j:=by simp [Fg]
  rw [e]
  cases hi:inL j (0::s) with
  | true=>
   rw [hi] at hv
   exact QK hU hl hj hv
  | false=>
   rw [hi] at hv
   have hv:VR σ (zeroAt j) vs[j]:=hv
   show vs[j]=zeroV j
   unfold zeroAt at hv
   unfold zeroV
   split at hv
   ·exact (show ∀v,VR σ (.t []) v→v= .string ⟨#[]⟩ from fun v h=> by cases h;rfl) _ hv
   all_goals first
    | exact hv.val
    | (rename_i n1 n2 n3 n4 n5
       split <;> first
        | exact absurd rfl n1
        | exact absurd rfl n2
        | exact absurd rfl n3
        | exact absurd rfl n4
        | exact absurd rfl n5
        | exact hv.val)
theorem Jw {s:List Nat} {l:List (Nat×CV)} (hl:needs F l) {c:Bool} {w:World} (hu:OkW w) (hg:GF F b (Base.of w hu)) (h:aH s l c (aI b l)=true):
  Calls Tryz.prog 30 #[.agg (xs F)] w fun e w'=> e= .returned (.tuple #[.agg (Fg F s),.bool c])∧Below w.heap.size w w':=by
 unfold aI at h
 cases hrc:rc Tryz.prog (orX (xW b) (Ls fun _ _ _ _=> none)) 100000 60 30 [.agg (aU l)] .e 0 with
 | no=> rw [hrc] at h;cases h
 | ok v H' nx'=>
  rw [hrc] at h
  have hE:iP Tryz.prog (GF F b) (orX (xW b) (Ls fun _ _ _ _=> none)):=yY (aoj hU) fun f args H nx v H' nx' h w0 σ w vals hg hr hL=> (acL xG) f args H nx v H' nx' h w0 σ w vals hg.gb hr hL
  refine (Jm mixed hE 100000 60 30 _ .e 0 v H' nx' hrc (Base.of w hu) (fun _=> none) w #[.agg (xs F)] hg (R.start w hu) (.cons (Ju hU hl) (.nil _))).2.mono ?_
  rintro e w' ⟨x,rfl,σ',_,_,hR,_,hx⟩
  refine ⟨?_,hR.below.to⟩
  unfold aH at h
  split at h
  ·rename_i cs c' _ _ heq
   rw [(bU heq).1] at hx
   obtain ⟨h1,h2⟩:=and_true h
   have h1:=pq h1
   have h2:c=c':=by simpa using h2
   subst h1 h2
   obtain ⟨vs',rfl,hvs⟩:=hx.abX
   obtain ⟨y,r,e1,h3,h4⟩:=hvs.cons_inv
   obtain ⟨y2,r2,e2,h5,h6⟩:=h4.cons_inv
   have:=h6.bg
   subst this e2
   rw [agr hU hl h3,h5.val] at e1
   have e:vs'= #[.agg (Fg F s),.bool c]:=by
    apply Array.ext'
    rw [e1]
   rw [e]
  ·cases h
end
end Ci
namespace Ci
open Go.RowKit Go.Shelf
def akX:List (Nat×CV):= [(0,i 0)]
def LH:List (Nat×CV):= [(0,i 1),(1,.u 5001)]
theorem ags:∀b,aH (slots 1) LH false (aI b LH)=true:=by intro b;cases b <;> kernel_rfl
def LJ:List (Nat×CV):= [(0,i 1),(1,.u 5201)]
theorem agt:∀b,aH (slots 1) LJ false (aI b LJ)=true:=by intro b;cases b <;> kernel_rfl
def LM:List (Nat×CV):= [(0,i 1),(1,.u 5701),(2,.u 5002)]
theorem agu:∀b,aH (slots 1) LM false (aI b LM)=true:=by intro b;cases b <;> kernel_rfl
def LP:List (Nat×CV):= [(0,i 1),(1,.u 5701),(2,.u 5302)]
theorem agv:∀b,aH (slots 1) LP false (aI b LP)=true:=by intro b;cases b <;> kernel_rfl
def LQ:List (Nat×CV):= [(0,i 1),(1,.u 5701),(2,.u 1302),(4,.u 5004)]
theorem agw:∀b,aH (slots 1) LQ false (aI b LQ)=true:=by intro b;cases b <;> kernel_rfl
def LU:List (Nat×CV):= [(0,i 1),(1,.u 5701),(2,.u 1302),(4,.u 5504)]
theorem agx:∀b,aH (slots 1) LU false (aI b LU)=true:=by intro b;cases b <;> kernel_rfl
def LV:List (Nat×CV):= [(0,i 1),(1,.u 5701),(2,.u 1302),(3,.u 5003),(4,.u 5604)]
theorem agy:∀b,aH (slots 1) LV false (aI b LV)=true:=by intro b;cases b <;> kernel_rfl
def LW:List (Nat×CV):= [(0,i 1),(1,.u 5701),(2,.u 1302),(3,.u 5103),(4,.u 5604)]
theorem agz:∀b,aH (slots 1) LW false (aI b LW)=true:=by intro b;cases b <;> kernel_rfl
def akY:List (Nat×CV):= [(0,i 1),(1,.u 5701),(2,.u 1302),(3,.u 103),(4,.u 5604)]
theorem aq9:∀b,aH (slots 1) akY true (aI b akY)=true:=by intro b;cases b <;> kernel_rfl
def LZ:List (Nat×CV):= [(0,i 2),(1,.u 5001)]
theorem agA:∀b,aH (slots 2) LZ false (aI b LZ)=true:=by intro b;cases b <;> kernel_rfl
def L6:List (Nat×CV):= [(0,i 2),(1,.u 5201)]
theorem agB:∀b,aH (slots 2) L6 false (aI b L6)=true:=by intro b;cases b <;> kernel_rfl
def L8:List (Nat×CV):= [(0,i 2),(1,.u 5701),(15,.u 5015)]
theorem agC:∀b,aH (slots 2) L8 false (aI b L8)=true:=by intro b;cases b <;> kernel_rfl
def L9:List (Nat×CV):= [(0,i 2),(1,.u 5701),(15,.u 5315)]
theorem agD:∀b,aH (slots 2) L9 false (aI b L9)=true:=by intro b;cases b <;> kernel_rfl
def Mc:List (Nat×CV):= [(0,i 2),(1,.u 5701),(15,.u 1315),(16,.u 5016)]
theorem agE:∀b,aH (slots 2) Mc false (aI b Mc)=true:=by intro b;cases b <;> kernel_rfl
def Md:List (Nat×CV):= [(0,i 2),(1,.u 5701),(15,.u 1315),(16,.u 5416)]
theorem agF:∀b,aH (slots 2) Md false (aI b Md)=true:=by intro b;cases b <;> kernel_rfl
def Me:List (Nat×CV):= [(0,i 2),(1,.u 5701),(15,.u 1315),(16,.u 2916),(17,.u 5917)]
theorem agG:∀b,aH (slots 2) Me false (aI b Me)=true:=by intro b;cases b <;> kernel_rfl
def MB:List (Nat×CV):= [(0,i 2),(1,.u 5701),(15,.u 1315),(16,.u 2916),(17,.u 6017)]
theorem agH:∀b,aH (slots 2) MB false (aI b MB)=true:=by intro b;cases b <;> kernel_rfl
def MC:List (Nat×CV):= [(0,i 2),(1,.u 5701),(15,.u 1315),(16,.u 2916),(17,.u 5817),(18,.u 6718)]
theorem agI:∀b,aH (slots 2) MC false (aI b MC)=true:=by intro b;cases b <;> kernel_rfl
def akZ:List (Nat×CV):= [(0,i 2),(1,.u 5701),(15,.u 1315),(16,.u 2916),(17,.u 5817),(18,i 0)]
theorem ara:∀b,aH (slots 2) akZ true (aI b akZ)=true:=by intro b;cases b <;> kernel_rfl
def MF:List (Nat×CV):= [(0,i 3),(20,.u 5020)]
theorem agJ:∀b,aH (slots 3) MF false (aI b MF)=true:=by intro b;cases b <;> kernel_rfl
def MG:List (Nat×CV):= [(0,i 3),(20,.u 6020)]
theorem agK:∀b,aH (slots 3) MG false (aI b MG)=true:=by intro b;cases b <;> kernel_rfl
def MH:List (Nat×CV):= [(0,i 3),(20,.u 6120),(21,.u 5021)]
theorem agL:∀b,aH (slots 3) MH false (aI b MH)=true:=by intro b;cases b <;> kernel_rfl
def MI:List (Nat×CV):= [(0,i 3),(20,.u 6120),(21,.u 6321)]
theorem agM:∀b,aH (slots 3) MI false (aI b MI)=true:=by intro b;cases b <;> kernel_rfl
def MJ:List (Nat×CV):= [(0,i 3),(20,.u 6120),(21,.u 6221),(22,.u 5022)]
theorem agN:∀b,aH (slots 3) MJ false (aI b MJ)=true:=by intro b;cases b <;> kernel_rfl
def MK:List (Nat×CV):= [(0,i 3),(20,.u 6120),(21,.u 6221),(22,.u 6322)]
theorem agO:∀b,aH (slots 3) MK false (aI b MK)=true:=by intro b;cases b <;> kernel_rfl
def ak0:List (Nat×CV):= [(0,i 3),(20,.u 6120),(21,.u 6221),(22,.u 6222)]
theorem arb:∀b,aH (slots 3) ak0 true (aI b ak0)=true:=by intro b;cases b <;> kernel_rfl
def ML:List (Nat×CV):= [(0,i 4),(23,.u 5023)]
theorem agP:∀b,aH (slots 4) ML false (aI b ML)=true:=by intro b;cases b <;> kernel_rfl
def MN:List (Nat×CV):= [(0,i 4),(23,.u 6423)]
theorem agQ:∀b,aH (slots 4) MN false (aI b MN)=true:=by intro b;cases b <;> kernel_rfl
def MO:List (Nat×CV):= [(0,i 4),(23,.u 1723),(24,.u 6724)]
theorem agR:∀b,aH (slots 4) MO false (aI b MO)=true:=by intro b;cases b <;> kernel_rfl
def ak1:List (Nat×CV):= [(0,i 4),(23,.u 1723),(24,i 0)]
theorem ard:∀b,aH (slots 4) ak1 true (aI b ak1)=true:=by intro b;cases b <;> kernel_rfl
def MP:List (Nat×CV):= [(0,i 5),(26,.u 5026)]
theorem agS:∀b,aH (slots 5) MP false (aI b MP)=true:=by intro b;cases b <;> kernel_rfl
def MQ:List (Nat×CV):= [(0,i 5),(26,.u 5126)]
theorem agT:∀b,aH (slots 5) MQ false (aI b MQ)=true:=by intro b;cases b <;> kernel_rfl
def MR:List (Nat×CV):= [(0,i 5),(26,.u 126),(27,.u 5027)]
theorem agU:∀b,aH (slots 5) MR false (aI b MR)=true:=by intro b;cases b <;> kernel_rfl
def MS:List (Nat×CV):= [(0,i 5),(26,.u 126),(27,.u 5327)]
theorem agV:∀b,aH (slots 5) MS false (aI b MS)=true:=by intro b;cases b <;> kernel_rfl
def MV:List (Nat×CV):= [(0,i 5),(26,.u 126),(27,.u 1327),(28,.u 6728)]
theorem agW:∀b,aH (slots 5) MV false (aI b MV)=true:=by intro b;cases b <;> kernel_rfl
def MW:List (Nat×CV):= [(0,i 5),(26,.u 126),(27,.u 1327),(28,i 0),(29,.u 6729)]
theorem agX:∀b,aH (slots 5) MW false (aI b MW)=true:=by intro b;cases b <;> kernel_rfl
def ak2:List (Nat×CV):= [(0,i 5),(26,.u 126),(27,.u 1327),(28,i 0),(29,i 0)]
theorem arf:∀b,aH (slots 5) ak2 true (aI b ak2)=true:=by intro b;cases b <;> kernel_rfl
def MX:List (Nat×CV):= [(0,i 6),(4,.u 5004)]
theorem agY:∀b,aH (slots 6) MX false (aI b MX)=true:=by intro b;cases b <;> kernel_rfl
def MZ:List (Nat×CV):= [(0,i 6),(4,.u 5104)]
theorem agZ:∀b,aH (slots 6) MZ false (aI b MZ)=true:=by intro b;cases b <;> kernel_rfl
def ak3:List (Nat×CV):= [(0,i 6),(4,.u 104)]
theorem arh:∀b,aH (slots 6) ak3 true (aI b ak3)=true:=by intro b;cases b <;> kernel_rfl
def Na:List (Nat×CV):= [(0,i 7),(30,.u 5030)]
theorem ag0:∀b,aH (slots 7) Na false (aI b Na)=true:=by intro b;cases b <;> kernel_rfl
def Nb:List (Nat×CV):= [(0,i 7),(30,.u 6630)]
theorem ag1:∀b,aH (slots 7) Nb false (aI b Nb)=true:=by intro b;cases b <;> kernel_rfl
def Nc:List (Nat×CV):= [(0,i 7),(30,.u 6530),(31,.u 5031)]
theorem ag2:∀b,aH (slots 7) Nc false (aI b Nc)=true:=by intro b;cases b <;> kernel_rfl
def Nh:List (Nat×CV):= [(0,i 7),(30,.u 6530),(31,.u 5331)]
theorem ag3:∀b,aH (slots 7) Nh false (aI b Nh)=true:=by intro b;cases b <;> kernel_rfl
def Nj:List (Nat×CV):= [(0,i 7),(30,.u 6530),(31,.u 1331),(32,.u 5032)]
theorem ag4:∀b,aH (slots 7) Nj false (aI b Nj)=true:=by intro b;cases b <;> kernel_rfl
def Nk:List (Nat×CV):= [(0,i 7),(30,.u 6530),(31,.u 1331),(32,.u 5432)]
theorem ag5:∀b,aH (slots 7) Nk false (aI b Nk)=true:=by intro b;cases b <;> kernel_rfl
def Nl:List (Nat×CV):= [(0,i 7),(30,.u 6530),(31,.u 1331),(32,.u 2932),(33,.u 6733)]
theorem ag6:∀b,aH (slots 7) Nl false (aI b Nl)=true:=by intro b;cases b <;> kernel_rfl
def ak4:List (Nat×CV):= [(0,i 7),(30,.u 6530),(31,.u 1331),(32,.u 2932),(33,i 0)]
theorem ari:∀b,aH (slots 7) ak4 true (aI b ak4)=true:=by intro b;cases b <;> kernel_rfl
def Np:List (Nat×CV):= [(0,i 8),(1,.u 5001)]
theorem ag7:∀b,aH (slots 8) Np false (aI b Np)=true:=by intro b;cases b <;> kernel_rfl
def Nq:List (Nat×CV):= [(0,i 8),(1,.u 5201)]
theorem ag8:∀b,aH (slots 8) Nq false (aI b Nq)=true:=by intro b;cases b <;> kernel_rfl
def Nr:List (Nat×CV):= [(0,i 8),(1,.u 5701),(2,.u 5002)]
theorem ag9:∀b,aH (slots 8) Nr false (aI b Nr)=true:=by intro b;cases b <;> kernel_rfl
def Ns:List (Nat×CV):= [(0,i 8),(1,.u 5701),(2,.u 5302)]
theorem aha:∀b,aH (slots 8) Ns false (aI b Ns)=true:=by intro b;cases b <;> kernel_rfl
def ak5:List (Nat×CV):= [(0,i 8),(1,.u 5701),(2,.u 1302)]
theorem arj:∀b,aH (slots 8) ak5 true (aI b ak5)=true:=by intro b;cases b <;> kernel_rfl
def Nu:List (Nat×CV):= [(0,i 9),(34,.u 6934)]
theorem ahb:∀b,aH (slots 9) Nu false (aI b Nu)=true:=by intro b;cases b <;> kernel_rfl
def ak6:List (Nat×CV):= [(0,i 9),(34,.u 6834)]
theorem ark:∀b,aH (slots 9) ak6 true (aI b ak6)=true:=by intro b;cases b <;> kernel_rfl
def acY:List (Nat×CV):= [(0,.u 5000)]
theorem aok:∀b,aH [] acY false (aI b acY)=true:=by intro b;cases b <;> kernel_rfl
def acZ:List (Nat×CV):= [(0,.u 7000)]
theorem aol:∀b,aH [] acZ false (aI b acZ)=true:=by intro b;cases b <;> kernel_rfl
theorem arl:∀b,aH (slots 0) akX b (aI b akX)=true:=by intro b;cases b <;> kernel_rfl
def rY (x:qM) (s:List Nat) (p:Prop):Prop:=∃l c,needs x.F l∧(∀b,aH s l c (aI b l)=true)∧(c=true↔p)
theorem aom {x:qM} {i t:Nat} (e:i % 100=34) (e2:i / 100=t) (ht:(Nat.blt t 41 || Nat.blt 44 t)=true) (h:SO t (x.un:Int)):need x.F (34,.u i):=by
 subst e2
 have hz:∀k,k / 100=i / 100→wL k=none:=fun k hk=> by
  unfold wL
  rw [show Nat.div k 100=i / 100 from hk]
  generalize i / 100=d at ht
  cases Nat.beq (Nat.mod k 100) 70 <;> cases Nat.beq (Nat.mod k 100) 71 <;> simp only [cond_true,cond_false] <;> (try rfl) <;> (split <;> first | (exact absurd ht (by decide)) | rfl)
 refine nA e (pG (.inr (.inr e)) (fun h=> by omega) (fun h=> by omega) fun _=> ⟨rX (by rw [show (i + 8) / 100=i / 100 by omega];exact h) (by rw [show (i + 8) % 100=42 by omega];rfl),fun y hy=> ?_,fun y hy=> ?_⟩)
 ·rw [hz _ (by omega)] at hy
  cases hy
 ·rw [hz _ (by omega)] at hy
  cases hy
section
variable {x : qM} (hz : ∀ k, -9223372036854775808 ≤ x.z k ∧ x.z k ≤ 9223372036854775807) (hun : (x.un : Int) ≤ 9223372036854775807)
include hz hun
theorem arn (a0:x.z 0=1):rY x (slots 1) ((0≤x.z 1∧x.z 1≤11)∧(0≤x.z 2∧x.z 2≤99999)∧(0≤x.z 4∧x.z 4≤19)∧(0≤x.z 3∧x.z 3≤1099511627776)):=by
 have z1:=hz 1
 have z2:=hz 2
 have z4:=hz 4
 have z3:=hz 3
 by_cases h0:0≤x.z 1∧x.z 1≤11
 ·skip
  by_cases h1:0≤x.z 2∧x.z 2≤99999
  ·skip
   by_cases h2:0≤x.z 4∧x.z 4≤19
   ·skip
    by_cases h3:0≤x.z 3∧x.z 3≤1099511627776
    ·exact ⟨akY,true,(nc (nC rfl (show x.z 0=1 by omega)) (nc (nU rfl rfl rfl rfl (NS (by omega))) (nc (nU rfl rfl rfl rfl (s13 (by omega))) (nc (nU rfl rfl rfl rfl (s1 (by omega))) (nc (nU rfl rfl rfl rfl (s56 (by omega))) nn))))),aq9,⟨fun _=> (by omega),fun _=> rfl⟩⟩
    ·by_cases g3:x.z 3≤ -1
     ·exact ⟨LV,false,(nc (nC rfl (show x.z 0=1 by omega)) (nc (nU rfl rfl rfl rfl (NS (by omega))) (nc (nU rfl rfl rfl rfl (s13 (by omega))) (nc (nU rfl rfl rfl rfl (Jv (by omega))) (nc (nU rfl rfl rfl rfl (s56 (by omega))) nn))))),agy,⟨fun h=> (by cases h),fun h=> (by omega)⟩⟩
     ·exact ⟨LW,false,(nc (nC rfl (show x.z 0=1 by omega)) (nc (nU rfl rfl rfl rfl (NS (by omega))) (nc (nU rfl rfl rfl rfl (s13 (by omega))) (nc (nU rfl rfl rfl rfl (s51 (by omega))) (nc (nU rfl rfl rfl rfl (s56 (by omega))) nn))))),agz,⟨fun h=> (by cases h),fun h=> (by omega)⟩⟩
   ·by_cases g2:x.z 4≤ -1
    ·exact ⟨LQ,false,(nc (nC rfl (show x.z 0=1 by omega)) (nc (nU rfl rfl rfl rfl (NS (by omega))) (nc (nU rfl rfl rfl rfl (s13 (by omega))) (nc (nU rfl rfl rfl rfl (Jv (by omega))) nn)))),agw,⟨fun h=> (by cases h),fun h=> (by omega)⟩⟩
    ·exact ⟨LU,false,(nc (nC rfl (show x.z 0=1 by omega)) (nc (nU rfl rfl rfl rfl (NS (by omega))) (nc (nU rfl rfl rfl rfl (s13 (by omega))) (nc (nU rfl rfl rfl rfl (s55 (by omega))) nn)))),agx,⟨fun h=> (by cases h),fun h=> (by omega)⟩⟩
  ·by_cases g1:x.z 2≤ -1
   ·exact ⟨LM,false,(nc (nC rfl (show x.z 0=1 by omega)) (nc (nU rfl rfl rfl rfl (NS (by omega))) (nc (nU rfl rfl rfl rfl (Jv (by omega))) nn))),agu,⟨fun h=> (by cases h),fun h=> (by omega)⟩⟩
   ·exact ⟨LP,false,(nc (nC rfl (show x.z 0=1 by omega)) (nc (nU rfl rfl rfl rfl (NS (by omega))) (nc (nU rfl rfl rfl rfl (s53 (by omega))) nn))),agv,⟨fun h=> (by cases h),fun h=> (by omega)⟩⟩
 ·by_cases g0:x.z 1≤ -1
  ·exact ⟨LH,false,(nc (nC rfl (show x.z 0=1 by omega)) (nc (nU rfl rfl rfl rfl (Jv (by omega))) nn)),ags,⟨fun h=> (by cases h),fun h=> (by omega)⟩⟩
  ·exact ⟨LJ,false,(nc (nC rfl (show x.z 0=1 by omega)) (nc (nU rfl rfl rfl rfl (s52 (by omega))) nn)),agt,⟨fun h=> (by cases h),fun h=> (by omega)⟩⟩
theorem aro (a0:x.z 0=2):rY x (slots 2) ((0≤x.z 1∧x.z 1≤11)∧(0≤x.z 15∧x.z 15≤99999)∧(0≤x.z 16∧x.z 16≤1999)∧(1≤x.z 17∧x.z 17≤4)∧(x.z 18=0)):=by
 have z1:=hz 1
 have z15:=hz 15
 have z16:=hz 16
 have z17:=hz 17
 have z18:=hz 18
 by_cases h0:0≤x.z 1∧x.z 1≤11
 ·skip
  by_cases h1:0≤x.z 15∧x.z 15≤99999
  ·skip
   by_cases h2:0≤x.z 16∧x.z 16≤1999
   ·skip
    by_cases h3:1≤x.z 17∧x.z 17≤4
    ·skip
     by_cases h4:x.z 18=0
     ·exact ⟨akZ,true,(nc (nC rfl (show x.z 0=2 by omega)) (nc (nU rfl rfl rfl rfl (NS (by omega))) (nc (nU rfl rfl rfl rfl (s13 (by omega))) (nc (nU rfl rfl rfl rfl (jW (by omega))) (nc (nU rfl rfl rfl rfl (s58 (by omega))) (nc (nC rfl (show x.z 18=0 by omega)) nn)))))),ara,⟨fun _=> (by omega),fun _=> rfl⟩⟩
     ·exact ⟨MC,false,(nc (nC rfl (show x.z 0=2 by omega)) (nc (nU rfl rfl rfl rfl (NS (by omega))) (nc (nU rfl rfl rfl rfl (s13 (by omega))) (nc (nU rfl rfl rfl rfl (jW (by omega))) (nc (nU rfl rfl rfl rfl (s58 (by omega))) (nc (nU rfl rfl rfl rfl (s67 (by omega))) nn)))))),agI,⟨fun h=> (by cases h),fun h=> (by omega)⟩⟩
    ·by_cases g3:x.z 17≤0
     ·exact ⟨Me,false,(nc (nC rfl (show x.z 0=2 by omega)) (nc (nU rfl rfl rfl rfl (NS (by omega))) (nc (nU rfl rfl rfl rfl (s13 (by omega))) (nc (nU rfl rfl rfl rfl (jW (by omega))) (nc (nU rfl rfl rfl rfl (s59 (by omega))) nn))))),agG,⟨fun h=> (by cases h),fun h=> (by omega)⟩⟩
     ·exact ⟨MB,false,(nc (nC rfl (show x.z 0=2 by omega)) (nc (nU rfl rfl rfl rfl (NS (by omega))) (nc (nU rfl rfl rfl rfl (s13 (by omega))) (nc (nU rfl rfl rfl rfl (jW (by omega))) (nc (nU rfl rfl rfl rfl (s60 (by omega))) nn))))),agH,⟨fun h=> (by cases h),fun h=> (by omega)⟩⟩
   ·by_cases g2:x.z 16≤ -1
    ·exact ⟨Mc,false,(nc (nC rfl (show x.z 0=2 by omega)) (nc (nU rfl rfl rfl rfl (NS (by omega))) (nc (nU rfl rfl rfl rfl (s13 (by omega))) (nc (nU rfl rfl rfl rfl (Jv (by omega))) nn)))),agE,⟨fun h=> (by cases h),fun h=> (by omega)⟩⟩
    ·exact ⟨Md,false,(nc (nC rfl (show x.z 0=2 by omega)) (nc (nU rfl rfl rfl rfl (NS (by omega))) (nc (nU rfl rfl rfl rfl (s13 (by omega))) (nc (nU rfl rfl rfl rfl (s54 (by omega))) nn)))),agF,⟨fun h=> (by cases h),fun h=> (by omega)⟩⟩
  ·by_cases g1:x.z 15≤ -1
   ·exact ⟨L8,false,(nc (nC rfl (show x.z 0=2 by omega)) (nc (nU rfl rfl rfl rfl (NS (by omega))) (nc (nU rfl rfl rfl rfl (Jv (by omega))) nn))),agC,⟨fun h=> (by cases h),fun h=> (by omega)⟩⟩
   ·exact ⟨L9,false,(nc (nC rfl (show x.z 0=2 by omega)) (nc (nU rfl rfl rfl rfl (NS (by omega))) (nc (nU rfl rfl rfl rfl (s53 (by omega))) nn))),agD,⟨fun h=> (by cases h),fun h=> (by omega)⟩⟩
 ·by_cases g0:x.z 1≤ -1
  ·exact ⟨LZ,false,(nc (nC rfl (show x.z 0=2 by omega)) (nc (nU rfl rfl rfl rfl (Jv (by omega))) nn)),agA,⟨fun h=> (by cases h),fun h=> (by omega)⟩⟩
  ·exact ⟨L6,false,(nc (nC rfl (show x.z 0=2 by omega)) (nc (nU rfl rfl rfl rfl (s52 (by omega))) nn)),agB,⟨fun h=> (by cases h),fun h=> (by omega)⟩⟩
theorem arp (a0:x.z 0=3):rY x (slots 3) ((0≤x.z 20∧x.z 20≤4)∧(0≤x.z 21∧x.z 21≤199)∧(0≤x.z 22∧x.z 22≤199)):=by
 have z20:=hz 20
 have z21:=hz 21
 have z22:=hz 22
 by_cases h0:0≤x.z 20∧x.z 20≤4
 ·skip
  by_cases h1:0≤x.z 21∧x.z 21≤199
  ·skip
   by_cases h2:0≤x.z 22∧x.z 22≤199
   ·exact ⟨ak0,true,(nc (nC rfl (show x.z 0=3 by omega)) (nc (nU rfl rfl rfl rfl (s61 (by omega))) (nc (nU rfl rfl rfl rfl (s62 (by omega))) (nc (nU rfl rfl rfl rfl (s62 (by omega))) nn)))),arb,⟨fun _=> (by omega),fun _=> rfl⟩⟩
   ·by_cases g2:x.z 22≤ -1
    ·exact ⟨MJ,false,(nc (nC rfl (show x.z 0=3 by omega)) (nc (nU rfl rfl rfl rfl (s61 (by omega))) (nc (nU rfl rfl rfl rfl (s62 (by omega))) (nc (nU rfl rfl rfl rfl (Jv (by omega))) nn)))),agN,⟨fun h=> (by cases h),fun h=> (by omega)⟩⟩
    ·exact ⟨MK,false,(nc (nC rfl (show x.z 0=3 by omega)) (nc (nU rfl rfl rfl rfl (s61 (by omega))) (nc (nU rfl rfl rfl rfl (s62 (by omega))) (nc (nU rfl rfl rfl rfl (s63 (by omega))) nn)))),agO,⟨fun h=> (by cases h),fun h=> (by omega)⟩⟩
  ·by_cases g1:x.z 21≤ -1
   ·exact ⟨MH,false,(nc (nC rfl (show x.z 0=3 by omega)) (nc (nU rfl rfl rfl rfl (s61 (by omega))) (nc (nU rfl rfl rfl rfl (Jv (by omega))) nn))),agL,⟨fun h=> (by cases h),fun h=> (by omega)⟩⟩
   ·exact ⟨MI,false,(nc (nC rfl (show x.z 0=3 by omega)) (nc (nU rfl rfl rfl rfl (s61 (by omega))) (nc (nU rfl rfl rfl rfl (s63 (by omega))) nn))),agM,⟨fun h=> (by cases h),fun h=> (by omega)⟩⟩
 ·by_cases g0:x.z 20≤ -1
  ·exact ⟨MF,false,(nc (nC rfl (show x.z 0=3 by omega)) (nc (nU rfl rfl rfl rfl (Jv (by omega))) nn)),agJ,⟨fun h=> (by cases h),fun h=> (by omega)⟩⟩
  ·exact ⟨MG,false,(nc (nC rfl (show x.z 0=3 by omega)) (nc (nU rfl rfl rfl rfl (s60 (by omega))) nn)),agK,⟨fun h=> (by cases h),fun h=> (by omega)⟩⟩
theorem arq (a0:x.z 0=4):rY x (slots 4) ((0≤x.z 23∧x.z 23≤1073741824)∧(x.z 24=0)):=by
 have z23:=hz 23
 have z24:=hz 24
 by_cases h0:0≤x.z 23∧x.z 23≤1073741824
 ·skip
  by_cases h1:x.z 24=0
  ·exact ⟨ak1,true,(nc (nC rfl (show x.z 0=4 by omega)) (nc (nU rfl rfl rfl rfl (s17 (by omega))) (nc (nC rfl (show x.z 24=0 by omega)) nn))),ard,⟨fun _=> (by omega),fun _=> rfl⟩⟩
  ·exact ⟨MO,false,(nc (nC rfl (show x.z 0=4 by omega)) (nc (nU rfl rfl rfl rfl (s17 (by omega))) (nc (nU rfl rfl rfl rfl (s67 (by omega))) nn))),agR,⟨fun h=> (by cases h),fun h=> (by omega)⟩⟩
 ·by_cases g0:x.z 23≤ -1
  ·exact ⟨ML,false,(nc (nC rfl (show x.z 0=4 by omega)) (nc (nU rfl rfl rfl rfl (Jv (by omega))) nn)),agP,⟨fun h=> (by cases h),fun h=> (by omega)⟩⟩
  ·exact ⟨MN,false,(nc (nC rfl (show x.z 0=4 by omega)) (nc (nU rfl rfl rfl rfl (s64 (by omega))) nn)),agQ,⟨fun h=> (by cases h),fun h=> (by omega)⟩⟩
theorem ars (a0:x.z 0=5):rY x (slots 5) ((0≤x.z 26∧x.z 26≤1099511627776)∧(0≤x.z 27∧x.z 27≤99999)∧(x.z 28=0)∧(x.z 29=0)):=by
 have z26:=hz 26
 have z27:=hz 27
 have z28:=hz 28
 have z29:=hz 29
 by_cases h0:0≤x.z 26∧x.z 26≤1099511627776
 ·skip
  by_cases h1:0≤x.z 27∧x.z 27≤99999
  ·skip
   by_cases h2:x.z 28=0
   ·skip
    by_cases h3:x.z 29=0
    ·exact ⟨ak2,true,(nc (nC rfl (show x.z 0=5 by omega)) (nc (nU rfl rfl rfl rfl (s1 (by omega))) (nc (nU rfl rfl rfl rfl (s13 (by omega))) (nc (nC rfl (show x.z 28=0 by omega)) (nc (nC rfl (show x.z 29=0 by omega)) nn))))),arf,⟨fun _=> (by omega),fun _=> rfl⟩⟩
    ·exact ⟨MW,false,(nc (nC rfl (show x.z 0=5 by omega)) (nc (nU rfl rfl rfl rfl (s1 (by omega))) (nc (nU rfl rfl rfl rfl (s13 (by omega))) (nc (nC rfl (show x.z 28=0 by omega)) (nc (nU rfl rfl rfl rfl (s67 (by omega))) nn))))),agX,⟨fun h=> (by cases h),fun h=> (by omega)⟩⟩
   ·exact ⟨MV,false,(nc (nC rfl (show x.z 0=5 by omega)) (nc (nU rfl rfl rfl rfl (s1 (by omega))) (nc (nU rfl rfl rfl rfl (s13 (by omega))) (nc (nU rfl rfl rfl rfl (s67 (by omega))) nn)))),agW,⟨fun h=> (by cases h),fun h=> (by omega)⟩⟩
  ·by_cases g1:x.z 27≤ -1
   ·exact ⟨MR,false,(nc (nC rfl (show x.z 0=5 by omega)) (nc (nU rfl rfl rfl rfl (s1 (by omega))) (nc (nU rfl rfl rfl rfl (Jv (by omega))) nn))),agU,⟨fun h=> (by cases h),fun h=> (by omega)⟩⟩
   ·exact ⟨MS,false,(nc (nC rfl (show x.z 0=5 by omega)) (nc (nU rfl rfl rfl rfl (s1 (by omega))) (nc (nU rfl rfl rfl rfl (s53 (by omega))) nn))),agV,⟨fun h=> (by cases h),fun h=> (by omega)⟩⟩
 ·by_cases g0:x.z 26≤ -1
  ·exact ⟨MP,false,(nc (nC rfl (show x.z 0=5 by omega)) (nc (nU rfl rfl rfl rfl (Jv (by omega))) nn)),agS,⟨fun h=> (by cases h),fun h=> (by omega)⟩⟩
  ·exact ⟨MQ,false,(nc (nC rfl (show x.z 0=5 by omega)) (nc (nU rfl rfl rfl rfl (s51 (by omega))) nn)),agT,⟨fun h=> (by cases h),fun h=> (by omega)⟩⟩
theorem aru (a0:x.z 0=6):rY x (slots 6) ((0≤x.z 4∧x.z 4≤1099511627776)):=by
 have z4:=hz 4
 by_cases h0:0≤x.z 4∧x.z 4≤1099511627776
 ·exact ⟨ak3,true,(nc (nC rfl (show x.z 0=6 by omega)) (nc (nU rfl rfl rfl rfl (s1 (by omega))) nn)),arh,⟨fun _=> (by omega),fun _=> rfl⟩⟩
 ·by_cases g0:x.z 4≤ -1
  ·exact ⟨MX,false,(nc (nC rfl (show x.z 0=6 by omega)) (nc (nU rfl rfl rfl rfl (Jv (by omega))) nn)),agY,⟨fun h=> (by cases h),fun h=> (by omega)⟩⟩
  ·exact ⟨MZ,false,(nc (nC rfl (show x.z 0=6 by omega)) (nc (nU rfl rfl rfl rfl (s51 (by omega))) nn)),agZ,⟨fun h=> (by cases h),fun h=> (by omega)⟩⟩
theorem arv (a0:x.z 0=7):rY x (slots 7) ((0≤x.z 30∧x.z 30≤3)∧(0≤x.z 31∧x.z 31≤99999)∧(0≤x.z 32∧x.z 32≤1999)∧(x.z 33=0)):=by
 have z30:=hz 30
 have z31:=hz 31
 have z32:=hz 32
 have z33:=hz 33
 by_cases h0:0≤x.z 30∧x.z 30≤3
 ·skip
  by_cases h1:0≤x.z 31∧x.z 31≤99999
  ·skip
   by_cases h2:0≤x.z 32∧x.z 32≤1999
   ·skip
    by_cases h3:x.z 33=0
    ·exact ⟨ak4,true,(nc (nC rfl (show x.z 0=7 by omega)) (nc (nU rfl rfl rfl rfl (s65 (by omega))) (nc (nU rfl rfl rfl rfl (s13 (by omega))) (nc (nU rfl rfl rfl rfl (jW (by omega))) (nc (nC rfl (show x.z 33=0 by omega)) nn))))),ari,⟨fun _=> (by omega),fun _=> rfl⟩⟩
    ·exact ⟨Nl,false,(nc (nC rfl (show x.z 0=7 by omega)) (nc (nU rfl rfl rfl rfl (s65 (by omega))) (nc (nU rfl rfl rfl rfl (s13 (by omega))) (nc (nU rfl rfl rfl rfl (jW (by omega))) (nc (nU rfl rfl rfl rfl (s67 (by omega))) nn))))),ag6,⟨fun h=> (by cases h),fun h=> (by omega)⟩⟩
   ·by_cases g2:x.z 32≤ -1
    ·exact ⟨Nj,false,(nc (nC rfl (show x.z 0=7 by omega)) (nc (nU rfl rfl rfl rfl (s65 (by omega))) (nc (nU rfl rfl rfl rfl (s13 (by omega))) (nc (nU rfl rfl rfl rfl (Jv (by omega))) nn)))),ag4,⟨fun h=> (by cases h),fun h=> (by omega)⟩⟩
    ·exact ⟨Nk,false,(nc (nC rfl (show x.z 0=7 by omega)) (nc (nU rfl rfl rfl rfl (s65 (by omega))) (nc (nU rfl rfl rfl rfl (s13 (by omega))) (nc (nU rfl rfl rfl rfl (s54 (by omega))) nn)))),ag5,⟨fun h=> (by cases h),fun h=> (by omega)⟩⟩
  ·by_cases g1:x.z 31≤ -1
   ·exact ⟨Nc,false,(nc (nC rfl (show x.z 0=7 by omega)) (nc (nU rfl rfl rfl rfl (s65 (by omega))) (nc (nU rfl rfl rfl rfl (Jv (by omega))) nn))),ag2,⟨fun h=> (by cases h),fun h=> (by omega)⟩⟩
   ·exact ⟨Nh,false,(nc (nC rfl (show x.z 0=7 by omega)) (nc (nU rfl rfl rfl rfl (s65 (by omega))) (nc (nU rfl rfl rfl rfl (s53 (by omega))) nn))),ag3,⟨fun h=> (by cases h),fun h=> (by omega)⟩⟩
 ·by_cases g0:x.z 30≤ -1
  ·exact ⟨Na,false,(nc (nC rfl (show x.z 0=7 by omega)) (nc (nU rfl rfl rfl rfl (Jv (by omega))) nn)),ag0,⟨fun h=> (by cases h),fun h=> (by omega)⟩⟩
  ·exact ⟨Nb,false,(nc (nC rfl (show x.z 0=7 by omega)) (nc (nU rfl rfl rfl rfl (s66 (by omega))) nn)),ag1,⟨fun h=> (by cases h),fun h=> (by omega)⟩⟩
theorem arw (a0:x.z 0=8):rY x (slots 8) ((0≤x.z 1∧x.z 1≤11)∧(0≤x.z 2∧x.z 2≤99999)):=by
 have z1:=hz 1
 have z2:=hz 2
 by_cases h0:0≤x.z 1∧x.z 1≤11
 ·skip
  by_cases h1:0≤x.z 2∧x.z 2≤99999
  ·exact ⟨ak5,true,(nc (nC rfl (show x.z 0=8 by omega)) (nc (nU rfl rfl rfl rfl (NS (by omega))) (nc (nU rfl rfl rfl rfl (s13 (by omega))) nn))),arj,⟨fun _=> (by omega),fun _=> rfl⟩⟩
  ·by_cases g1:x.z 2≤ -1
   ·exact ⟨Nr,false,(nc (nC rfl (show x.z 0=8 by omega)) (nc (nU rfl rfl rfl rfl (NS (by omega))) (nc (nU rfl rfl rfl rfl (Jv (by omega))) nn))),ag9,⟨fun h=> (by cases h),fun h=> (by omega)⟩⟩
   ·exact ⟨Ns,false,(nc (nC rfl (show x.z 0=8 by omega)) (nc (nU rfl rfl rfl rfl (NS (by omega))) (nc (nU rfl rfl rfl rfl (s53 (by omega))) nn))),aha,⟨fun h=> (by cases h),fun h=> (by omega)⟩⟩
 ·by_cases g0:x.z 1≤ -1
  ·exact ⟨Np,false,(nc (nC rfl (show x.z 0=8 by omega)) (nc (nU rfl rfl rfl rfl (Jv (by omega))) nn)),ag7,⟨fun h=> (by cases h),fun h=> (by omega)⟩⟩
  ·exact ⟨Nq,false,(nc (nC rfl (show x.z 0=8 by omega)) (nc (nU rfl rfl rfl rfl (s52 (by omega))) nn)),ag8,⟨fun h=> (by cases h),fun h=> (by omega)⟩⟩
theorem arx (a0:x.z 0=9):rY x (slots 9) ((0≤(x.un:Int)∧(x.un:Int)≤12)):=by
 by_cases h0:0≤(x.un:Int)∧(x.un:Int)≤12
 ·exact ⟨ak6,true,(nc (nC rfl (show x.z 0=9 by omega)) (nc (aom rfl rfl (by decide) (s68 (by omega))) nn)),ark,⟨fun _=> (by omega),fun _=> rfl⟩⟩
 ·exact ⟨Nu,false,(nc (nC rfl (show x.z 0=9 by omega)) (nc (aom rfl rfl (by decide) (s69 (by omega))) nn)),ahb,⟨fun h=> (by cases h),fun h=> (by omega)⟩⟩
theorem ac0 (a0:x.z 0 < 0∨9 < x.z 0):rY x [] False:=by
 have z0:=hz 0
 by_cases h:x.z 0 < 0
 ·exact ⟨acY,false,(nc (nU rfl rfl rfl rfl (Jv (by omega))) nn),aok,⟨fun h=> (by cases h),fun h=> h.elim⟩⟩
 ·exact ⟨acZ,false,(nc (nU rfl rfl rfl rfl (s70 (by omega))) nn),aol,⟨fun h=> (by cases h),fun h=> h.elim⟩⟩
end
theorem arz {x:qM} (a0:x.z 0=0):needs x.F akX:=(nc (nC rfl (show x.z 0=0 by omega)) nn)
end Ci
end Go.Proofs.YtnegekppaoedgaaGreatDoor
end

/-
Plain programs that stop or run on: loops, ways that meet, and how an evaluation follows them. Over any program.
-/
import Derived.Test.YtnegekppaoedgaaGreatDoorQ04
import Derived.Test.YtnegekppaoedgaaGreatDoorQ01
namespace Go.Proofs.YtnegekppaoedgaaGreatDoor
section
open Go.RowKit
def gq {A B:Type} (p:Option (A⊕B)) (k:A→Option B):Option B:=match p with
 | none=> none
 | some (.inl a)=> k a
 | some (.inr b)=> some b
def rE {S B:Type} (body:S→Option (S⊕B)):Nat→S→Option B
 | 0,_=> none
 | n + 1,s=> match body s with
  | none=> none
  | some (.inl s')=> rE body n s'
  | some (.inr b)=> some b
open Classical in
noncomputable def iY {S B:Type} (body:S→Option (S⊕B)) (s:S):Option B:=if h:∃b n,rE body n s=some b then some h.choose else none
theorem IY {S B:Type} {body:S→Option (S⊕B)}:∀{n:Nat} {s:S} {b:B},rE body n s=some b→rE body (n + 1) s=some b
 | 0,s,b,h=> by cases h
 | n + 1,s,b,h=> by
  simp only [rE] at h
  rw [rE]
  cases hb:body s with
  | none=> rw [hb] at h;cases h
  | some f=>
   rw [hb] at h
   cases f with
   | inl s'=> exact IY (n:=n) h
   | inr b'=> exact h
theorem VG {S B:Type} {body:S→Option (S⊕B)} {n m:Nat} (hm:n≤m) {s:S} {b:B} (h:rE body n s=some b):rE body m s=some b:=by
 induction hm with
 | refl=> exact h
 | step _ ih=> exact IY ih
theorem abp {S B:Type} {body:S→Option (S⊕B)} {n m:Nat} {s:S} {b c:B} (h:rE body n s=some b) (k:rE body m s=some c):b=c:=by
 have h1:=VG (Nat.le_max_left n m) h
 have h2:=VG (Nat.le_max_right n m) k
 rw [h1] at h2
 injection h2
theorem sW {S B:Type} {body:S→Option (S⊕B)} {s:S} {b:B}:iY body s=some b↔∃n,rE body n s=some b:=by
 unfold iY
 constructor
 ·intro h
  split at h
  ·rename_i hx
   injection h with h
   subst h
   exact hx.choose_spec
  ·cases h
 ·rintro ⟨n,h⟩
  have hx:∃b n,rE body n s=some b:=⟨b,n,h⟩
  rw [dif_pos hx]
  obtain ⟨m,hm⟩:=hx.choose_spec
  rw [abp hm h]
theorem Dc {S B:Type} (body:S→Option (S⊕B)) (s:S):iY body s=match body s with
  | none=> none
  | some (.inl s')=> iY body s'
  | some (.inr b)=> some b:=by
 apply Option.ext
 intro b
 rw [sW]
 constructor
 ·rintro ⟨n,h⟩
  cases n with
  | zero=> cases h
  | succ n=>
   rw [rE] at h
   cases hb:body s with
   | none=> rw [hb] at h;cases h
   | some f=>
    rw [hb] at h
    cases f with
    | inl s'=> exact sW.2 ⟨n,h⟩
    | inr b'=> exact h
 ·intro h
  cases hb:body s with
  | none=> rw [hb] at h;cases h
  | some f=>
   rw [hb] at h
   cases f with
   | inl s'=>
    obtain ⟨n,hn⟩:=sW.1 h
    exact ⟨n + 1,by rw [rE,hb];exact hn⟩
   | inr b'=> exact ⟨1,by rw [rE,hb];exact h⟩
theorem SS {S B:Type} {body:S→Option (S⊕B)} {s s':S} (h:body s=some (.inl s')):iY body s=iY body s':=by rw [Dc,h]
theorem uY {S B:Type} {body:S→Option (S⊕B)} {s:S} {b:B} (h:body s=some (.inr b)):iY body s=some b:=by rw [Dc,h]
def Good {S B:Type} (J:S→Prop) (G:B→Prop):S⊕B→Prop
 | .inl s=> J s
 | .inr b=> G b
theorem Vy.of {S B:Type} {body:S→Option (S⊕B)} {s0:S} {b:B} {c:fJ→(Ex→fJ→Prop)→Prop} {st:fJ} {Q:Ex→fJ→Prop} (E:S→List (Nat×AV)) (M:S→List (Nat×Inst)) (G:B→Prop) (h:iY body s0=some b) (hG:G b) (hen:Enters st (E s0) (M s0))
  (round:∀(J:S→Prop) (s:S) (f:S⊕B),body s=some f→Good J G f→c (uh (E s) (M s)) fun e st'=> match e with
   | .normal=> ∃x',J x'∧Enters st' (E x') (M x')
   | e=> Q e st'):Vy c st Q:=by
 obtain ⟨n,hn⟩:=sW.1 h
 refine ⟨⟨S,E,M,fun n s=> rE body n s=some b,⟨n,s0,hn,hen⟩,fun n s hs=> ?_⟩⟩
 cases n with
 | zero=> cases hs
 | succ n=>
  rw [rE] at hs
  cases hb:body s with
  | none=> rw [hb] at hs;cases hs
  | some f=>
   rw [hb] at hs
   refine round _ s f hb ?_
   cases f with
   | inl s'=> exact ⟨n,Nat.lt_succ_self n,hs⟩
   | inr b'=>
    injection hs with hs
    subst hs
    exact hG
theorem aaN.of {S B:Type} {p:Option (S⊕B)} {k:S→Option B} {b:B} {x:(Ex→fJ→Prop)→Prop} {y:fJ→(Ex→fJ→Prop)→Prop} {Q:Ex→fJ→Prop} (E:S→List (Nat×AV)) (M:S→List (Nat×Inst)) (G:B→Prop) (h:gq p k=some b) (hG:G b)
  (ha:∀(J:S→Prop) (f:S⊕B),p=some f→Good J G f→x fun e st'=> match e with
   | .normal=> ∃z,J z∧Enters st' (E z) (M z)
   | e=> Q e st')
  (hb:∀(s:S) (b:B),k s=some b→G b→y (uh (E s) (M s)) Q):aaN x y Q:=by
 cases hp:p with
 | none=> rw [hp] at h;cases h
 | some f=>
  rw [hp] at h
  refine ⟨⟨S,E,M,fun z=> ∃b,k z=some b∧G b,ha _ f hp ?_,fun z ⟨b,h1,h2⟩=> hb z b h1 h2⟩⟩
  cases f with
  | inl s=> exact ⟨b,h,hG⟩
  | inr b'=>
   injection h with h
   subst h
   exact hG
theorem anm {A B:Type} {p:Option A} {k:A→Option B} {b:B} (h:p.bind k=some b):∃x,p=some x∧k x=some b:=by
 cases p with
 | none=> cases h
 | some x=> exact ⟨x,rfl,h⟩
theorem bP {A B:Type} {p:Option A} {k:A→Option B} {b:B} {G:Prop} (h:p.bind k=some b) (c:∀x,p=some x→k x=some b→G):G:=
 let ⟨x,h1,h2⟩:=anm h
 c x h1 h2
theorem ifp {B:Type} {b:Bool} {p q:Option B} {f:B} {X Y:Prop} (h:(bif b then p else q)=some f) (h1:b=true→p=some f→X) (h2:b=false→q=some f→Y):IFp b X Y:=by
 cases b
 ·exact ⟨fun e=> (by cases e),fun e=> h2 e h⟩
 ·exact ⟨fun e=> h1 e h,fun e=> (by cases e)⟩
def uZ (b:Bool):Option Unit:=bif b then some () else none
theorem IZ {b:Bool} {B:Type} {k:Unit→Option B} {f:B} (h:(uZ b).bind k=some f):b=true∧k ()=some f:=by
 cases b
 ·cases h
 ·exact ⟨rfl,h⟩
theorem SV {b:Bool} {B:Type} {k:Unit→Option B} {f:B} {G:Prop} (h:(uZ b).bind k=some f) (c:b=true→k ()=some f→G):G:=
 let ⟨h1,h2⟩:=IZ h
 c h1 h2
def oV {A:Type} (l:List A) (i:Int):Option A:=bif decide (0≤i) then l[i.toNat]? else none
theorem ae6 {A:Type} {l:List A} {i:Int} {x:A} (h:oV l i=some x):0≤i∧i < (l.length:Int):=by
 unfold oV at h
 by_cases hi:0≤i
 ·simp only [hi,decide_true,cond_true] at h
  have:=(List.getElem?_eq_some_iff.1 h).1
  omega
 ·simp [hi] at h
theorem uF {A:Type} {enc:A→List D} {l:List A} {i:Int} {x:A} (h:oV l i=some x):0≤i∧i < ((List.map enc l).length:Int):=by
 rw [List.length_map]
 exact ae6 h
theorem uG {A:Type} {enc:A→List D} {l:List A} {i:Int} {x:A} (h:oV l i=some x):(List.map enc l)[i.toNat]? =some (enc x):=by
 unfold oV at h
 by_cases hi:0≤i
 ·simp only [hi,decide_true,cond_true] at h
  rw [List.getElem?_map,h]
  rfl
 ·simp [hi] at h
def encI (k:IntKind) (x:Int):List D:= [.v (.int k x)]
def jo (x:Bool):List D:= [.v (.bool x)]
def encS (x:ByteArray):List D:= [.v (.string x)]
def aqC {A:Type} (enc:A→List D) (x:List A):List D:= [.fz (List.map enc x)]
def SX:AV→Bool
 | .d _=> true
 | .fp _=> true
 | _=> false
theorem X0 {cs:List AV} (hc:cs.all SX=true):∀(k:List AV→List (Nat×Nat)→Step),kJ (cs.map some) k=k cs []:=by
 induction cs with
 | nil=> intro k;rfl
 | cons c cs ih=>
  intro k
  rw [List.all_cons,Bool.and_eq_true] at hc
  have ih:=ih hc.2
  have h1:=hc.1
  cases c <;> first | (cases h1;done) | (simp only [List.map_cons,kJ,arg1,arg0,ih,List.nil_append])
theorem zG (ys:List (Option AV)):∀(xs:List (Option AV)) (k:List AV→List (Nat×Nat)→Step),kJ (xs ++ ys) k=kJ xs fun a l=> kJ ys fun b l'=> k (a ++ b) (l ++ l'):=by
 intro xs
 induction xs with
 | nil=> intro k;simp [kJ]
 | cons x xs ih=>
  intro k
  cases x with
  | none=> rfl
  | some v=>
   have one:∀(g:(AV→List (Nat×Nat)→Step)→Step),(kJ (some v::(xs ++ ys)) k=g fun x l=> kJ (xs ++ ys) fun zs m=> k (x::zs) (l ++ m))→(∀k',kJ (some v::xs) k'=g fun x l=> kJ xs fun zs m=> k' (x::zs) (l ++ m))→kJ (some v::xs ++ ys) k=kJ (some v::xs) fun a l=> kJ ys fun b l'=> k (a ++ b) (l ++ l'):=by
    intro g h1 h2
    rw [List.cons_append,h1,h2]
    congr 1
    funext x l
    rw [ih]
    simp only [List.cons_append,List.append_assoc]
   cases v with
   | agg cs=> exact one (fun q=> OU cs fun x l=> q (.agg x) l) rfl (fun _=> rfl)
   | _=> exact one (fun q=> arg1 _ q) rfl (fun _=> rfl)
theorem ah1 {T:Nat→TI} {base:Nat} {env:Nat→Option AV} {F:FuncId→List AV→AV→Prop} {m:Mem} {K:AV→Mem→Prop} {o:Oper} {fv:Operand} {xs:Array Operand} {ts:Array TypeId} {f:FuncId} {cs:List AV} (ho:o.op= .call {callee:= .value fv,args:=xs,argTypes:=ts}) (hw:Nat.beq (qI T fv) 0=true) (hfv:aJ env fv=some (.fn f cs)) (hc:cs.all SX=true)
  (h:(kJ (xs.toList.map (aJ env)) fun ys l=> .call f (ys ++ cs) fun r=> bif scalar r then recv (base + o.dst.getD 0) r .ret else Xr l (recv (base + o.dst.getD 0) r .ret)).wp F m K):(iL T base env o).wp F m K:=by
 have e:iL T base env o=uP (base + o.dst.getD 0) (aJ env fv) (xs.toList.map (aJ env)):=by
  unfold iL
  rw [ho]
  show (bif Nat.beq (qI T fv) 0 then _ else _:Step)=_
  rw [hw]
  rfl
 have hc1:cs.all cap1=true:=List.all_eq_true.2 fun x hx=> by
  have:=List.all_eq_true.1 hc x hx
  cases x <;> first | rfl | cases this
 rw [e,hfv]
 unfold uP
 simp only [hc1,cond_true]
 unfold ahU
 rw [zG]
 simp only [X0 hc,List.append_nil]
 exact h
def uj:Step→Mem→Step×Mem
 | .Am s g k,m=> match m.at_ s g with
  | some (.box cs)=> uj (k cs) m
  | _=> (.fail,m)
 | .yC s g k,m=> match m.at_ s g with
  | some (.rows _ es _)=> uj (k es) m
  | _=> (.fail,m)
 | .OO s g k,m=> match m.at_ s g with
  | some (.qP ck es)=> uj (k ck es) m
  | _=> (.fail,m)
 | .RZ s g k,m=> match m.at_ s g with
  | some (.rows sz es false)=> uj (k sz es) m
  | _=> (.fail,m)
 | .OQ s g z k,m=> match m.at_ s g with
  | some (.rows sz _ _)=> bif Nat.beq sz z then uj k m else (.fail,m)
  | _=> (.fail,m)
 | .wr s g i k,m=> uj k (m.set s g (some i))
 | .new s i k,m=> uj (k (m.gen s + 1)) (m.add s i)
 | .app s g sz xs k,m=> match m.at_ s g with
  | some (.rows sz' es false)=> bif Nat.beq sz sz' then uj (k (m.gen s + 1)) ((m.set s g none).add s (.rows sz (es ++ xs) false)) else (.fail,m)
  | _=> (.fail,m)
 | .nV s g k,m=> match m.at_ s g with
  | some (.rows sz es _)=> uj k (m.set s g (some (.rows sz es true)))
  | _=> (.fail,m)
 | .ret v,m=> (.ret v,m)
 | .elem es i k,m=> (.elem es i k,m)
 | .call f args k,m=> (.call f args k,m)
 | .chk p k,m=> (.chk p k,m)
 | .br b x y,m=> (.br b x y,m)
 | .fail,m=> (.fail,m)
section
variable {F : FuncId → List AV → AV → Prop}
theorem abq (s:Step):∀(m:Mem) (K:AV→Mem→Prop),(uj s m).1.wp F (uj s m).2 K→s.wp F m K:=by
 induction s with
 | ret v=> exact fun m K h=> h
 | Am s g k ih=>
  intro m K h
  simp only [uj] at h
  simp only [Step.wp]
  split at h
  ·rename_i hm
   simp only [hm]
   exact ih _ _ _ h
  ·exact h.elim
 | yC s g k ih=>
  intro m K h
  simp only [uj] at h
  simp only [Step.wp]
  split at h
  ·rename_i hm
   simp only [hm]
   exact ih _ _ _ h
  ·exact h.elim
 | OO s g k ih=>
  intro m K h
  simp only [uj] at h
  simp only [Step.wp]
  split at h
  ·rename_i hm
   simp only [hm]
   exact ih _ _ _ _ h
  ·exact h.elim
 | RZ s g k ih=>
  intro m K h
  simp only [uj] at h
  simp only [Step.wp]
  split at h
  ·rename_i hm
   simp only [hm]
   exact ih _ _ _ _ h
  ·exact h.elim
 | OQ s g z k ih=>
  intro m K h
  simp only [uj] at h
  simp only [Step.wp]
  split at h
  ·rename_i sz es ro hm
   cases hb:Nat.beq sz z
   ·rw [hb] at h;exact h.elim
   ·rw [hb] at h
    simp only [hm,hb,cond_true]
    exact ih _ _ h
  ·exact h.elim
 | wr s g i k ih=> exact fun m K h=> ih _ _ h
 | new s i k ih=> exact fun m K h=> ih _ _ _ h
 | app s g sz xs k ih=>
  intro m K h
  simp only [uj] at h
  simp only [Step.wp]
  split at h
  ·rename_i sz' es hm
   cases hb:Nat.beq sz sz'
   ·rw [hb] at h;exact h.elim
   ·rw [hb] at h
    simp only [hm,hb,cond_true]
    exact ih _ _ _ h
  ·exact h.elim
 | nV s g k ih=>
  intro m K h
  simp only [uj] at h
  simp only [Step.wp]
  split at h
  ·rename_i hm
   simp only [hm]
   exact ih _ _ h
  ·exact h.elim
 | elem es i k ih=> exact fun m K h=> h
 | call f args k ih=> exact fun m K h=> h
 | chk p k ih=> exact fun m K h=> h
 | br b x y Xz ihy=> exact fun m K h=> h
 | fail=> exact fun m K h=> h
variable {s : Step} {m m' m0 : Mem} {K : AV → Mem → Prop}
theorem Df {s':Step} (e:uj s m=(s',m')) (h:s'.wp F m' K):s.wp F m K:=abq s m K (by rw [e];exact h)
theorem W.NR (v:AV) (m':Mem) (e:uj s m=(.ret v,m')) (h:K v m'):s.wp F m K:=Df e h
theorem W.chk {p:Prop} {k:Step} (e:uj s m=(.chk p k,m')) (hp:p) (h:k.wp F m' K):s.wp F m K:=Df e ⟨hp,h⟩
theorem W.elem {es:List (List D)} {i:Nat} {k:List D→Step} {c:List D} (e:uj s m=(.elem es i k,m')) (hc:es[i]? =some c) (h:(k c).wp F m' K):s.wp F m K:=Df e ⟨c,hc,h⟩
theorem W.call {f:FuncId} {args:List AV} {k:AV→Step} {r:AV} (e:uj s m=(.call f args k,m')) (hf:F f args r) (h:(k r).wp F m' K):s.wp F m K:=Df e ⟨r,hf,h⟩
theorem W.len {A:Type} {enc:A→List D} {l:List A} (e:uj s m=(.ret (.d (.v (.int .i64 ((List.map enc l).length:Int)))),m')) (h:K (.d (.v (.int .i64 (l.length:Int)))) m'):s.wp F m K:=by
 rw [List.length_map] at e
 exact Df e h
end
def SY (y:fJ→(Ex→fJ→Prop)→Prop) (Q:Ex→fJ→Prop):Ex→fJ→Prop
 | .normal,st=> y st Q
 | .exit i,st=> Q (.exit i) st
 | .ret,st=> Q .ret st
def mW (id:Nat) (Q:Ex→fJ→Prop):Ex→fJ→Prop
 | .normal,st=> Q .normal st
 | .exit i,st=> bif Nat.beq i id then Q .normal st else Q (.exit i) st
 | .ret,st=> Q .ret st
def iI {S:Type} (E:S→List (Nat×AV)) (M:S→List (Nat×Inst)) (J:S→Prop) (Q:Ex→fJ→Prop):Ex→fJ→Prop
 | .normal,st=> ∃x,J x∧Enters st (E x) (M x)
 | .exit i,st=> Q (.exit i) st
 | .ret,st=> Q .ret st
section
variable {T : Nat → TI} {base nt : Nat} {F : FuncId → List AV → AV → Prop} {js : List Nat} {st : fJ} {Q : Ex → fJ → Prop}
theorem SY.e {y:fJ→(Ex→fJ→Prop)→Prop} {i:Nat} (h:Q (.exit i) st):SY y Q (.exit i) st:=h
theorem SY.r {y:fJ→(Ex→fJ→Prop)→Prop} (h:Q .ret st):SY y Q .ret st:=h
theorem mW.x {id:Nat} (h:Q .normal st):mW id Q (.exit id) st:=by
 show bif Nat.beq id id then _ else _
 rw [Nat.beq_refl]
 exact h
theorem mW.e {id i:Nat} (hi:Nat.beq i id=false) (h:Q (.exit i) st):mW id Q (.exit i) st:=by
 show bif Nat.beq i id then _ else _
 rw [hi]
 exact h
theorem mW.r {id:Nat} (h:Q .ret st):mW id Q .ret st:=h
theorem iI.e {S:Type} {E:S→List (Nat×AV)} {M:S→List (Nat×Inst)} {J:S→Prop} {i:Nat} (h:Q (.exit i) st):iI E M J Q (.exit i) st:=h
theorem iI.r {S:Type} {E:S→List (Nat×AV)} {M:S→List (Nat×Inst)} {J:S→Prop} (h:Q .ret st):iI E M J Q .ret st:=h
theorem Enters.of (fl:List (Nat×Nat)) (σ:List (Nat×Nat×Nat)) {E:List (Nat×AV)} {M:List (Nat×Inst)} (m:Mem) (h0:Sl st.m fl=some m) (h1:Kr σ M=true) (h2:oO σ ⟨st.env,m⟩ E) (h3:vY σ ⟨st.env,m⟩ M):Enters st E M:=by
 refine ⟨fl,σ,?_⟩
 rw [h0]
 exact ⟨h1,h2,h3⟩
theorem oO.c {σ:List (Nat×Nat×Nat)} {t:Nat} {v:AV} {r:List (Nat×AV)} (hl:Xw v=true) (h:G9 (BA st.m v) (iD (st.env t))=some (aaM σ v)) (hr:oO σ st r):oO σ st ((t,v)::r):=by
 simp only [oO,hl]
 exact ⟨h,hr⟩
theorem vY.c {σ:List (Nat×Nat×Nat)} {s:Nat} {i:Inst} {r:List (Nat×Inst)} (hl:Xx i=true) (h:G9 (BD st.m i) (st.m.at_ (sig σ s).1 (sig σ s).2)=some (Sj σ i)) (hr:vY σ st r):vY σ st ((s,i)::r):=by
 simp only [vY,hl]
 exact ⟨h,hr⟩
theorem oO.g {σ:List (Nat×Nat×Nat)} {t:Nat} {f:FuncId} {cs:List AV} {r:List (Nat×AV)} (hc:cs.all SX=true) (h:G9 (BA st.m (.fn f cs)) (iD (st.env t))=some (.fn f cs)) (hr:oO σ st r):oO σ st ((t,.fn f cs)::r):=by
 have h1:cs.all OV=true:=List.all_eq_true.2 fun x hx=> by
  have:=List.all_eq_true.1 hc x hx
  cases x <;> first | rfl | cases this
 have h2:cs.map (Ap σ)=cs:=by
  have:∀x∈cs,Ap σ x=x:=fun x hx=> by
   have:=List.all_eq_true.1 hc x hx
   cases x <;> first | rfl | cases this
  exact (List.map_congr_left this).trans (List.map_id' cs)
 refine oO.c h1 ?_ hr
 show _=some (AV.fn f (cs.map (Ap σ)))
 rw [h2]
 exact h
theorem A.skip (h:Q .normal st):AW T base nt F js .skip st Q:=h
theorem A.seq {a b:Code} (hj:uS js b=false) (h:AW T base nt F js a st (SY (AW T base nt F js b) Q)):AW T base nt F js (.seq a b) st Q:=by
 have e:SY (AW T base nt F js b) Q=fun e st'=> match e with
   | .normal=> AW T base nt F js b st' Q
   | e=> Q e st':=by
  funext e st'
  cases e <;> rfl
 rw [e] at h
 simp only [AW,hj]
 exact h
theorem A.block {id:Nat} {c:Code} (h:AW T base nt F js c st (mW id Q)):AW T base nt F js (.block id c) st Q:=by
 have e:mW id Q=fun e st'=> match e with
   | .exit i=> bif Nat.beq i id then Q .normal st' else Q (.exit i) st'
   | e=> Q e st':=by
  funext e st'
  cases e <;> rfl
 rw [e] at h
 exact h
theorem A.join {S B:Type} {a b:Code} {p:Option (S⊕B)} {k:S→Option B} {o:B} (E:S→List (Nat×AV)) (M:S→List (Nat×Inst)) (G:B→Prop) (h:gq p k=some o) (hG:G o) (hj:uS js b=true)
  (ha:∀(J:S→Prop) (f:S⊕B),p=some f→Good J G f→AW T base nt F js a st (iI E M J Q))
  (hb:∀(s:S) (o:B),k s=some o→G o→AW T base nt F js b (uh (E s) (M s)) Q):AW T base nt F js (.seq a b) st Q:=by
 simp only [AW,hj]
 refine aaN.of E M G h hG (fun J f h1 h2=> ?_) hb
 have e:iI E M J Q=fun e st'=> match e with
   | .normal=> ∃z,J z∧Enters st' (E z) (M z)
   | e=> Q e st':=by
  funext e st'
  cases e <;> rfl
 have:=ha J f h1 h2
 rw [e] at this
 exact this
theorem A.loop {S B:Type} {c:Code} {body:S→Option (S⊕B)} {s0:S} {o:B} (E:S→List (Nat×AV)) (M:S→List (Nat×Inst)) (G:B→Prop) (h:iY body s0=some o) (hG:G o) (hen:Enters st (E s0) (M s0))
  (round:∀(J:S→Prop) (s:S) (f:S⊕B),body s=some f→Good J G f→AW T base nt F js c (uh (E s) (M s)) (iI E M J Q)):AW T base nt F js (.loop c) st Q:=by
 refine Vy.of E M G h hG hen (fun J s f h1 h2=> ?_)
 have e:iI E M J Q=fun e st'=> match e with
   | .normal=> ∃x',J x'∧Enters st' (E x') (M x')
   | e=> Q e st':=by
  funext e st'
  cases e <;> rfl
 have:=round J s f h1 h2
 rw [e] at this
 exact this
theorem A.ano {c:Operand} {x y:Code} (e:cO st.env c=some (.kb true)) (h:AW T base nt F js x st Q):AW T base nt F js (.cond c x y) st Q:=by
 simp only [AW,e]
 exact h
theorem A.anp {c:Operand} {x y:Code} (e:cO st.env c=some (.kb false)) (h:AW T base nt F js y st Q):AW T base nt F js (.cond c x y) st Q:=by
 simp only [AW,e]
 exact h
theorem A.gV {B:Type} {c:Operand} {x y:Code} {b:Bool} {p q:Option B} {f:B} (e:cO st.env c=some (.d (.v (.bool b)))) (hb:(bif b then p else q)=some f) (h1:b=true→p=some f→AW T base nt F js x st Q) (h2:b=false→q=some f→AW T base nt F js y st Q):AW T base nt F js (.cond c x y) st Q:=by
 simp only [AW,e]
 exact ifp hb h1 h2
theorem A.ajQ {c:Operand} {x y:Code} (e:cO st.env c=some (.d (.v (.bool true)))) (h:AW T base nt F js x st Q):AW T base nt F js (.cond c x y) st Q:=by
 simp only [AW,e]
 exact ⟨fun _=> h,fun e=> (by cases e)⟩
theorem A.ajR {c:Operand} {x y:Code} (e:cO st.env c=some (.d (.v (.bool false)))) (h:AW T base nt F js y st Q):AW T base nt F js (.cond c x y) st Q:=by
 simp only [AW,e]
 exact ⟨fun e=> (by cases e),fun _=> h⟩
theorem A.qh {i:Nat} {l:List Oper} (hd:J9 T l.toArray=true) (h:bF T base nt F l l st (Q .normal)):AW T base nt F js (.region i l.toArray true) st Q:=Or.inl ⟨hd,h⟩
theorem A.ae7 {i:Nat} {l:List Oper} (c:List Nat) (hd:Az T l.toArray c=true) (h:G8 T base nt F l.toArray c st (Q .normal)):AW T base nt F js (.region i l.toArray true) st Q:=Or.inr ⟨c,hd,h⟩
variable {ops r : List Oper} {K : fJ → Prop} {dst : Option Tmp} {op : Op} {ty : TypeId} {pos : String} {after : Array Edge}
theorem R.end_ {l:List Oper} (h:K st):G8 T base nt F l.toArray [] st K:=h
theorem R.at_ {l:List Oper} {i:Nat} {r:List Nat} {o:Oper} (e:l[i]? =some o) (hs:jY base l st.env o=true) (h:bF T base nt F l [o] st fun st'=> G8 T base nt F l.toArray r st' K):G8 T base nt F l.toArray (i::r) st K:=by
 have e':l.toArray[i]? =some o:=by simpa using e
 unfold G8
 rw [e']
 exact ⟨hs,h⟩
theorem R.nil (h:K st):bF T base nt F ops [] st K:=h
theorem R.one (hd:jw nt ⟨dst,op,ty,pos,after,none⟩=true) (h:(iL T base st.env ⟨dst,op,ty,pos,after,none⟩).wp F st.m fun v m=> bF T base nt F ops r ⟨aZ st.env dst v,m⟩ K):bF T base nt F ops (⟨dst,op,ty,pos,after,none⟩::r) st K:=by
 simp only [bF,hd]
 exact h
theorem R.skip {j:Nat} {want:Bool} {t:Tmp} (hd:jw nt ⟨dst,op,ty,pos,after,some (j,want)⟩=true) (et:oN ops j=some t) (e:st.env t=some (.kb !want)) (h:bF T base nt F ops r ⟨aZ st.env dst (.bH []),st.m⟩ K):bF T base nt F ops (⟨dst,op,ty,pos,after,some (j,want)⟩::r) st K:=by
 simp only [bF,hd,et,e]
 cases want <;> exact h
theorem R.none_ {j:Nat} {want:Bool} {t:Tmp} (hd:jw nt ⟨dst,op,ty,pos,after,some (j,want)⟩=true) (et:oN ops j=some t) (e:st.env t=some (.bH [])) (h:bF T base nt F ops r ⟨aZ st.env dst (.bH []),st.m⟩ K):bF T base nt F ops (⟨dst,op,ty,pos,after,some (j,want)⟩::r) st K:=by
 simp only [bF,hd,et,e]
 exact h
theorem R.run {j:Nat} {want:Bool} {t:Tmp} (hd:jw nt ⟨dst,op,ty,pos,after,some (j,want)⟩=true) (et:oN ops j=some t) (e:st.env t=some (.kb want)) (h:(iL T base st.env ⟨dst,op,ty,pos,after,some (j,want)⟩).wp F st.m fun v m=> bF T base nt F ops r ⟨aZ st.env dst v,m⟩ K):bF T base nt F ops (⟨dst,op,ty,pos,after,some (j,want)⟩::r) st K:=by
 simp only [bF,hd,et,e]
 cases want <;> exact h
theorem R.gT {B:Type} {p q:Option B} {f:B} {j:Nat} {t:Tmp} {b:Bool} (hd:jw nt ⟨dst,op,ty,pos,after,some (j,true)⟩=true) (et:oN ops j=some t) (e:st.env t=some (.d (.v (.bool b)))) (hb:(bif b then p else q)=some f)
  (h1:b=true→p=some f→(iL T base (jI st.env t (some (.kb true))) ⟨dst,op,ty,pos,after,some (j,true)⟩).wp F st.m fun v m=> bF T base nt F ops r ⟨aZ (jI st.env t (some (.kb true))) dst v,m⟩ K)
  (h2:b=false→q=some f→bF T base nt F ops r ⟨aZ (jI st.env t (some (.kb false))) dst (.bH []),st.m⟩ K):bF T base nt F ops (⟨dst,op,ty,pos,after,some (j,true)⟩::r) st K:=by
 simp only [bF,hd,et,e]
 exact ifp hb h1 h2
theorem R.gF {B:Type} {p q:Option B} {f:B} {j:Nat} {t:Tmp} {b:Bool} (hd:jw nt ⟨dst,op,ty,pos,after,some (j,false)⟩=true) (et:oN ops j=some t) (e:st.env t=some (.d (.v (.bool b)))) (hb:(bif b then p else q)=some f)
  (h1:b=true→p=some f→bF T base nt F ops r ⟨aZ (jI st.env t (some (.kb true))) dst (.bH []),st.m⟩ K)
  (h2:b=false→q=some f→(iL T base (jI st.env t (some (.kb false))) ⟨dst,op,ty,pos,after,some (j,false)⟩).wp F st.m fun v m=> bF T base nt F ops r ⟨aZ (jI st.env t (some (.kb false))) dst v,m⟩ K):bF T base nt F ops (⟨dst,op,ty,pos,after,some (j,false)⟩::r) st K:=by
 simp only [bF,hd,et,e]
 exact ifp hb h1 h2
theorem anq {env:Nat→Option AV} {m:Mem} {K:AV→Mem→Prop} {o:Oper} {fv:Operand} {xs:Array Operand} {ts:Array TypeId} {f g:FuncId} {gc:List AV} (vs:List (Option AV)) (ho:o.op= .call {callee:= .value fv,args:=xs,argTypes:=ts}) (hw:Nat.beq (qI T fv) 0=true) (hfv:aJ env fv=some (.fn f [])) (hl:xs.toList.map (aJ env)=vs ++ [some (.fn g gc)]) (hc:gc.all SX=true)
  (h:(kJ vs fun ys l=> .call f (ys ++ [.fn g gc]) fun r=> bif scalar r then recv (base + o.dst.getD 0) r .ret else Xr l (recv (base + o.dst.getD 0) r .ret)).wp F m K):(iL T base env o).wp F m K:=by
 refine ah1 ho hw hfv rfl ?_
 have X3:∀(cs:List AV),cs.all SX=true→∀(k:List AV→List (Nat×Nat)→Step),OU cs k=k cs []:=by
  intro cs
  induction cs with
  | nil=> exact fun _ k=> rfl
  | cons c cs ih=>
   intro hc k
   rw [List.all_cons,Bool.and_eq_true] at hc
   have ih:=ih hc.2
   have h1:=hc.1
   cases c <;> first | (cases h1;done) | (simp only [OU,arg0,ih,List.nil_append])
 have e:∀k:List AV→List (Nat×Nat)→Step,kJ [some (.fn g gc)] k=k [.fn g gc] []:=by
  intro k
  show arg1 (.fn g gc) (fun x l=> kJ [] fun xs m=> k (x::xs) (l ++ m))=_
  simp only [arg1,X3 gc hc,kJ,List.append_nil]
 rw [hl,zG]
 simp only [e,List.append_nil]
 exact h
end
end
section
open Go.RowKit
abbrev VI (n:Int):AV:= .d (.v (.int .i64 n))
abbrev VB (b:Bool):AV:= .d (.v (.bool b))
abbrev VS (s:ByteArray):AV:= .d (.v (.string s))
abbrev VF (l:List (List D)):AV:= .d (.fz l)
section
variable {T : Nat → TI} {base nt : Nat} {F : FuncId → List AV → AV → Prop} {js : List Nat} {Q : Ex → fJ → Prop} {env : Nat → Option AV} {m : Mem}
variable {ops r : List Oper} {K : fJ → Prop} {dst : Option Tmp} {op : Op} {ty : TypeId} {pos : String} {after : Array Edge}
theorem Y1 (hd:jw nt ⟨dst,op,ty,pos,after,none⟩=true) (h:(iL T base env ⟨dst,op,ty,pos,after,none⟩).wp F m fun v m=> bF T base nt F ops r ⟨aZ env dst v,m⟩ K):bF T base nt F ops (⟨dst,op,ty,pos,after,none⟩::r) ⟨env,m⟩ K:=R.one hd h
theorem Y2 {j:Nat} {want:Bool} {t:Tmp} (hd:jw nt ⟨dst,op,ty,pos,after,some (j,want)⟩=true) (et:oN ops j=some t) (e:env t=some (.kb want)) (h:(iL T base env ⟨dst,op,ty,pos,after,some (j,want)⟩).wp F m fun v m=> bF T base nt F ops r ⟨aZ env dst v,m⟩ K):bF T base nt F ops (⟨dst,op,ty,pos,after,some (j,want)⟩::r) ⟨env,m⟩ K:=R.run hd et e h
theorem YT {B:Type} {p q:Option B} {f:B} {j:Nat} {t:Tmp} {b:Bool} (hd:jw nt ⟨dst,op,ty,pos,after,some (j,true)⟩=true) (et:oN ops j=some t) (e:env t=some (.d (.v (.bool b)))) (hb:(bif b then p else q)=some f)
  (h1:b=true→p=some f→(iL T base (jI env t (some (.kb true))) ⟨dst,op,ty,pos,after,some (j,true)⟩).wp F m fun v m=> bF T base nt F ops r ⟨aZ (jI env t (some (.kb true))) dst v,m⟩ K)
  (h2:b=false→q=some f→bF T base nt F ops r ⟨aZ (jI env t (some (.kb false))) dst (.bH []),m⟩ K):bF T base nt F ops (⟨dst,op,ty,pos,after,some (j,true)⟩::r) ⟨env,m⟩ K:=R.gT hd et e hb h1 h2
theorem YF {B:Type} {p q:Option B} {f:B} {j:Nat} {t:Tmp} {b:Bool} (hd:jw nt ⟨dst,op,ty,pos,after,some (j,false)⟩=true) (et:oN ops j=some t) (e:env t=some (.d (.v (.bool b)))) (hb:(bif b then p else q)=some f)
  (h1:b=true→p=some f→bF T base nt F ops r ⟨aZ (jI env t (some (.kb true))) dst (.bH []),m⟩ K)
  (h2:b=false→q=some f→(iL T base (jI env t (some (.kb false))) ⟨dst,op,ty,pos,after,some (j,false)⟩).wp F m fun v m=> bF T base nt F ops r ⟨aZ (jI env t (some (.kb false))) dst v,m⟩ K):bF T base nt F ops (⟨dst,op,ty,pos,after,some (j,false)⟩::r) ⟨env,m⟩ K:=R.gF hd et e hb h1 h2
theorem Zm (v:AV) (m':Mem) (hd:jw nt ⟨dst,op,ty,pos,after,none⟩=true) (e:uj (iL T base env ⟨dst,op,ty,pos,after,none⟩) m=(.ret v,m')) (h:bF T base nt F ops r ⟨aZ env dst v,m'⟩ K):bF T base nt F ops (⟨dst,op,ty,pos,after,none⟩::r) ⟨env,m⟩ K:=R.one hd (W.NR v m' e h)
theorem Zo (v:AV) {m':Mem} (hd:jw nt ⟨dst,op,ty,pos,after,none⟩=true) (e:uj (iL T base env ⟨dst,op,ty,pos,after,none⟩) m=(.ret v,m')) (h:bF T base nt F ops r ⟨aZ env dst v,m'⟩ K):bF T base nt F ops (⟨dst,op,ty,pos,after,none⟩::r) ⟨env,m⟩ K:=R.one hd (W.NR v m' e h)
theorem Zu {j:Nat} {want:Bool} {t:Tmp} (v:AV) {m':Mem} (hd:jw nt ⟨dst,op,ty,pos,after,some (j,want)⟩=true) (et:oN ops j=some t) (e:env t=some (.kb want)) (e2:uj (iL T base env ⟨dst,op,ty,pos,after,some (j,want)⟩) m=(.ret v,m')) (h:bF T base nt F ops r ⟨aZ env dst v,m'⟩ K):bF T base nt F ops (⟨dst,op,ty,pos,after,some (j,want)⟩::r) ⟨env,m⟩ K:=R.run hd et e (W.NR v m' e2 h)
end
section
variable {σ : List (Nat × Nat × Nat)} {st : fJ} {Q : Ex → fJ → Prop}
theorem Ze {σ:List (Nat×Nat×Nat)} {t:Nat} {v:AV} {r:List (Nat×AV)} (hl:Xw v=true) (h:G9 (BA st.m v) (iD (st.env t))=some (aaM σ v)) (hr:oO σ st r):oO σ st ((t,v)::r):=oO.c hl h hr
theorem Zc {σ:List (Nat×Nat×Nat)} {s:Nat} {i:Inst} {r:List (Nat×Inst)} (hl:Xx i=true) (h:G9 (BD st.m i) (st.m.at_ (sig σ s).1 (sig σ s).2)=some (Sj σ i)) (hr:vY σ st r):vY σ st ((s,i)::r):=vY.c hl h hr
theorem Zf (fl:List (Nat×Nat)) (σ:List (Nat×Nat×Nat)) {E:List (Nat×AV)} {M:List (Nat×Inst)} {m:Mem} (h0:Sl st.m fl=some m) (h1:Kr σ M=true) (h2:oO σ ⟨st.env,m⟩ E) (h3:vY σ ⟨st.env,m⟩ M):Enters st E M:=Enters.of fl σ m h0 h1 h2 h3
theorem Zh {S:Type} {E:S→List (Nat×AV)} {M:S→List (Nat×Inst)} {J:S→Prop} {x:S} (hJ:J x) (fl:List (Nat×Nat)) (σ:List (Nat×Nat×Nat)) {m:Mem} (h0:Sl st.m fl=some m) (h1:Kr σ (M x)=true) (h2:oO σ ⟨st.env,m⟩ (E x)) (h3:vY σ ⟨st.env,m⟩ (M x)):iI E M J Q .normal st:=⟨x,hJ,Enters.of fl σ m h0 h1 h2 h3⟩
end
inductive Fr where
 | s (c:Code)
 | b (id:Nat)
inductive Cf where
 | code (c:Code) (fs:List Fr) (env:Nat→Option AV) (m:Mem)
 | ops (l0 l:List Oper) (fs:List Fr) (env:Nat→Option AV) (m:Mem)
 | op (s:Step) (m:Mem) (env:Nat→Option AV) (dst:Option Tmp) (l0 l:List Oper) (fs:List Fr)
 | out (e:Ex) (fs:List Fr) (env:Nat→Option AV) (m:Mem)
 | bad
section
variable (T : Nat → TI) (base nt : Nat) (F : FuncId → List AV → AV → Prop) (js : List Nat)
def KQ:List Fr→(Ex→fJ→Prop)→Ex→fJ→Prop
 | [],Q=> Q
 | .s c::fs,Q=> SY (AW T base nt F js c) (KQ fs Q)
 | .b id::fs,Q=> mW id (KQ fs Q)
def den (Q:Ex→fJ→Prop):Cf→Prop
 | .code c fs env m=> AW T base nt F js c ⟨env,m⟩ (KQ T base nt F js fs Q)
 | .ops l0 l fs env m=> bF T base nt F l0 l ⟨env,m⟩ (KQ T base nt F js fs Q .normal)
 | .op s m env dst l0 l fs=> s.wp F m fun v m=> bF T base nt F l0 l ⟨aZ env dst v,m⟩ (KQ T base nt F js fs Q .normal)
 | .out e fs env m=> KQ T base nt F js fs Q e ⟨env,m⟩
 | .bad=> False
def opC (env:Nat→Option AV) (dst:Option Tmp) (l0 l:List Oper) (fs:List Fr):Step×Mem→Cf
 | (.ret v,m)=> .ops l0 l fs (aZ env dst v) m
 | _=> .bad
def AB (l0 r:List Oper) (fs:List Fr) (env:Nat→Option AV) (m:Mem) (o:Oper):Cf:=bif jw nt o then (match o with
 | ⟨dst,op,ty,pos,after,none⟩=> opC env dst l0 r fs (uj (iL T base env ⟨dst,op,ty,pos,after,none⟩) m)
 | ⟨dst,op,ty,pos,after,some (j,want)⟩=> match oN l0 j with
  | none=> .bad
  | some t=> match env t with
   | some (.kb true)=> bif want then opC env dst l0 r fs (uj (iL T base env ⟨dst,op,ty,pos,after,some (j,want)⟩) m) else .ops l0 r fs (aZ env dst (.bH [])) m
   | some (.kb false)=> bif want then .ops l0 r fs (aZ env dst (.bH [])) m else opC env dst l0 r fs (uj (iL T base env ⟨dst,op,ty,pos,after,some (j,want)⟩) m)
   | some (.bH [])=> .ops l0 r fs (aZ env dst (.bH [])) m
   | _=> .bad) else .bad
def zH:Cf→Cf
 | .code .skip fs env m=> .out .normal fs env m
 | .code (.exit id) fs env m=> .out (.exit id) fs env m
 | .code .ret fs env m=> .out .ret fs env m
 | .code (.seq a b) fs env m=> bif uS js b then .bad else .code a (.s b::fs) env m
 | .code (.block id c) fs env m=> .code c (.b id::fs) env m
 | .code (.region _ ⟨l⟩ false) fs env m=> .ops l l fs env m
 | .code (.cond c x y) fs env m=> match cO env c with
  | some (.kb true)=> .code x fs env m
  | some (.kb false)=> .code y fs env m
  | some (.d (.v (.bool true)))=> .code x fs env m
  | some (.d (.v (.bool false)))=> .code y fs env m
  | _=> .bad
 | .code _ _ _ _=> .bad
 | .ops _ [] fs env m=> .out .normal fs env m
 | .ops l0 (o::r) fs env m=> AB T base nt l0 r fs env m o
 | .op s m env dst l0 l fs=> opC env dst l0 l fs (uj s m)
 | .out .normal (.s c::fs) env m=> .code c fs env m
 | .out (.exit i) (.s _::fs) env m=> .out (.exit i) fs env m
 | .out .ret (.s _::fs) env m=> .out .ret fs env m
 | .out .normal (.b _::fs) env m=> .out .normal fs env m
 | .out (.exit i) (.b id::fs) env m=> bif Nat.beq i id then .out .normal fs env m else .out (.exit i) fs env m
 | .out .ret (.b _::fs) env m=> .out .ret fs env m
 | .out _ [] _ _=> .bad
 | .bad=> .bad
def runM:Nat→Cf→Cf
 | 0,c=> c
 | n + 1,c=> match zH T base nt js c with
  | .code c fs env m=> runM n (.code c fs env m)
  | .ops l0 l fs env m=> runM n (.ops l0 l fs env m)
  | .op s m env dst l0 l fs=> runM n (.op s m env dst l0 l fs)
  | .out e fs env m=> runM n (.out e fs env m)
  | .bad=> .bad
theorem X4 (n:Nat) (c:Cf):runM T base nt js (n + 1) c=runM T base nt js n (zH T base nt js c):=by
 rw [runM]
 cases zH T base nt js c <;> first | rfl | (cases n <;> rfl)
end
section
variable {T : Nat → TI} {base nt : Nat} {F : FuncId → List AV → AV → Prop} {js : List Nat} {Q : Ex → fJ → Prop}
theorem KA {env:Nat→Option AV} {dst:Option Tmp} {l0 l:List Oper} {fs:List Fr} {s:Step} {m:Mem} (h:den T base nt F js Q (opC env dst l0 l fs (uj s m))):s.wp F m fun v m=> bF T base nt F l0 l ⟨aZ env dst v,m⟩ (KQ T base nt F js fs Q .normal):=by
 apply abq
 generalize uj s m=x at h
 obtain ⟨x,m'⟩:=x
 cases x <;> first | exact h | exact h.elim
theorem S9 {l0 r:List Oper} {fs:List Fr} {env:Nat→Option AV} {m:Mem} {o:Oper} (h:den T base nt F js Q (AB T base nt l0 r fs env m o)):bF T base nt F l0 (o::r) ⟨env,m⟩ (KQ T base nt F js fs Q .normal):=by
 cases hd:jw nt o with
 | false=> unfold AB at h;rw [hd] at h;exact h.elim
 | true=>
  unfold AB at h
  rw [hd] at h
  obtain ⟨dst,op,ty,pos,after,guard⟩:=o
  cases guard with
  | none=> exact R.one hd (KA h)
  | some g=>
   obtain ⟨j,want⟩:=g
   dsimp only [cond_true] at h
   cases et:oN l0 j with
   | none=> rw [et] at h;exact h.elim
   | some t=>
    rw [et] at h
    dsimp only at h
    split at h
    ·rename_i e
     cases want
     ·exact R.skip hd et e h
     ·exact R.run hd et e (KA h)
    ·rename_i e
     cases want
     ·exact R.run hd et e (KA h)
     ·exact R.skip hd et e h
    ·rename_i e
     exact R.none_ hd et e h
    ·exact h.elim
theorem abr {c:Cf} (h:den T base nt F js Q (zH T base nt js c)):den T base nt F js Q c:=by
 unfold zH at h
 split at h
 ·exact h
 ·exact h
 ·exact h
 ·rename_i a b fs env m
  cases hj:uS js b with
  | true=> rw [hj] at h;exact h.elim
  | false=> rw [hj] at h;exact A.seq hj h
 ·exact A.block h
 ·exact h
 ·split at h
  ·rename_i e;exact A.ano e h
  ·rename_i e;exact A.anp e h
  ·rename_i e;exact A.ajQ e h
  ·rename_i e;exact A.ajR e h
  ·exact h.elim
 ·exact h.elim
 ·exact h
 ·exact S9 h
 ·exact KA h
 ·exact h
 ·exact h
 ·exact h
 ·exact h
 ·rename_i i id fs env m
  cases hi:Nat.beq i id with
  | false=> rw [hi] at h;exact mW.e hi h
  | true=>
   rw [hi] at h
   have:=Nat.eq_of_beq_eq_true hi
   subst this
   exact mW.x h
 ·exact h
 ·exact h.elim
 ·exact h.elim
theorem VH:∀(n:Nat) (c:Cf),den T base nt F js Q (runM T base nt js n c)→den T base nt F js Q c
 | 0,_,h=> h
 | n + 1,_,h=> abr (VH n _ (by rw [X4] at h;exact h))
theorem je {n:Nat} {c c':Cf} (e:runM T base nt js n c=c') (h:den T base nt F js Q c'):den T base nt F js Q c:=VH n c (by rw [e];exact h)
theorem Zac (n:Nat) {c:Code} {env:Nat→Option AV} {m:Mem} {c2:Code} {zI:List Fr} {iJ:Nat→Option AV} {m2:Mem} (e:runM T base nt js n (.code c [] env m)= .code c2 zI iJ m2) (h:AW T base nt F js c2 ⟨iJ,m2⟩ (KQ T base nt F js zI Q)):AW T base nt F js c ⟨env,m⟩ Q:=je (Q:=Q) e h
theorem zJ (n:Nat) {c:Code} {env:Nat→Option AV} {m:Mem} {l2 l3:List Oper} {zI:List Fr} {iJ:Nat→Option AV} {m2:Mem} (e:runM T base nt js n (.code c [] env m)= .ops l2 l3 zI iJ m2) (h:bF T base nt F l2 l3 ⟨iJ,m2⟩ (KQ T base nt F js zI Q .normal)):AW T base nt F js c ⟨env,m⟩ Q:=je (Q:=Q) e h
theorem I4 (n:Nat) {c:Code} {fs:List Fr} {env:Nat→Option AV} {m:Mem} {c2:Code} {zI:List Fr} {iJ:Nat→Option AV} {m2:Mem} (e:runM T base nt js n (.code c fs env m)= .code c2 zI iJ m2) (h:AW T base nt F js c2 ⟨iJ,m2⟩ (KQ T base nt F js zI Q)):AW T base nt F js c ⟨env,m⟩ (KQ T base nt F js fs Q):=je (Q:=Q) e h
theorem Tc (n:Nat) {c:Code} {fs:List Fr} {env:Nat→Option AV} {m:Mem} {l2 l3:List Oper} {zI:List Fr} {iJ:Nat→Option AV} {m2:Mem} (e:runM T base nt js n (.code c fs env m)= .ops l2 l3 zI iJ m2) (h:bF T base nt F l2 l3 ⟨iJ,m2⟩ (KQ T base nt F js zI Q .normal)):AW T base nt F js c ⟨env,m⟩ (KQ T base nt F js fs Q):=je (Q:=Q) e h
theorem vN (n:Nat) {c:Code} {fs:List Fr} {env:Nat→Option AV} {m:Mem} {e2:Ex} {iJ:Nat→Option AV} {m2:Mem} (e:runM T base nt js n (.code c fs env m)= .out e2 [] iJ m2) (h:Q e2 ⟨iJ,m2⟩):AW T base nt F js c ⟨env,m⟩ (KQ T base nt F js fs Q):=je (Q:=Q) e h
theorem Rw (n:Nat) {l0 l:List Oper} {fs:List Fr} {env:Nat→Option AV} {m:Mem} {c2:Code} {zI:List Fr} {iJ:Nat→Option AV} {m2:Mem} (e:runM T base nt js n (.ops l0 l fs env m)= .code c2 zI iJ m2) (h:AW T base nt F js c2 ⟨iJ,m2⟩ (KQ T base nt F js zI Q)):bF T base nt F l0 l ⟨env,m⟩ (KQ T base nt F js fs Q .normal):=je (Q:=Q) e h
theorem lT (n:Nat) {l0 l:List Oper} {fs:List Fr} {env:Nat→Option AV} {m:Mem} {l2 l3:List Oper} {zI:List Fr} {iJ:Nat→Option AV} {m2:Mem} (e:runM T base nt js n (.ops l0 l fs env m)= .ops l2 l3 zI iJ m2) (h:bF T base nt F l2 l3 ⟨iJ,m2⟩ (KQ T base nt F js zI Q .normal)):bF T base nt F l0 l ⟨env,m⟩ (KQ T base nt F js fs Q .normal):=je (Q:=Q) e h
theorem kS (n:Nat) {l0 l:List Oper} {fs:List Fr} {env:Nat→Option AV} {m:Mem} {e2:Ex} {iJ:Nat→Option AV} {m2:Mem} (e:runM T base nt js n (.ops l0 l fs env m)= .out e2 [] iJ m2) (h:Q e2 ⟨iJ,m2⟩):bF T base nt F l0 l ⟨env,m⟩ (KQ T base nt F js fs Q .normal):=je (Q:=Q) e h
theorem Zwc (n:Nat) {s:Step} {m:Mem} {env:Nat→Option AV} {dst:Option Tmp} {l0 l:List Oper} {fs:List Fr} {c2:Code} {zI:List Fr} {iJ:Nat→Option AV} {m2:Mem} (e:runM T base nt js n (.op s m env dst l0 l fs)= .code c2 zI iJ m2) (h:AW T base nt F js c2 ⟨iJ,m2⟩ (KQ T base nt F js zI Q)):s.wp F m fun v m=> bF T base nt F l0 l ⟨aZ env dst v,m⟩ (KQ T base nt F js fs Q .normal):=je (Q:=Q) e h
theorem iZ (n:Nat) {s:Step} {m:Mem} {env:Nat→Option AV} {dst:Option Tmp} {l0 l:List Oper} {fs:List Fr} {l2 l3:List Oper} {zI:List Fr} {iJ:Nat→Option AV} {m2:Mem} (e:runM T base nt js n (.op s m env dst l0 l fs)= .ops l2 l3 zI iJ m2) (h:bF T base nt F l2 l3 ⟨iJ,m2⟩ (KQ T base nt F js zI Q .normal)):s.wp F m fun v m=> bF T base nt F l0 l ⟨aZ env dst v,m⟩ (KQ T base nt F js fs Q .normal):=je (Q:=Q) e h
theorem AL (n:Nat) {s:Step} {m:Mem} {env:Nat→Option AV} {dst:Option Tmp} {l0 l:List Oper} {fs:List Fr} {e2:Ex} {iJ:Nat→Option AV} {m2:Mem} (e:runM T base nt js n (.op s m env dst l0 l fs)= .out e2 [] iJ m2) (h:Q e2 ⟨iJ,m2⟩):s.wp F m fun v m=> bF T base nt F l0 l ⟨aZ env dst v,m⟩ (KQ T base nt F js fs Q .normal):=je (Q:=Q) e h
theorem Zoc (n:Nat) {e:Ex} {fs:List Fr} {env:Nat→Option AV} {m:Mem} {c2:Code} {zI:List Fr} {iJ:Nat→Option AV} {m2:Mem} (e0:runM T base nt js n (.out e fs env m)= .code c2 zI iJ m2) (h:AW T base nt F js c2 ⟨iJ,m2⟩ (KQ T base nt F js zI Q)):KQ T base nt F js fs Q e ⟨env,m⟩:=je (Q:=Q) e0 h
theorem Zob (n:Nat) {e:Ex} {fs:List Fr} {env:Nat→Option AV} {m:Mem} {e2:Ex} {iJ:Nat→Option AV} {m2:Mem} (e0:runM T base nt js n (.out e fs env m)= .out e2 [] iJ m2) (h:Q e2 ⟨iJ,m2⟩):KQ T base nt F js fs Q e ⟨env,m⟩:=je (Q:=Q) e0 h
end
end
namespace Ci
inductive UA where
 | b (b:Bool)
 | n (n:Int)
 | u (i:Nat)
structure X5 where
 lo:Int
 hi:Int
 ne:List Int
 md:Option Int
 rm:Option Nat
 df:Option Nat
def lK (t:Nat):Option X5:=match t with
 | 1=> some ⟨0,1099511627776,[],none,none,none⟩
 | 2=> some ⟨0,1999,[0,1,12,13],some 0,none,none⟩
 | 3=> some ⟨0,1999,[0,1,12,13],some 1,none,none⟩
 | 4=> some ⟨0,1999,[13],some 0,none,none⟩
 | 5=> some ⟨0,1999,[],some 1,none,none⟩
 | 6=> some ⟨0,1999,[13],some 1,none,none⟩
 | 7=> some ⟨1,499,[],none,none,none⟩
 | 8=> some ⟨0,499,[],none,none,none⟩
 | 9=> some ⟨2,11,[],none,none,none⟩
 | 10=> some ⟨0,1,[],none,none,none⟩
 | 11=> some ⟨0,11,[1],none,none,none⟩
 | 12=> some ⟨1,11,[],none,none,none⟩
 | 13=> some ⟨0,99999,[],none,none,none⟩
 | 14=> some ⟨3,199,[],none,none,none⟩
 | 15=> some ⟨0,2,[],none,none,none⟩
 | 16=> some ⟨1,2,[],none,none,none⟩
 | 17=> some ⟨0,1073741824,[],none,none,none⟩
 | 18=> some ⟨0,12,[2],none,none,none⟩
 | 19=> some ⟨0,40,[],none,none,none⟩
 | 20=> some ⟨41,200,[],none,none,none⟩
 | 21=> some ⟨0,200,[],none,none,none⟩
 | 22=> some ⟨1,4,[],none,none,none⟩
 | 23=> some ⟨3,4,[],none,none,none⟩
 | 24=> some ⟨0,15,[],none,none,none⟩
 | 25=> some ⟨16,100,[],none,none,none⟩
 | 26=> some ⟨0,100,[],none,none,none⟩
 | 27=> some ⟨2,11,[],none,none,none⟩
 | 28=> some ⟨0,4,[],none,none,none⟩
 | 29=> some ⟨0,1999,[],none,none,none⟩
 | 30=> some ⟨0,1999,[],none,some 9,none⟩
 | 31=> some ⟨0,1999,[],none,some 12,none⟩
 | 32=> some ⟨0,1999,[],none,some 11,none⟩
 | 33=> some ⟨0,1999,[],some 0,none,some 5⟩
 | 34=> some ⟨0,1999,[],some 1,none,some 5⟩
 | 35=> some ⟨0,1073741824,[],none,none,some 60⟩
 | 36=> some ⟨0,0,[],none,none,none⟩
 | 37=> some ⟨1,1,[],none,none,none⟩
 | 38=> some ⟨2,2,[],none,none,none⟩
 | 39=> some ⟨2,2,[],none,none,none⟩
 | 40=> some ⟨2,2,[],none,none,none⟩
 | 41=> some ⟨2,2,[],none,none,none⟩
 | 42=> some ⟨2,2,[],none,none,none⟩
 | 43=> some ⟨2,2,[],none,none,none⟩
 | 44=> some ⟨2,2,[],none,none,none⟩
 | 50=> some ⟨-9223372036854775808,-1,[],none,none,none⟩
 | 51=> some ⟨1099511627777,9223372036854775807,[],none,none,none⟩
 | 52=> some ⟨12,9223372036854775807,[],none,none,none⟩
 | 53=> some ⟨100000,9223372036854775807,[],none,none,none⟩
 | 54=> some ⟨2000,9223372036854775807,[],none,none,none⟩
 | 55=> some ⟨20,9223372036854775807,[],none,none,none⟩
 | 56=> some ⟨0,19,[],none,none,none⟩
 | 57=> some ⟨0,11,[],none,none,none⟩
 | 58=> some ⟨1,4,[],none,none,none⟩
 | 59=> some ⟨-9223372036854775808,0,[],none,none,none⟩
 | 60=> some ⟨5,9223372036854775807,[],none,none,none⟩
 | 61=> some ⟨0,4,[],none,none,none⟩
 | 62=> some ⟨0,199,[],none,none,none⟩
 | 63=> some ⟨200,9223372036854775807,[],none,none,none⟩
 | 64=> some ⟨1073741825,9223372036854775807,[],none,none,none⟩
 | 65=> some ⟨0,3,[],none,none,none⟩
 | 66=> some ⟨4,9223372036854775807,[],none,none,none⟩
 | 67=> some ⟨-9223372036854775808,9223372036854775807,[0],none,none,none⟩
 | 68=> some ⟨0,12,[],none,none,none⟩
 | 69=> some ⟨13,9223372036854775807,[],none,none,none⟩
 | 70=> some ⟨10,9223372036854775807,[],none,none,none⟩
 | _=> none
def Rx:Int→Int→Bool
 | .ofNat a,.ofNat b=> Nat.ble (Nat.succ a) b
 | .negSucc a,.negSucc b=> Nat.ble (Nat.succ b) a
 | .negSucc _,.ofNat _=> true
 | .ofNat _,.negSucc _=> false
def eqI:Int→Int→Bool
 | .ofNat a,.ofNat b=> Nat.beq a b
 | .negSucc a,.negSucc b=> Nat.beq a b
 | _,_=> false
def PI (n:Int):List Int→Bool
 | []=> false
 | m::l=> bif eqI m n then true else PI n l
def eqS (s:X5) (n:Int):Option Bool:=bif (bif Rx n s.lo then true else bif Rx s.hi n then true else PI n s.ne) then some false else bif (bif eqI s.lo n then eqI s.hi n else false) then some true else none
def ltS (s:X5) (n:Int):Option Bool:=bif Rx s.hi n then some true else bif Rx s.lo n then none else some false
def gtS (s:X5) (n:Int):Option Bool:=bif Rx n s.lo then some true else bif Rx n s.hi then none else some false
def abu:Option Bool→Option Bool
 | some b=> some (!b)
 | none=> none
def Td:Option Bool→Option UA
 | some b=> some (.b b)
 | none=> none
def lU (s:Nat):Bool:=bif Nat.beq s 13 then false else bif Nat.beq s 14 then false else bif Nat.beq s 34 then false else bif Nat.beq s 19 then false else bif Nat.beq s 25 then false else bif Nat.beq s 46 then false else bif Nat.beq s 70 then false else bif Nat.beq s 71 then false else true
def ae8 (s:X5) (i:Nat):Option UA:=match s.md with
 | some r=> some (.n r)
 | none=> match s.rm with
  | some t=> some (.u (Nat.add (Nat.mul 100 t) (Nat.add 40 (Nat.mod i 100))))
  | none=> none
def opA (s:X5) (i:Nat) (op:BinOp) (left:Bool) (n:Int):Option UA:=match op with
 | .eql=> Td (eqS s n)
 | .neq=> Td (abu (eqS s n))
 | .lss=> Td (bif left then ltS s n else gtS s n)
 | .gtr=> Td (bif left then gtS s n else ltS s n)
 | .leq=> Td (abu (bif left then gtS s n else ltS s n))
 | .geq=> Td (abu (bif left then ltS s n else gtS s n))
 | .rem=> bif left then (bif eqI n 12 then ae8 s i else none) else none
 | _=> none
def abv (i:Nat) (op:BinOp) (left:Bool) (n:Int):Option UA:=bif lU (Nat.mod i 100) then (match lK (Nat.div i 100) with
 | none=> none
 | some s=> opA s i op left n) else none
def dfS (s:X5) (j:Nat):Bool:=match s.df with
 | some k=> Nat.beq k j
 | none=> false
def mdS (s t:X5):Bool:=match s.md,t.md with
 | some a,some b=> !eqI a b
 | _,_=> false
def eqU (i j:Nat):Option Bool:=bif Nat.beq (Nat.mod i 100) (Nat.mod j 100) then (bif (bif lU (Nat.mod i 100) then true else Nat.beq (Nat.mod i 100) 13) then some true else none)
 else bif (bif lU (Nat.mod i 100) then lU (Nat.mod j 100) else false) then (match lK (Nat.div i 100),lK (Nat.div j 100) with
  | some s,some t=> bif (bif dfS s (Nat.mod j 100) then true else bif dfS t (Nat.mod i 100) then true else bif mdS s t then true else bif Rx s.hi t.lo then true else Rx t.hi s.lo) then some false else none
  | _,_=> none) else none
def abw (op:BinOp) (i j:Nat):Option Bool:=match op with
 | .eql=> eqU i j
 | .neq=> abu (eqU i j)
 | _=> none
def ae9 (i:Nat):Option Nat:=bif Nat.beq (Nat.mod i 100) 13 then some (Nat.add i 27) else none
def afa (i:Nat):Option Nat:=bif Nat.beq (Nat.mod i 100) 14 then some (Nat.add i 27) else bif Nat.beq (Nat.mod i 100) 34 then some (Nat.add i 8) else bif Nat.beq (Nat.mod i 100) 46 then some (Nat.add i 1) else none
def afb (i j:Nat):Option Nat:=bif Nat.beq (Nat.mod i 100) 34 then (bif (bif Nat.ble 41 (Nat.div i 100) then Nat.ble (Nat.div i 100) 44 else false) then (bif Nat.ble j 1 then some (Nat.add i (Nat.add 36 j)) else none) else none) else none
def wL (i:Nat):Option Bool:=bif Nat.beq (Nat.mod i 100) 70 then (match Nat.div i 100 with
 | 41=> some false
 | 42=> some true
 | 43=> some false
 | 44=> some true
 | _=> none) else bif Nat.beq (Nat.mod i 100) 71 then (match Nat.div i 100 with
 | 41=> some false
 | 42=> some false
 | 43=> some true
 | 44=> some true
 | _=> none) else none
end Ci
end Go.Proofs.YtnegekppaoedgaaGreatDoor

/-
  Evaluation of Go code on plain data: regions that draw their order. Over any program.
  Evaluation of Go code on plain data: regions that draw their order, whole. Over any program.
-/
import Derived.Test.YtiklglcjecopcaaGreatDoorQ13
namespace Go.Proofs.YtiklglcjecopcaaGreatDoor
open Go.RowKit
section
variable {P : Program} {T : Nat → TI} {base nt : Nat} {F : FuncId → List AV → AV → Prop} {w0 : Start} {A : Nat → Prop} {ops : Array Oper}
theorem pure_runs {x:Step} {m m':Mem} {v:AV} (hr:x.Runs F m v m'):x.Fits (fun _ _=> False) (fun _=> False)→m'=m∧∀q,x.Runs F q v q:=by
 induction hr with
 | ret=> exact fun _=> ⟨rfl,fun q=> .ret⟩
 | rdb h r ih=> exact fun hf=> hf.1.elim
 | rdr h r ih=> exact fun hf=> hf.1.elim
 | rdm h r ih=> exact fun hf=> hf.1.elim
 | rww=> exact fun hf=> hf.elim
 | rdz h r ih=> exact fun hf=> hf.1.elim
 | wr=> exact fun hf=> hf.elim
 | new r ih=> exact fun hf=> hf.1.elim
 | app=> exact fun hf=> hf.elim
 | frz h r ih=> exact fun hf=> hf.1.elim
 | elem h r ih=> exact fun hf=> let ⟨h1,h2⟩:=ih (hf _);⟨h1,fun q=> .elem h (h2 q)⟩
 | call h r ih=> exact fun hf=> let ⟨h1,h2⟩:=ih (hf _);⟨h1,fun q=> .call h (h2 q)⟩
 | chk h r ih=> exact fun hf=> let ⟨h1,h2⟩:=ih hf;⟨h1,fun q=> .chk h (h2 q)⟩
 | @br b x y m m' v r ih=> exact fun hf=> let ⟨h1,h2⟩:=ih (by cases b;exact hf.2;exact hf.1);⟨h1,fun q=> .br (h2 q)⟩
theorem rawOf_put {E:Nat→Option AV} {d:Option Tmp} {v:AV} {x:Operand} (h:∀t,d=some t→x≠ .tmp t):rawOf (putE E d v) x=rawOf E x:=by
 cases d with
 | none=> rfl
 | some t=>
  cases x with
  | tmp u=>
   have hne:u≠t:=fun e=> h t rfl (by rw [e])
   simp [rawOf,putE,updT,beq_dec,hne]
  | _=> rfl
theorem looks_operand {o:Oper} {x:Operand} (hx:x∈o.op.operands) {t:Tmp} (e:x= .tmp t):t∈o.looksAt ops:=by
 unfold Oper.looksAt
 refine List.mem_append_left _ (List.mem_filterMap.2 ⟨x,by simpa using hx,?_⟩)
 rw [e]
theorem looks_guard {o:Oper} {j:Nat} {w:Bool} (hg:o.guard=some (j,w)) {t:Tmp} (ht:gdst ops.toList j=some t):t∈o.looksAt ops:=by
 unfold Oper.looksAt
 rw [hg]
 refine List.mem_append_right _ ?_
 show t∈((ops[j]?).bind (·.dst)).toList
 unfold gdst at ht
 rw [←Array.getElem?_toList]
 cases hq:ops.toList[j]? with
 | none=> rw [hq] at ht;cases ht
 | some q=> rw [hq] at ht;simp [ht]
theorem Go1.put {o:Oper} {E:Nat→Option AV} {d:Option Tmp} {u v:AV} {m m1:Mem} (h:∀t,d=some t→t∉o.looksAt ops):Go1 T base F ops o (putE E d u) v m m1↔Go1 T base F ops o E v m m1:=by
 have e:opF T base (putE E d u) o=opF T base E o:=opF_congr fun x hx=> rawOf_put fun t ht e=> h t ht (looks_operand hx e)
 unfold Go1
 cases hg:o.guard with
 | none=> simp only [e]
 | some p=>
  obtain ⟨j,w⟩:=p
  simp only [e]
  have hE:∀t,gdst ops.toList j=some t→(putE E d u) t=E t:=by
   intro t ht
   have:=rawOf_put (E:=E) (d:=d) (v:=u) (x:= .tmp t) fun t' ht' e=> h t' ht' (by injection e with e;rw [←e];exact looks_guard hg ht)
   exact this
  constructor
  ·rintro ⟨t,ht,h2⟩
   rw [hE t ht] at h2
   exact ⟨t,ht,h2⟩
  ·rintro ⟨t,ht,h2⟩
   refine ⟨t,ht,?_⟩
   rw [hE t ht]
   exact h2
theorem Go1.cases {o:Oper} {E:Nat→Option AV} {v:AV} {m m1:Mem} (h:Go1 T base F ops o E v m m1):
  (∃v',(opF T base E o).Runs F m v' m1∧v=unk v'∧∀q q1,(opF T base E o).Runs F q v' q1→Go1 T base F ops o E v q q1)∨(m1=m∧∀q,Go1 T base F ops o E v q q):=by
 unfold Go1 at h ⊢
 cases hg:o.guard with
 | none=>
  rw [hg] at h
  obtain ⟨v',h1,h2⟩:=h
  exact Or.inl ⟨v',h1,h2,fun q q1 hq=> ⟨v',hq,h2⟩⟩
 | some p=>
  obtain ⟨j,w⟩:=p
  rw [hg] at h
  rcases h with ⟨t,ht,⟨b,hb,⟨hw,v',h1,h2⟩ | ⟨hw,h1,h2⟩⟩ | ⟨hb,h1,h2⟩⟩
  ·exact Or.inl ⟨v',h1,h2,fun q q1 hq=> ⟨t,ht,Or.inl ⟨b,hb,Or.inl ⟨hw,v',hq,h2⟩⟩⟩⟩
  ·exact Or.inr ⟨h2,fun q=> ⟨t,ht,Or.inl ⟨b,hb,Or.inr ⟨hw,h1,rfl⟩⟩⟩⟩
  ·exact Or.inr ⟨h2,fun q=> ⟨t,ht,Or.inr ⟨hb,h1,rfl⟩⟩⟩
theorem Sim.boxes {w0:Start} {A:Nat→Prop} {m:Mem} {κ:Cx} (hs:Sim w0 A m κ) {s g:Nat} {cs:List AV} (hi:m.at_ s g=some (.box cs)):∀p∈cs.flatMap refs1,p.2≤m.gen p.1:=by
 obtain ⟨b,T,vs,hb,hh,hn,hr⟩:=hs.ok s g _ hi
 intro p hp
 obtain ⟨c,hc,hp⟩:=List.mem_flatMap.1 hp
 obtain ⟨j,hj,rfl⟩:=List.getElem_of_mem hc
 have:=refs1_rel (hr j cs[j] _ (List.getElem?_eq_getElem hj) (Array.getElem?_eq_getElem (by omega))).1 p hp
 rw [hs.gn] at this
 exact this
structure OldAt (G:Nat→Nat) (E:Nat→Option AV) (y:Oper) (m:Mem):Prop where
 wf:MemWF m
 refs:∀s g,opRefs E y s g→g≤G s
 gen:∀s,G s≤m.gen s
 box:∀s g cs,g≤G s→m.at_ s g=some (.box cs)→∀p∈cs.flatMap refs1,p.2≤G p.1
def Compat (T:Nat→TI) (x y:Oper):Prop:=opKind T x.op=0∨opKind T y.op=0∨(opKind T x.op=1∧opKind T y.op=1∧∃d e:Nat,x.dst=some d∧y.dst=some e∧d < 65536∧e < 65536∧d≠e)
theorem swap_mem {x y:Oper} {E:Nat→Option AV} {v u:AV} {m m1 m2:Mem} (hc:Compat T x y) {G:Nat→Nat} (hold:opKind T y.op=1→OldAt G E y m) (h1:Go1 T base F ops x E v m m1) (h2:Go1 T base F ops y E u m1 m2):
  ∃m1',Go1 T base F ops y E u m m1'∧Go1 T base F ops x E v m1' m2:=by
 rcases h1.cases with ⟨v',r1,_,k1⟩ | ⟨rfl,k1⟩
 ·rcases h2.cases with ⟨u',r2,_,k2⟩ | ⟨rfl,k2⟩
  ·rcases hc with hc | hc | ⟨hx,hy,d,e,hd,he,hd1,he1,hne⟩
   ·obtain ⟨rfl,p1⟩:=pure_runs r1 (opF_fits0 hc)
    exact ⟨m2,h2,k1 _ _ (p1 m2)⟩
   ·obtain ⟨rfl,p2⟩:=pure_runs r2 (opF_fits0 hc)
    exact ⟨m,k2 _ _ (p2 m),h1⟩
   ·have ho:=hold hy
    obtain ⟨m1',q1,q2⟩:=fits_swap (opF_fits1 hx hd fun _ _ _=> trivial) (opF_fits1 hy he ho.refs) (fun s=> by
     rintro ⟨k,hk⟩ ⟨k',hk'⟩
     exact hne (by omega)) ho.wf ho.gen ho.box r1 r2
    exact ⟨m1',k2 _ _ q1,k1 _ _ q2⟩
  ·exact ⟨m,k2 m,h1⟩
 ·exact ⟨m2,h2,k1 m2⟩
theorem swap_step {x y:Oper} {s s1 s2:ASt} (ha:x.apart ops y=true) (hc:Compat T x y) {G:Nat→Nat} (hold:opKind T y.op=1→OldAt G s.env y s.m) (h1:StepN T base nt F ops x s s1) (h2:StepN T base nt F ops y s1 s2):
  ∃s1',StepN T base nt F ops y s s1'∧StepN T base nt F ops x s1' s2:=by
 obtain ⟨a1,a2,a3⟩:=Oper.apart_spec ha
 obtain ⟨d1,v,g1,e1⟩:=h1
 obtain ⟨d2,u,g2,e2⟩:=h2
 rw [e1] at g2
 have g2:=(Go1.put a1).1 g2
 obtain ⟨m1',q1,q2⟩:=swap_mem hc hold g1 g2
 refine ⟨⟨putE s.env y.dst u,m1'⟩,⟨d2,u,q1,rfl⟩,⟨d1,v,(Go1.put a3).2 q2,?_⟩⟩
 rw [e2,e1]
 funext t
 cases hx:x.dst with
 | none=> rfl
 | some d=>
  cases hy:y.dst with
  | none=> rfl
  | some e=>
   have hne:d≠e:=fun h=> a2 d hx (by rw [hy,h])
   simp only [putE,updT,beq_dec]
   by_cases h1:t=d
   ·subst h1;simp [hne]
   ·simp [h1]
theorem keep_old {x y:Oper} {s s1:ASt} (ha:x.apart ops y=true) (hc:Compat T x y) {G:Nat→Nat} (hold:opKind T y.op=1→OldAt G s.env y s.m) (h1:StepN T base nt F ops x s s1):
  opKind T y.op=1→OldAt G s1.env y s1.m:=by
 intro hy
 have ho:=hold hy
 obtain ⟨a1,a2,a3⟩:=Oper.apart_spec ha
 obtain ⟨d1,v,g1,e1⟩:=h1
 have hrefs:∀a g,opRefs s1.env y a g→opRefs s.env y a g:=by
  rintro a g ⟨x',hx',v',hv',hp⟩
  rw [e1,rawOf_put fun t ht e=> a1 t ht (looks_operand hx' e)] at hv'
  exact ⟨x',hx',v',hv',hp⟩
 rcases g1.cases with ⟨v',r1,_,_⟩ | ⟨hm,_⟩
 ·rcases hc with hc | hc | ⟨hx,_,d,e,hd,_⟩
  ·obtain ⟨hm,_⟩:=pure_runs r1 (opF_fits0 hc)
   rw [hm]
   exact ⟨ho.wf,fun a g h=> ho.refs a g (hrefs a g h),ho.gen,ho.box⟩
  ·rw [hc] at hy;cases hy
  ·obtain ⟨es,f1,_,f3,_⟩:=Step.Fits.runs r1 (opF_fits1 hx hd fun _ _ _=> trivial) (Or.inl fun _ _=> trivial) ho.wf
   refine ⟨f3,fun a g h=> ho.refs a g (hrefs a g h),fun a=> Nat.le_trans (ho.gen a) (by rw [f1];exact apL_gen es s.m a),fun a g cs hg hi=> ho.box a g cs hg ?_⟩
   rw [f1] at hi
   exact frzI_box (by rw [←apL_at es s.m a g (Nat.le_trans hg (ho.gen a)),hi])
 ·rw [hm]
  exact ⟨ho.wf,fun a g h=> ho.refs a g (hrefs a g h),ho.gen,ho.box⟩
theorem chain_front {G:Nat→Nat} {y:Oper} {post:List Oper} {s':ASt}:∀(pre:List Oper) (s:ASt),(∀x∈pre,x.apart ops y=true∧Compat T x y)→(opKind T y.op=1→OldAt G s.env y s.m)→ChainN T base nt F ops (pre ++ y::post) s s'→
  ∃s1,StepN T base nt F ops y s s1∧ChainN T base nt F ops (pre ++ post) s1 s'
 | [],s,_,_,h=> h
 | x::pre,s,hp,ho,h=> by
  obtain ⟨sa,h1,h2⟩:=h
  obtain ⟨hx1,hx2⟩:=hp x (by simp)
  obtain ⟨sb,h3,h4⟩:=chain_front pre sa (fun z hz=> hp z (by simp [hz])) (keep_old hx1 hx2 ho h1) h2
  obtain ⟨s1,h5,h6⟩:=swap_step hx1 hx2 ho h1 h3
  exact ⟨s1,h5,sb,h6,h4⟩
theorem stepN_sim (hT:TOk P T) (heq:∀t,(T t).eqs=true→(T t).known=true) (hF:∀f args r,F f args r→FnX w0.dr P f args r) {o:Oper} {N:Act→World→Prop} {Q:Exit→Act→World→Prop} {st st1:ASt} {κ:Cx} {a:Act}
  (hs:Sim w0 A st.m κ) (he:EnvOk κ st.env a.tmps) (hn:a.tmps.size=nt) (hd:a.defers= []) (h:StepN T base nt F ops o st st1)
  (hN:∀κ' a',Sim w0 A st1.m κ'→EnvOk κ' st1.env a'.tmps→a'.tmps.size=nt→a'.defers= []→N a' κ'.w):
  if Region.wanted o (yielded ops a.tmps) then o.wp P a κ.w N Q else N (a.put o.dst undef) κ.w:=by
 obtain ⟨hdo,v,hg1,he1⟩:=h
 have exec:∀v',(opF T base st.env o).Runs F st.m v' st1.m→v=unk v'→o.wp P a κ.w N Q:=by
  intro v' hr hv
  refine Oper.wp_mono ?_ (op_sim hT heq hF hs he hr)
  rintro a' w' ⟨κ',rfl,h1,h2,x,rfl,hx⟩
  refine hN κ' _ h1 ?_ (by rw [put_size,hn]) (by rw [put_defers,hd])
  rw [he1,hv]
  exact (he.mono h2).put hn hdo hx.unk
 have skip:v= .tup []→st1.m=st.m→N (a.put o.dst undef) κ.w:=by
  intro hv hm
  refine hN κ _ (by rw [hm];exact hs) ?_ (by rw [put_size,hn]) (by rw [put_defers,hd])
  rw [he1,hv]
  exact he.put hn hdo (undef_rel κ)
 unfold Go1 at hg1
 cases hg:o.guard with
 | none=>
  rw [hg] at hg1
  obtain ⟨v',h1,h2⟩:=hg1
  have:Region.wanted o (yielded ops a.tmps)=true:=by simp [Region.wanted,hg]
  rw [if_pos this]
  exact exec v' h1 h2
 | some p=>
  obtain ⟨j,want⟩:=p
  rw [hg] at hg1
  obtain ⟨t,hj,hg1⟩:=hg1
  have hy:∀x,a.tmps[t]? =some x→yielded ops a.tmps j=match x with | .bool b=> some b | _=> none:=by
   intro x hx
   unfold yielded
   have hb:(ops[j]?).bind (·.dst)=some t:=by
    unfold gdst at hj
    rw [←Array.getElem?_toList]
    cases hq:ops.toList[j]? with
    | none=> rw [hq] at hj;cases hj
    | some q=> rw [hq] at hj;exact hj
   rw [hb]
   simp only [Option.bind_some,hx]
   cases x <;> rfl
  rcases hg1 with ⟨b,hb,⟨rfl,v',h1,h2⟩ | ⟨hw,h1,h2⟩⟩ | ⟨hb,h1,h2⟩
  ·obtain ⟨x,hx,hr⟩:=he t _ hb
   have:=hr.val
   subst this
   have hy:=hy _ hx
   have:Region.wanted o (yielded ops a.tmps)=true:=by simp [Region.wanted,hg,hy]
   rw [if_pos this]
   exact exec v' h1 h2
  ·obtain ⟨x,hx,hr⟩:=he t _ hb
   have:=hr.val
   subst this
   have hy:=hy _ hx
   have:Region.wanted o (yielded ops a.tmps)=false:=by simp [Region.wanted,hg,hy,hw]
   rw [this]
   exact skip h1 h2
  ·obtain ⟨x,hx,hr⟩:=he t _ hb
   obtain ⟨vs,rfl,_⟩:=hr.tup_inv
   have hy:=hy _ hx
   have:Region.wanted o (yielded ops a.tmps)=false:=by simp [Region.wanted,hg,hy]
   rw [this]
   exact skip h1 h2
end
end Go.Proofs.YtiklglcjecopcaaGreatDoor
namespace Go.Proofs.YtiklglcjecopcaaGreatDoor
open Go.RowKit
theorem mask_bit (acc:Array Nat) (k:Nat):∀(l:List Edge) (s:Nat),(l.foldl (fun s e=> if Region.binds .any e then s ||| 2 ^ e.on ||| acc.getD e.on 0 else s) s).testBit k=true→
  s.testBit k=true∨∃e∈l,Region.binds .any e=true∧(e.on=k∨(acc.getD e.on 0).testBit k=true)
 | [],s,h=> Or.inl h
 | e::l,s,h=> by
  rw [List.foldl_cons] at h
  rcases mask_bit acc k l _ h with h | ⟨e',he',h⟩
  ·cases hb:Region.binds .any e
   ·rw [hb] at h
    exact Or.inl (by simpa using h)
   ·rw [hb] at h
    simp only [if_true,Nat.testBit_or,Bool.or_eq_true,Nat.testBit_two_pow,decide_eq_true_eq] at h
    rcases h with (h | h) | h
    ·exact Or.inl h
    ·exact Or.inr ⟨e,by simp,hb,Or.inl h⟩
    ·exact Or.inr ⟨e,by simp,hb,Or.inr h⟩
  ·exact Or.inr ⟨e',by simp [he'],h⟩
def beforeL (l:List Oper) (acc:Array Nat):Array Nat:=l.foldl (fun acc o=> acc.push (o.after.foldl (fun s e=> if Region.binds .any e then s ||| 2 ^ e.on ||| acc.getD e.on 0 else s) 0)) acc
theorem before_inv:∀(l pre:List Oper) (acc:Array Nat),acc.size=pre.length→(∀(i k:Nat),(acc.getD i 0).testBit k=true→∃o e,pre[i]? =some o∧e∈o.after∧Region.binds .any e=true∧(e.on=k∨(acc.getD e.on 0).testBit k=true))→
  ∀(i k:Nat),((beforeL l acc).getD i 0).testBit k=true→∃o e,(pre ++ l)[i]? =some o∧e∈o.after∧Region.binds .any e=true∧(e.on=k∨((beforeL l acc).getD e.on 0).testBit k=true)
 | [],pre,acc,_,h,i,k,hb=> by
  rw [List.append_nil]
  exact h i k hb
 | o::l,pre,acc,hs,h,i,k,hb=> by
  have hx:∀x,acc.getD x 0=if x < acc.size then (acc.push (o.after.foldl (fun s e=> if Region.binds .any e then s ||| 2 ^ e.on ||| acc.getD e.on 0 else s) 0)).getD x 0 else 0:=by
   intro x
   by_cases hlt:x < acc.size
   ·rw [if_pos hlt]
    simp only [Array.getD_eq_getD_getElem?,Array.getElem?_push]
    rw [if_neg (by omega)]
   ·rw [if_neg hlt,Array.getD_eq_getD_getElem?,Array.getElem?_eq_none (by omega)]
    rfl
  have mono:∀x q,(acc.getD x 0).testBit q=true→((acc.push (o.after.foldl (fun s e=> if Region.binds .any e then s ||| 2 ^ e.on ||| acc.getD e.on 0 else s) 0)).getD x 0).testBit q=true:=by
   intro x q hq
   rw [hx] at hq
   split at hq
   ·exact hq
   ·simp at hq
  have:=before_inv l (pre ++ [o]) (acc.push (o.after.foldl (fun s e=> if Region.binds .any e then s ||| 2 ^ e.on ||| acc.getD e.on 0 else s) 0)) (by simp [hs]) (fun i k hb=> by
   by_cases hi:i < acc.size
   ·have e1:=hx i
    rw [if_pos hi] at e1
    rw [←e1] at hb
    obtain ⟨o',e,h1,h2,h3,h4⟩:=h i k hb
    refine ⟨o',e,?_,h2,h3,h4.imp id (mono _ _)⟩
    rw [List.getElem?_append_left (by omega)]
    exact h1
   ·by_cases hi2:i=acc.size
    ·subst hi2
     simp only [Array.getD_eq_getD_getElem?,Array.getElem?_push_size,Option.getD_some] at hb
     rw [←Array.foldl_toList] at hb
     simp only [←Array.getD_eq_getD_getElem?] at hb
     rcases mask_bit acc k o.after.toList 0 hb with hb | ⟨e,he,h3,h4⟩
     ·simp at hb
     ·refine ⟨o,e,?_,by simpa using he,h3,h4.imp id (mono _ _)⟩
      rw [hs,List.getElem?_append_right (Nat.le_refl _)]
      simp
    ·rw [Array.getD_eq_getD_getElem?,Array.getElem?_eq_none (by simp;omega)] at hb
     simp at hb) i k hb
  rw [List.append_assoc] at this
  exact this
theorem before_bit (ops:Array Oper) (i k:Nat) (hb:((Region.before ops).getD i 0).testBit k=true):∃o e,ops[i]? =some o∧e∈o.after∧Region.binds .any e=true∧(e.on=k∨((Region.before ops).getD e.on 0).testBit k=true):=by
 have e:Region.before ops=beforeL ops.toList #[]:=by
  unfold Region.before beforeL
  rw [←Array.foldl_toList]
 rw [e] at hb ⊢
 have:=before_inv ops.toList [] #[] rfl (fun i k hb=> by simp at hb) i k hb
 simpa using this
section
variable {P : Program} {T : Nat → TI} {base nt : Nat} {F : FuncId → List AV → AV → Prop} {w0 : Start} {A : Nat → Prop} {ops : Array Oper}
theorem before_done (hback:∀(j:Nat) (o:Oper),ops[j]? =some o→∀e∈o.after,Region.binds .any e=true→e.on < j) {listed:Array Bool} (hcl:∀(j:Nat) (o:Oper),ops[j]? =some o→listed.getD j true=true→∀e∈o.after,Region.binds .any e=true→listed.getD e.on false=true):
  ∀(n i:Nat),i≤n→(∀o,ops[i]? =some o→∀e∈o.after,Region.binds .any e=true→listed.getD e.on false=true)→∀k,((Region.before ops).getD i 0).testBit k=true→listed.getD k false=true:=by
 intro n
 induction n with
 | zero=>
  intro i hi hp k hb
  obtain ⟨o,e,h1,h2,h3,h4⟩:=before_bit ops i k hb
  have:=hback i o h1 e h2 h3
  omega
 | succ n ih=>
  intro i hi hp k hb
  obtain ⟨o,e,h1,h2,h3,h4⟩:=before_bit ops i k hb
  have hlt:=hback i o h1 e h2 h3
  have hl:=hp o h1 e h2 h3
  rcases h4 with rfl | h4
  ·exact hl
  ·refine ih e.on (by omega) (fun o' ho' e' he' hb'=> ?_) k h4
   refine hcl e.on o' ho' ?_ e' he' hb'
   rw [Array.getD_eq_getD_getElem?] at hl ⊢
   cases hq:listed[e.on]? with
   | none=> rfl
   | some q=> rw [hq] at hl;exact hl
def atO (ops:Array Oper) (l:List Nat):List Oper:=l.filterMap (ops[·]?)
theorem draw_any (hT:TOk P T) (heq:∀t,(T t).eqs=true→(T t).known=true) (hF:∀f args r,F f args r→FnX w0.dr P f args r) (hok:drawOk T ops=true) {Q:Exit→Act→World→Prop} {sf:ASt} (hQ:∀a κ,Sim w0 A sf.m κ→EnvOk κ sf.env a.tmps→a.tmps.size=nt→a.defers= []→Q .normal a κ.w):
  ∀(fuel:Nat) (listed:Array Bool) (rem:List Nat) (st:ASt) (κ:Cx) (a:Act),listed.size=ops.size→rem.length≤fuel→rem.Pairwise (· < ·)→(∀i,i∈rem↔(i < ops.size∧listed.getD i true=false))→
   (∀(j:Nat) (o:Oper),ops[j]? =some o→listed.getD j true=true→∀e∈o.after,Region.binds .any e=true→listed.getD e.on false=true)→
   Sim w0 A st.m κ→EnvOk κ st.env a.tmps→a.tmps.size=nt→a.defers= []→ChainN T base nt F ops (atO ops rem) st sf→wpAny P .any ops Q fuel listed a κ.w:=by
 have hdr:∀(j:Nat),j < ops.size→(∀o,ops[j]? =some o→∀e∈o.after,Region.binds .any e=true→e.on < j)∧∀i,i < j→pairOk T ops (Region.before ops) i j=true:=by
  intro j hj
  have:=List.all_eq_true.1 hok j (List.mem_range.2 hj)
  rw [Bool.and_eq_true] at this
  refine ⟨fun o ho e he hbn=> ?_,fun i hi=> List.all_eq_true.1 this.2 i (List.mem_range.2 hi)⟩
  have h1:=this.1
  rw [ho] at h1
  have h1:o.after.all (fun e=> !Region.binds .any e || Nat.blt e.on j)=true:=h1
  have h2:=Array.all_eq_true_iff_forall_mem.1 h1 e he
  rw [hbn] at h2
  have h3:Nat.blt e.on j=true:=h2
  exact Nat.lt_of_succ_le (Nat.le_of_ble_eq_true h3)
 have hback:∀(j:Nat) (o:Oper),ops[j]? =some o→∀e∈o.after,Region.binds .any e=true→e.on < j:=fun j o ho=> (hdr j (Array.getElem?_eq_some_iff.1 ho).1).1 o ho
 have empty:∀(listed:Array Bool) (rem:List Nat),listed.size=ops.size→rem.Pairwise (· < ·)→(∀i,i∈rem↔(i < ops.size∧listed.getD i true=false))→Region.ready .any ops listed= []→rem= []:=by
  intro listed rem hsz hso hrem hr
  cases rem with
  | nil=> rfl
  | cons i rest=>
   exfalso
   obtain ⟨hi,hl⟩:=(hrem i).1 (by simp)
   have:i∈Region.ready .any ops listed:=by
    refine mem_ready.2 ⟨hl,ops[i],Array.getElem?_eq_getElem hi,fun e he hb=> ?_⟩
    have hlt:=hback i ops[i] (Array.getElem?_eq_getElem hi) e he hb
    cases hq:listed.getD e.on false
    ·exfalso
     have hon:e.on∈i::rest:=by
      refine (hrem e.on).2 ⟨by omega,?_⟩
      rw [Array.getD_eq_getD_getElem?] at hq ⊢
      cases hq2:listed[e.on]? with
      | none=> rw [Array.getElem?_eq_none_iff] at hq2;omega
      | some q=> rw [hq2] at hq;exact hq
     rcases List.mem_cons.1 hon with h | h
     ·omega
     ·have:=List.rel_of_pairwise_cons hso h
      omega
    ·rfl
   rw [hr] at this
   cases this
 intro fuel
 induction fuel with
 | zero=>
  intro listed rem st κ a hsz hlen hso hrem hcl hs he hn hd hch
  have hrem0:rem= []:=List.eq_nil_of_length_eq_zero (by omega)
  subst hrem0
  have:sf=st:=hch
  subst this
  refine ⟨?_,hQ a κ hs he hn hd⟩
  rw [List.eq_nil_iff_forall_not_mem]
  intro i hi
  obtain ⟨h1,o,h2,_⟩:=mem_ready.1 hi
  have:=(hrem i).2 ⟨(Array.getElem?_eq_some_iff.1 h2).1,h1⟩
  cases this
 | succ fuel ih=>
  intro listed rem st κ a hsz hlen hso hrem hcl hs he hn hd hch
  refine ⟨fun hr=> ?_,fun i hi=> ?_⟩
  ·have:=empty listed rem hsz hso hrem hr
   subst this
   have:sf=st:=hch
   subst this
   exact hQ a κ hs he hn hd
  ·obtain ⟨hl,o,ho,hpre⟩:=mem_ready.1 hi
   have hlt:i < ops.size:=(Array.getElem?_eq_some_iff.1 ho).1
   have hmem:i∈rem:=(hrem i).2 ⟨hlt,hl⟩
   obtain ⟨pre,post,rfl⟩:=List.append_of_mem hmem
   have hso':=List.pairwise_append.1 hso
   have hat:atO ops (pre ++ i::post)=atO ops pre ++ o::atO ops post:=by
    unfold atO
    rw [List.filterMap_append,List.filterMap_cons,ho]
   rw [hat] at hch
   obtain ⟨s1,h1,h2⟩:=chain_front (atO ops pre) st (fun x hx=> by
    obtain ⟨k,hk,hxk⟩:=List.mem_filterMap.1 hx
    have hki:k < i:=hso'.2.2 k hk i (by simp)
    have hkl:listed.getD k true=false:=((hrem k).1 (by simp [hk])).2
    have hp:=(hdr i hlt).2 k hki
    unfold pairOk at hp
    rw [Bool.or_eq_true] at hp
    rcases hp with hp | hp
    ·exfalso
     have:=before_done hback hcl i i (Nat.le_refl _) (fun o' ho'=> by rw [ho] at ho';injection ho' with ho';subst ho';exact hpre) k hp
     rw [Array.getD_eq_getD_getElem?] at this hkl
     cases hq:listed[k]? with
     | none=> rw [hq] at hkl;cases hkl
     | some q=> rw [hq] at this hkl;rw [Option.getD_some] at this hkl;rw [this] at hkl;cases hkl
    ·rw [hxk,ho] at hp
     simp only [Bool.and_eq_true,Bool.or_eq_true] at hp
     obtain ⟨ha,hp⟩:=hp
     refine ⟨ha,?_⟩
     rcases hp with (hp | hp) | ⟨⟨⟨⟨⟨p1,p2⟩,p3⟩,p4⟩,p5⟩,p6⟩
     ·exact Or.inl (Nat.eq_of_beq_eq_true hp)
     ·exact Or.inr (Or.inl (Nat.eq_of_beq_eq_true hp))
     ·obtain ⟨d,hd⟩:=Option.isSome_iff_exists.1 p3
      obtain ⟨e,he⟩:=Option.isSome_iff_exists.1 p4
      unfold smallDst at p5 p6
      rw [hd] at p5
      rw [he] at p6
      exact Or.inr (Or.inr ⟨Nat.eq_of_beq_eq_true p1,Nat.eq_of_beq_eq_true p2,d,e,hd,he,Nat.lt_of_succ_le (Nat.le_of_ble_eq_true p5),Nat.lt_of_succ_le (Nat.le_of_ble_eq_true p6),fun h=> (Oper.apart_spec ha).2.1 d hd (by rw [he,h])⟩))
    (G:=st.m.gen) (fun _=> ⟨hs.gens,fun s g hr=> by
     obtain ⟨x,hx,v,hv,hp⟩:=hr
     have:=refsOf_rel (raw_rel he hv) (s,g) hp
     rw [hs.gn] at this
     exact this,fun _=> Nat.le_refl _,fun s g cs _ hi=> hs.boxes hi⟩) hch
   unfold wpOp
   rw [ho]
   have hstep:=stepN_sim (N:=wpAny P .any ops Q fuel (listed.setIfInBounds i true)) (Q:=Q) hT heq hF hs he hn hd h1 (fun κ' a' q1 q2 q3 q4=> by
    have hget:∀j,(listed.setIfInBounds i true).getD j true=if j=i then true else listed.getD j true:=by
     intro j
     simp only [Array.getD_eq_getD_getElem?,Array.getElem?_setIfInBounds]
     by_cases hj:i=j
     ·subst hj
      rw [if_pos rfl,if_pos rfl]
      split <;> rfl
     ·rw [if_neg hj,if_neg (Ne.symm hj)]
    refine ih (listed.setIfInBounds i true) (pre ++ post) s1 κ' a' (by simpa using hsz) (by simp at hlen ⊢;omega) ?_ ?_ ?_ q1 q2 q3 q4 ?_
    ·rw [List.pairwise_append]
     exact ⟨hso'.1,(List.pairwise_cons.1 hso'.2.1).2,fun x hx y hy=> hso'.2.2 x hx y (by simp [hy])⟩
    ·intro j
     rw [hget]
     have h3:=hrem j
     have hni:i∉pre ++ post:=by
      intro hm
      rcases List.mem_append.1 hm with hm | hm
      ·have:=hso'.2.2 i hm i (by simp);omega
      ·have:=(List.pairwise_cons.1 hso'.2.1).1 i hm;omega
     by_cases hj:j=i
     ·subst hj
      rw [if_pos rfl]
      exact ⟨fun h=> absurd h hni,fun h=> by cases h.2⟩
     ·rw [if_neg hj,←h3]
      simp [hj]
    ·intro j o' ho' hl' e he' hb'
     have hone:∀x,listed.getD x false=true→(listed.setIfInBounds i true).getD x false=true:=by
      intro x hx
      simp only [Array.getD_eq_getD_getElem?,Array.getElem?_setIfInBounds] at hx ⊢
      by_cases hxi:i=x
      ·subst hxi
       rw [if_pos rfl]
       split
       ·rfl
       ·rename_i hge
        rw [Array.getElem?_eq_none (by omega)] at hx
        exact hx
      ·rw [if_neg hxi]
       exact hx
     rw [hget] at hl'
     by_cases hj:j=i
     ·subst hj
      rw [ho] at ho'
      injection ho' with ho'
      subst ho'
      exact hone _ (hpre e he' hb')
     ·rw [if_neg hj] at hl'
      exact hone _ (hcl j o' ho' hl' e he' hb')
    ·have:atO ops (pre ++ post)=atO ops pre ++ atO ops post:=List.filterMap_append ..
     rw [this]
     exact h2)
   dsimp only
   split
   ·rename_i hw
    rw [if_pos hw] at hstep
    exact Or.inl hstep
   ·rename_i hw
    rw [if_neg hw] at hstep
    exact hstep
theorem draw_sound (hm:P.follows .mixedOrders=true) (hT:TOk P T) (heq:∀t,(T t).eqs=true→(T t).known=true) (hF:∀f args r,F f args r→FnX w0.dr P f args r) {id:Nat} (hok:drawOk T ops=true) {K:ASt→Prop} {Q:Exit→Act→World→Prop} (hQ:∀a w,Holds w0 A nt K a w→Q .normal a w)
  (st:ASt) (κ:Cx) (a:Act) (hs:Sim w0 A st.m κ) (he:EnvOk κ st.env a.tmps) (hn:a.tmps.size=nt) (hd:a.defers= []) (h:runL T base nt F ops.toList ops.toList st K):(Code.region id ops true).wp P Q a κ.w:=by
 refine wp_region_any hm ?_
 obtain ⟨st',hch,hk⟩:=runL_chain ops.toList st h
 have hbel:BelowD w0.dr κ.w.heap.size κ.w {κ.w with drawn:=κ.w.drawn + 1}:=⟨⟨rfl,rfl,rfl,Nat.le_refl _,fun _ _=> rfl⟩,fun _=> Nat.le_succ _⟩
 obtain ⟨hs',hle⟩:=hs.grow hbel (S':=κ.S) (fun _ h=> h) (fun _ h=> Or.inl h)
 have hat:atO ops (List.range ops.size)=ops.toList:=by
  apply List.ext_getElem?
  intro i
  have:∀(n:Nat),n≤ops.size→(List.range n).filterMap (ops[·]?)=ops.toList.take n:=by
   intro n
   induction n with
   | zero=> intro _;rfl
   | succ n ih=>
    intro hn
    rw [List.range_succ,List.filterMap_append,ih (by omega),List.take_succ_eq_append_getElem (by simp;omega)]
    simp [Array.getElem?_eq_getElem (show n < ops.size by omega)]
  unfold atO
  rw [this ops.size (Nat.le_refl _),←Array.length_toList,List.take_length]
 refine draw_any (sf:=⟨unkE st'.env,st'.m⟩) hT heq hF hok (fun a' κ' q1 q2 q3 q4=> hQ a' κ'.w ⟨st',κ',rfl,q1,?_,q3,q4,hk⟩) ops.size (Array.replicate ops.size false) (List.range ops.size) ⟨unkE st.env,st.m⟩ {κ with w:={κ.w with drawn:=κ.w.drawn + 1}} a (by simp) (by simp) List.pairwise_lt_range (fun i=> ?_) (fun j o ho hl=> ?_) hs' ?_ hn hd (by rw [hat];exact hch)
 ·intro t v ht
  obtain ⟨x,hx,hr⟩:=q2 t (unk v) (by show unkO (st'.env t)=_;rw [ht];rfl)
  refine ⟨x,hx,?_⟩
  have one:∀{c:AV} {y:Value},Rel κ' (unk1 c) y→Rel κ' c y:=by
   intro c y hc
   cases c with
   | kb b=> have:=hc.val;subst this;exact .kb b
   | _=> exact hc
  cases v with
  | agg cs=>
   cases hr with
   | agg hl hh=>
    refine .agg (by simpa using hl) fun j c y hc hy=> one (hh j (unk1 c) y ?_ hy)
    rw [List.getElem?_map,hc]
    rfl
  | kb b=> exact one hr
  | _=> exact hr
 ·rw [List.mem_range]
  constructor
  ·intro hi
   refine ⟨hi,?_⟩
   simp [Array.getD_eq_getD_getElem?,hi]
  ·exact fun h=> h.1
 ·exfalso
  have hi:j < ops.size:=(Array.getElem?_eq_some_iff.1 ho).1
  simp [Array.getD_eq_getD_getElem?,hi] at hl
 ·intro t v ht
  have ht:unkO (st.env t)=some v:=ht
  cases hq:st.env t with
  | none=> rw [hq] at ht;cases ht
  | some q=>
   rw [hq] at ht
   injection ht with ht
   subst ht
   obtain ⟨x,hx,hr⟩:=(he.mono hle) t q hq
   exact ⟨x,hx,hr.unk⟩
end
end Go.Proofs.YtiklglcjecopcaaGreatDoor

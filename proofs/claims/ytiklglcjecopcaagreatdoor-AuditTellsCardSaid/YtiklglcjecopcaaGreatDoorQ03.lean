/-
  Running code on constants: the other operations that change nothing. Over any program.
  Running code on constants: slices, maps, lengths; all operations that change nothing. Over any program.
  Running code on constants: built-in functions that change nothing; every operation that changes nothing. Over any program.
  Running code on constants: operations that make a block. Over any program.
-/
import Derived.Test.YtiklglcjecopcaaGreatDoorQ02
import Derived.Laws.MakeOwn
namespace Go.Proofs.YtiklglcjecopcaaGreatDoor.Ci
open Go.RowKit
section
variable {P : Program} {σ : Nm} {E : Tr CV} {ρ : Operand → Value} {w : World}
theorem zeroT_run {t:TypeId} {z:List CV} (h:zeroT P t=some z) (σ:Nm) (w:World):∃zv,(zeroValue t).run P w= .ok zv w∧VRL σ z zv.cells.toList∧∀c∈z,oneC c=true:=by
 obtain ⟨i,hi,h⟩:=ob_some h
 obtain ⟨zv,hz,h⟩:=ob_some h
 obtain ⟨c,hc,h⟩:=ob_some h
 injection h with h
 subst h
 obtain ⟨k1,k2⟩:=(ofV_rel σ hc).cells (ofV_nt hc)
 exact ⟨zv,by simp [zeroValue,typeInfo,hi,hz],k1,k2⟩
theorem fillC_rel {place:Nat→Option (Nat×Nat)}:∀(l:List (Nat×CV)) (pl:List (Nat×Value)) (cs r:List CV) (vs:Array Value),l.map (·.1)=pl.map (·.1)→VRL σ (l.map (·.2)) (pl.map (·.2))→VRL σ cs vs.toList→(∀c∈cs,oneC c=true)→
  fillC place l cs=some r→∃us,Instr.fill place vs pl=some us∧VRL σ r us.toList∧∀c∈r,oneC c=true
 | [],pl,cs,r,vs,hi,hv,hr,h1,h=> by
  have:pl= []:=by cases pl with
   | nil=> rfl
   | cons=> cases hi
  subst this
  injection h with h
  subst h
  exact ⟨vs,rfl,hr,h1⟩
 | q::l,[],cs,r,vs,hi,hv,hr,h1,h=> by cases hi
 | q::l,p::pl,cs,r,vs,hi,hv,hr,h1,h=> by
  simp only [List.map_cons,List.cons.injEq] at hi hv
  obtain ⟨hi1,hi2⟩:=hi
  obtain ⟨v,vs',e,hv1,hv2⟩:=hv.cons_inv
  injection e with e1 e2
  subst e1 e2
  obtain ⟨⟨off,z⟩,hp,h⟩:=ob_some (show ob (place q.1) _=some r from h)
  obtain ⟨hb,h⟩:=ifO_some h
  obtain ⟨hb1,hb⟩:=and_true hb
  obtain ⟨hb2,hb3⟩:=and_true hb
  have hb2:=beq_eq' hb2
  have hb3:=ble_le hb3
  rw [len_eq] at hb2 hb3
  obtain ⟨hc,hc1⟩:=hv1.cells hb1
  have hl:=hc.1
  have hl2:=hr.1
  have hb2:(cells q.2).length=z:=hb2
  have hb3:off + z≤cs.length:=hb3
  have hsz:p.2.cells.size=z:=by rw [←hb2,←hl];simp
  rw [show p=(p.1,p.2) from rfl,fill_step place vs p.1 p.2 _ (by rw [←hi1];exact hp) hsz (by rw [←hl2] at hb3;simpa using hb3)]
  have h:fillC place l (wrt (cells q.2) off cs)=some r:=h
  rw [wrt_eq _ _ _ (by omega)] at h
  refine fillC_rel l pl _ r _ hi2 hv2 (by simpa using hr.over hc off) (fun c hc'=> ?_) h
  unfold over at hc'
  rcases List.mem_append.1 hc' with hc' | hc'
  ·rcases List.mem_append.1 hc' with hc' | hc'
   ·exact h1 c (List.mem_of_mem_take hc')
   ·exact hc1 c hc'
  ·exact h1 c (List.mem_of_mem_drop hc')
theorem placesC_run:∀(l:List Field) {pl:List (Nat×Nat)},placesC P l=some pl→∀w,(l.mapM fun f=> do pure (f.offset,←sizeOf f.type):Sem (List (Nat×Nat))).run P w= .ok pl w
 | [],pl,h,w=> by
  injection h with h
  subst h
  rfl
 | f::l,pl,h,w=> by
  obtain ⟨z,hz,h⟩:=ob_some (show ob (szT P f.type) _=some pl from h)
  obtain ⟨pl',h2,h⟩:=ob_some h
  injection h with h
  subst h
  have:=placesC_run l h2 w
  simp only [List.mapM_cons,Sem.run_bind,szT_run hz w,Result.andThen_ok,Sem.run_pure,this]
theorem evP_rel2 {ps:Array (Nat×Operand)} {l:List (Nat×CV)} (hev:∀q∈ps,∀c,ev E q.2=some c→VR σ c (ρ q.2)) (h:evP E ps.toList=some l):
  l.map (·.1)=(ps.map fun q=> (q.1,ρ q.2)).toList.map (·.1)∧VRL σ (l.map (·.2)) ((ps.map fun q=> (q.1,ρ q.2)).toList.map (·.2)):=by
 obtain ⟨k1,k2,_⟩:=evP_rel (ρ:=ρ) ps.toList (fun q hq=> hev q (by simpa using hq)) h
 refine ⟨by rw [k1];simp [Function.comp_def],?_⟩
 have:(ps.map fun q=> (q.1,ρ q.2)).toList.map (·.2)=ps.toList.map fun q=> ρ q.2:=by simp [Function.comp_def]
 rw [this]
 exact k2
theorem q_build {t:TypeId} {ps:Array (Nat×Operand)} {v:CV} (hev:∀q∈ps,∀c,ev E q.2=some c→VR σ c (ρ q.2)) (h:qBuild P E t ps=some v):∃u,(Instr.build t (ps.map fun q=> (q.1,ρ q.2))).run P w= .ok u w∧VR σ v u:=by
 obtain ⟨d,hd,h⟩:=ob_some h
 obtain ⟨z,hz,h⟩:=ob_some h
 obtain ⟨l,hl,h⟩:=ob_some h
 obtain ⟨cs,hc,h⟩:=ob_some h
 injection h with h
 subst h
 obtain ⟨zv,z1,z2,z3⟩:=zeroT_run hz σ w
 obtain ⟨k1,k2⟩:=evP_rel2 hev hl
 have hu:P.underlying t=some d:=hd
 cases d with
 | struct fs=>
  obtain ⟨pl,hp,hc⟩:=ob_some (show ob (placesC P fs.toList) _=some cs from hc)
  have e:nth pl=fun i=> (pl.toArray)[i]? :=by
   funext i
   rw [nth_eq]
   simp
  rw [e] at hc
  obtain ⟨us,h1,h2,h3⟩:=fillC_rel l _ z cs zv.cells k1 k2 z2 z3 hc
  refine ⟨.agg us,?_,by have:=VR.of_agg h2 h3;simpa using this⟩
  have hm:=placesC_run (P:=P) fs.toList hp w
  have hm:(fs.mapM fun f=> do pure (f.offset,←sizeOf f.type):Sem (Array (Nat×Nat))).run P w= .ok pl.toArray w:=by
   rw [Array.mapM_eq_mapM_toList]
   simp only [Sem.run_map,hm]
   rfl
  simp only [Instr.build,Sem.run_bind,z1,Result.andThen_ok,run_underlying hu,hm,h1,Sem.run_pure]
 | array n e=>
  obtain ⟨sz,hs,hc⟩:=ob_some (show ob (szT P e) _=some cs from hc)
  obtain ⟨us,h1,h2,h3⟩:=fillC_rel l _ z cs zv.cells k1 k2 z2 z3 hc
  refine ⟨.agg us,?_,by have:=VR.of_agg h2 h3;simpa using this⟩
  have h1:Instr.fill (fun i=> some (i * sz,sz)) zv.cells (ps.map fun q=> (q.1,ρ q.2)).toList=some us:=h1
  simp only [Instr.build,Sem.run_bind,z1,Result.andThen_ok,run_underlying hu,szT_run hs w,h1,Sem.run_pure]
 | _=> cases hc
theorem q_nil {x:Operand} {v:CV} (hev:Evs σ E ρ #[x]) (h:qNil E x=some v):VR σ v (ρ x)∧((∃A,ρ x= .pointer (some A))∨∃f us vs,ρ x= .func (.func f) us vs):=by
 obtain ⟨c,h1,h⟩:=ob_some h
 have hx:=hev x (by simp) _ h1
 cases c with
 | p l o=>
  injection h with h
  subst h
  obtain ⟨c,_,e⟩:=hx.pv
  exact ⟨hx,Or.inl ⟨_,e⟩⟩
 | fn f a b=>
  injection h with h
  subst h
  obtain ⟨us,vs,e,_⟩:=hx.fnL
  exact ⟨hx,Or.inr ⟨_,_,_,e⟩⟩
 | _=> cases h
theorem q_extract {x:Operand} {i:Nat} {v:CV} (hev:Evs σ E ρ #[x]) (h:qExtract E x i=some v):∃u,(Instr.extract (ρ x) i).run P w= .ok u w∧VR σ v u:=by
 obtain ⟨c,h1,h⟩:=ob_some h
 have hx:=hev x (by simp) _ h1
 cases c with
 | tup cs=>
  obtain ⟨vs,e,hr⟩:=hx.tupL
  have h:nth cs i=some v:=h
  rw [nth_eq] at h
  obtain ⟨u,hu,hv⟩:=hr.get h
  have hu:vs[i]? =some u:=by simpa using hu
  exact ⟨u,by simp [Instr.extract,e,hu],hv⟩
 | _=> cases h
theorem q_field {t:TypeId} {x:Operand} {i:Nat} {v:CV} (hev:Evs σ E ρ #[x]) (h:qField P E t x i=some v):∃u,(Instr.field t (ρ x) i).run P w= .ok u w∧VR σ v u:=by
 obtain ⟨c,h1,h⟩:=ob_some h
 have hx:=hev x (by simp) _ h1
 cases c with
 | agg cs=>
  obtain ⟨vs,e,hr,hone⟩:=hx.aggL
  obtain ⟨fs,hu,h⟩:=stT_some (show stT P t _=some v from h)
  obtain ⟨f,hf,h⟩:=ob_some h
  rw [dropN_eq] at h
  obtain ⟨u,h2,h3⟩:=ld_part hr hone h w
  exact ⟨u,by simp [Instr.field,run_underlying hu,hf,asAgg,e,h2],h3⟩
 | _=> cases h
theorem q_index {t:TypeId} {x i:Operand} {v:CV} (hev:Evs σ E ρ #[x,i]) (h:qIndex P E t x i=some v):∃u,(Instr.index t (ρ x) (ρ i)).run P w= .ok u w∧VR σ v u:=by
 obtain ⟨c,h1,h⟩:=ob_some h
 obtain ⟨ci,h2,h⟩:=ob_some h
 obtain ⟨k,j,rfl,h⟩:=isNat_some h
 have hi:=(hev i (by simp) _ h2).val
 have hx:=hev x (by simp) _ h1
 cases c with
 | t bs=>
  obtain ⟨n0,h3,h⟩:=ob_some (show ob (isStr P t) _=some v from h)
  obtain ⟨b,h4,h⟩:=ob_some h
  injection h with h
  subst h
  rw [nth_eq] at h4
  have hu:=isStr_some h3
  generalize ρ x=vx at hx ⊢
  cases hx with
  | t _ hb=>
   have hlt:j < bs.length:=(List.getElem?_eq_some_iff.1 h4).1
   have hlt':j < (⟨(bs.map UInt8.ofNat).toArray⟩:ByteArray).size:=by simpa [ByteArray.size] using hlt
   have hg:(⟨(bs.map UInt8.ofNat).toArray⟩:ByteArray)[j]? =some (UInt8.ofNat b):=by
    show decidableGetElem? _ _=_
    unfold decidableGetElem?
    rw [dif_pos hlt']
    have:(⟨(bs.map UInt8.ofNat).toArray⟩:ByteArray)[j]=(bs.map UInt8.ofNat)[j]'(by simpa using hlt):=rfl
    rw [this,List.getElem_map]
    congr 2
    exact (List.getElem?_eq_some_iff.1 h4).2
   refine ⟨.int .u8 (Int.ofNat b),?_,.v _ rfl⟩
   have h0:(0:Int)≤Int.ofNat j:=Int.natCast_nonneg j
   have hbl:b < 256:=hb b (List.mem_of_getElem? h4)
   simp only [Instr.index,hi,asIntOf,Sem.run_bind,Sem.run_pure,Result.andThen_ok,run_underlying hu,strV,if_pos h0]
   have:(Int.ofNat j).toNat=j:=rfl
   rw [this,hg]
   simp [Nat.mod_eq_of_lt hbl]
 | agg cs=>
  obtain ⟨vs,e,hr,hone⟩:=hx.aggL
  obtain ⟨n,el,hu,h⟩:=arT_some (show arT P t _=some v from h)
  obtain ⟨z,hz,h⟩:=ob_some h
  obtain ⟨hj,h⟩:=ifO_some h
  have hj:=ble_le hj
  rw [dropN_eq] at h
  obtain ⟨u,h2,h3⟩:=ld_part hr hone h w
  have h0:(0:Int)≤Int.ofNat j∧Int.ofNat j < n:=⟨Int.natCast_nonneg j,by show (j:Int) < n;omega⟩
  refine ⟨u,?_,h3⟩
  have h2:(part el vs ((Int.ofNat j).toNat * z)).run P w= .ok u w:=h2
  simp only [Instr.index,hi,asIntOf,Sem.run_bind,Sem.run_pure,Result.andThen_ok,run_underlying hu,e,if_pos h0,szT_run hz w,h2]
 | _=> cases h
theorem pr1_ok {c:CV} {va:Value} {f:Value→Sem Value} {v:CV} (ha:VR σ c va) (h:pr1 P c f=some v):∃u,(f va).run P w= .ok u w∧VR σ v u:=by
 obtain ⟨ua,h1,h⟩:=ob_some h
 obtain ⟨r,h3,h4⟩:=ob_some h
 have:=toV_rel ha h1
 subst this
 exact ⟨r,semP_run _ h3 w,ofV_rel σ h4⟩
theorem q_un {op:UnOp} {x:Operand} {v:CV} (hev:Evs σ E ρ #[x]) (h:qUn P E op x=some v):∃u,(Op.unary op (ρ x)).run P w= .ok u w∧VR σ v u:=by
 obtain ⟨c,h1,h⟩:=ob_some h
 have hx:=hev x (by simp) _ h1
 cases op with
 | not=>
  obtain ⟨b,rfl,h5⟩:=isBool_some (show isBool c _=some v from h)
  rw [B_eq] at h5
  injection h5 with h5
  subst h5
  have:=hx.val
  exact ⟨.bool (!b),by rw [this];rfl,.v _ rfl⟩
 | _=> exact pr1_ok hx h
theorem q_conv {s d:TypeId} {x:Operand} {v:CV} (hev:Evs σ E ρ #[x]) (h:qConv P E s d x=some v):∃u,(convert s d (ρ x)).run P w= .ok u w∧VR σ v u:=by
 obtain ⟨c,h1,h⟩:=ob_some h
 exact pr1_ok (hev x (by simp) _ h1) h
theorem q_func {f:Fn} {fs cs:Array Operand} {v:CV} (hev:Evs σ E ρ (fs ++ cs)) (h:qFunc E f fs cs=some v):VR σ v (.func f (fs.map ρ) (cs.map ρ)):=by
 cases f with
 | func f=>
  obtain ⟨a,h1,h⟩:=ob_some (show ob (evL E fs.toList) _=some v from h)
  obtain ⟨b,h2,h⟩:=ob_some h
  injection h with h
  subst h
  have r1:=evL_rel (ρ:=ρ) fs.toList (fun x hx=> hev x (by simp at hx ⊢;exact Or.inl hx)) h1
  have r2:=evL_rel (ρ:=ρ) cs.toList (fun x hx=> hev x (by simp at hx ⊢;exact Or.inr hx)) h2
  refine .fn f a b _ _ (by have:=r1.1;simpa using this) (by have:=r2.1;simpa using this) (fun j c u hc hu=> r1.2 j c u hc ?_) (fun j c u hc hu=> r2.2 j c u hc ?_)
  ·rw [←Array.toList_map]
   simpa using hu
  ·rw [←Array.toList_map]
   simpa using hu
 | _=> cases h
end
end Go.Proofs.YtiklglcjecopcaaGreatDoor.Ci
namespace Go.Proofs.YtiklglcjecopcaaGreatDoor.Ci
open Go.RowKit
section
variable {P : Program} {σ : Nm} {E : Tr CV} {ρ : Operand → Value} {w : World}
def BndOk (ρ:Operand→Value) (d:Nat) (x:Option Operand) (n:Nat):Prop:=match x with
 | none=> n=d
 | some y=> ∃k,ρ y= .int k (Int.ofNat n)
theorem bnd_ok {d:Nat} {x:Option Operand} {n:Nat} (hev:∀y∈x,∀c,ev E y=some c→VR σ c (ρ y)) (h:bnd E d x=some n):BndOk ρ d x n:=by
 cases x with
 | none=>
  injection h with h
  exact h.symm
 | some y=>
  obtain ⟨c,h1,h⟩:=ob_some (show ob (ev E y) _=some n from h)
  obtain ⟨k,m,rfl,h⟩:=isNat_some h
  injection h with h
  subst h
  exact ⟨k,(hev y rfl _ h1).val⟩
theorem run_bound {x:Value} {k:IntKind} {n y:Nat} {c:BoundsCode} (hx:x= .int k (Int.ofNat n)) (h:n≤y):(Instr.sliceBound x y c).run P w= .ok n w:=by
 subst hx
 have h0:(0:Int)≤Int.ofNat n∧Int.ofNat n≤(y:Int):=⟨Int.natCast_nonneg n,by show (n:Int)≤y;omega⟩
 simp only [Instr.sliceBound,asIntOf,Sem.run_bind,Sem.run_pure,Result.andThen_ok,if_pos h0]
 rfl
theorem run_bounds {sl:Bool} {d cap:Nat} {lo hi mx:Option Operand} {a b m:Nat} (hlo:BndOk ρ 0 lo a) (hhi:BndOk ρ d hi b) (hmx:BndOk ρ cap mx m) (hh:mx≠none→hi≠none) (h1:a≤b) (h2:b≤m) (h3:m≤cap):
  (Instr.sliceBounds sl d cap (lo.map ρ) (hi.map ρ) (mx.map ρ)).run P w= .ok (a,b,m) w:=by
 cases mx with
 | none=>
  have hmx:m=cap:=hmx
  subst hmx
  cases hi with
  | none=>
   have hhi:b=d:=hhi
   subst hhi
   cases lo with
   | none=>
    have hlo:a=0:=hlo
    subst hlo
    rfl
   | some y=>
    obtain ⟨k,hy⟩:=hlo
    simp [Instr.sliceBounds,run_bound hy h1]
  | some z=>
   obtain ⟨k',hz⟩:=hhi
   cases lo with
   | none=>
    have hlo:a=0:=hlo
    subst hlo
    simp [Instr.sliceBounds,run_bound hz h2]
   | some y=>
    obtain ⟨k,hy⟩:=hlo
    simp [Instr.sliceBounds,run_bound hz h2,run_bound hy h1]
 | some q=>
  obtain ⟨k2,hq⟩:=hmx
  cases hi with
  | none=> exact absurd rfl (hh (by simp))
  | some z=>
   obtain ⟨k',hz⟩:=hhi
   cases lo with
   | none=>
    have hlo:a=0:=hlo
    subst hlo
    simp [Instr.sliceBounds,run_bound hq h3,run_bound hz h2]
   | some y=>
    obtain ⟨k,hy⟩:=hlo
    simp [Instr.sliceBounds,run_bound hq h3,run_bound hz h2,run_bound hy h1]
theorem mkS_ok {l o z a b m:Nat} {c:Loc} (hc:σ l=some c) (h1:a≤b) (h2:b≤m):VR σ (mkS l o z a b m) (.slice (some (if m=a then ⟨c.blk,c.off + o,none⟩ else (⟨c.blk,c.off + o,none⟩:Addr).add (a * z))) (b - a) (m - a)):=by
 unfold mkS
 cases hb:Nat.beq a m with
 | true=>
  rw [if_pos (beq_eq' hb).symm]
  exact .sk _ _ _ hc (by show b - a≤m - a;omega)
 | false=>
  rw [if_neg (fun e=> Nat.ne_of_beq_eq_false hb e.symm),add_eq]
  have:=VR.sk (σ:=σ) (l:=l) (c:=c) (o + a * z) (b - a) (m - a) hc (by omega)
  rw [←Nat.add_assoc] at this
  exact this
theorem mxOk_ok {hi mx:Option Operand} (h:mxOk hi mx=true):mx≠none→hi≠none:=by
 cases mx with
 | none=> exact fun h=> absurd rfl h
 | some m=>
  cases hi with
  | none=> cases h
  | some x=> exact fun _ h=> by cases h
theorem run_slice {t e:TypeId} {z n cap a b m:Nat} {A:Option Addr} {lo hi mx:Option Value} (hu:P.underlying t=some (.slice e)) (hz:szT P e=some z) (hb:(Instr.sliceBounds true n cap lo hi mx).run P w= .ok (a,b,m) w):
  (Instr.sliceAt t (.slice A n cap) lo hi mx).run P w= .ok (.slice (if m=a then A else A.map (·.add (a * z))) (b - a) (m - a)) w:=by
 simp only [Instr.sliceAt,Instr.slice,Sem.run_bind,Result.andThen_ok,run_underlying hu,hb,szT_run hz w,Sem.run_pure]
theorem q_slice {t:TypeId} {x:Operand} {lo hi mx:Option Operand} {v:CV} (hev:Evs σ E ρ (#[x] ++ lo.toArray ++ hi.toArray ++ mx.toArray)) (h:qSlice P E t x lo hi mx=some v):
  ∃u,(Instr.sliceAt t (ρ x) (lo.map ρ) (hi.map ρ) (mx.map ρ)).run P w= .ok u w∧VR σ v u:=by
 have hlo:∀y∈lo,∀c,ev E y=some c→VR σ c (ρ y):=fun y hy=> hev y (by simp [Option.mem_def.1 hy])
 have hhi:∀y∈hi,∀c,ev E y=some c→VR σ c (ρ y):=fun y hy=> hev y (by simp [Option.mem_def.1 hy])
 have hmx:∀y∈mx,∀c,ev E y=some c→VR σ c (ρ y):=fun y hy=> hev y (by simp [Option.mem_def.1 hy])
 obtain ⟨c,h1,h⟩:=ob_some h
 have hx:=hev x (by simp) _ h1
 obtain ⟨hm3,h⟩:=ifO_some h
 have hm3:=mxOk_ok hm3
 cases c with
 | t bs=>
  obtain ⟨hn,h⟩:=noneO_some (show noneO mx _=some v from h)
  subst hn
  obtain ⟨n0,h3,h⟩:=ob_some h
  obtain ⟨a,ha,h⟩:=ob_some h
  obtain ⟨b,hb,h⟩:=ob_some h
  have ha:=bnd_ok hlo ha
  have hb:=bnd_ok hhi hb
  obtain ⟨hab,h⟩:=ifO_some h
  obtain ⟨k1,k2⟩:=and_true hab
  have k1:=ble_le k1
  have k2:=ble_le k2
  injection h with h
  subst h
  rw [takeN_eq,dropN_eq]
  rw [len_eq] at hb k2
  have hu:=isStr_some h3
  generalize ρ x=vx at hx ⊢
  cases hx with
  | t _ hb8=>
   have hsz:(⟨(bs.map UInt8.ofNat).toArray⟩:ByteArray).size=bs.length:=by simp [ByteArray.size]
   have hbd:=run_bounds (P:=P) (w:=w) (sl:=false) (d:=bs.length) (cap:=bs.length) (lo:=lo) (hi:=hi) (mx:=none) (a:=a) (b:=b) (m:=bs.length) ha hb rfl (fun h=> absurd rfl h) k1 k2 (Nat.le_refl _)
   refine ⟨strV ((bs.drop a).take (b - a)),?_,.t _ fun q hq=> hb8 q (List.mem_of_mem_drop (List.mem_of_mem_take hq))⟩
   have e:(⟨(bs.map UInt8.ofNat).toArray⟩:ByteArray).extract a b=⟨(((bs.drop a).take (b - a)).map UInt8.ofNat).toArray⟩:=by
    apply ByteArray.ext
    simp [ByteArray.data_extract,List.map_take,List.map_drop]
   have hbd:(Instr.sliceBounds false bs.length bs.length (lo.map ρ) (hi.map ρ) none).run P w= .ok (a,b,bs.length) w:=hbd
   simp only [Instr.sliceAt,Instr.slice,Sem.run_bind,Result.andThen_ok,run_underlying hu,strV,hsz,hbd,Option.map_none,Option.isSome_none,Bool.false_eq_true,if_false,Sem.run_pure,e]
 | v y=>
  have hy:=hx.val
  obtain ⟨hn,h⟩:=ifO_some (show ifO (isNilS y) _=some v from h)
  have hy2:y= .slice none 0 0:=by
   unfold isNilS at hn
   split at hn
   ·rfl
   ·cases hn
  obtain ⟨e,he,h⟩:=ob_some h
  obtain ⟨z,hz,h⟩:=ob_some h
  obtain ⟨a,ha,h⟩:=ob_some h
  obtain ⟨b,hb,h⟩:=ob_some h
  obtain ⟨m,hm,h⟩:=ob_some h
  have ha:=bnd_ok hlo ha
  have hb:=bnd_ok hhi hb
  have hm:=bnd_ok hmx hm
  obtain ⟨hs,h⟩:=ifO_some h
  injection h with h
  subst h
  have hs:a + (b + m)=0:=beq_eq' hs
  have e1:a=0:=by omega
  have e2:b=0:=by omega
  have e3:m=0:=by omega
  subst e1 e2 e3
  have hbd:=run_bounds (P:=P) (w:=w) (sl:=true) (d:=0) (cap:=0) (lo:=lo) (hi:=hi) (mx:=mx) (a:=0) (b:=0) (m:=0) ha hb hm hm3 (Nat.le_refl _) (Nat.le_refl _) (Nat.le_refl _)
  rw [hy,hy2]
  exact ⟨_,run_slice (elT_some he) hz hbd,.v _ rfl⟩
 | s l o n k=>
  obtain ⟨e,he,h⟩:=ob_some (show ob (elT P t) _=some v from h)
  obtain ⟨z,hz,h⟩:=ob_some h
  obtain ⟨a,ha,h⟩:=ob_some h
  obtain ⟨b,hb,h⟩:=ob_some h
  have ha:=bnd_ok hlo ha
  have hb:=bnd_ok hhi hb
  obtain ⟨c,hc,A,cap,hA,hn,hA2,hkn,hop⟩:=hx.sv
  have hu:=elT_some he
  rw [hA]
  have mk:∀{m:Nat},a≤b→b≤m→m≤cap→VR σ (mkS l o z a b m) (.slice (if m=a then some A else (some A).map (·.add (a * z))) (b - a) (m - a)):=by
   intro m h1 h2 h3
   rcases hA2 with rfl | ⟨rfl,rfl⟩
   ·have:=mkS_ok (z:=z) (o:=o) hc h1 h2
    split at this <;> split <;> first | exact this | contradiction
   ·have e1:m=0:=by omega
    have e2:b=0:=by omega
    have e3:a=0:=by omega
    subst e1 e2 e3
    exact .s0 _ _ _ hc fun n e=> by injection e with e;exact e.symm
  cases mx with
  | some y=>
   obtain ⟨m,hm,h⟩:=ob_some (show ob (bnd E n (some y)) _=some v from h)
   have hm:=bnd_ok hmx hm
   obtain ⟨hs,h⟩:=ifO_some h
   obtain ⟨k1,hs⟩:=and_true hs
   obtain ⟨k2,k3⟩:=and_true hs
   have k1:=ble_le k1
   have k2:=ble_le k2
   have k3:=ble_le k3
   injection h with h
   subst h
   have hbd:=run_bounds (P:=P) (w:=w) (sl:=true) (d:=n) (cap:=cap) (lo:=lo) (hi:=hi) (mx:=some y) (a:=a) (b:=b) (m:=m) ha hb hm hm3 k1 k2 (by omega)
   exact ⟨_,run_slice hu hz hbd,mk k1 k2 (by omega)⟩
  | none=>
   cases k with
   | kn k=>
    obtain ⟨hs,h⟩:=ifO_some (show ifO (Bool.and (Nat.ble a b) (Nat.ble b k)) _=some v from h)
    obtain ⟨k1,k2⟩:=and_true hs
    have k1:=ble_le k1
    have k2:=ble_le k2
    injection h with h
    subst h
    have:=hkn k rfl
    subst this
    have hbd:=run_bounds (P:=P) (w:=w) (sl:=true) (d:=n) (cap:=cap) (lo:=lo) (hi:=hi) (mx:=none) (a:=a) (b:=b) (m:=cap) ha hb rfl (fun h=> absurd rfl h) k1 k2 (Nat.le_refl _)
    exact ⟨_,run_slice hu hz hbd,mk k1 k2 (Nat.le_refl _)⟩
   | op z'=>
    obtain ⟨hs,h⟩:=ifO_some (show ifO (Bool.and (Nat.beq z z') (Bool.and (Nat.ble a b) (Nat.ble b n))) _=some v from h)
    obtain ⟨k0,hs⟩:=and_true hs
    obtain ⟨k1,k2⟩:=and_true hs
    have k0:=beq_eq' k0
    have k1:=ble_le k1
    have k2:=ble_le k2
    injection h with h
    subst h
    subst k0
    have hbd:=run_bounds (P:=P) (w:=w) (sl:=true) (d:=n) (cap:=cap) (lo:=lo) (hi:=hi) (mx:=none) (a:=a) (b:=b) (m:=cap) ha hb rfl (fun h=> absurd rfl h) k1 (by omega) (Nat.le_refl _)
    refine ⟨_,run_slice hu hz hbd,?_⟩
    obtain ⟨hr,hmx⟩:=hop z rfl
    by_cases hca:cap=a
    ·have e2:b=a:=by omega
     subst hca e2
     rw [if_pos rfl,Nat.sub_self,show Nat.sub b b=0 from Nat.sub_self b]
     exact VR.s0 _ (.op z) _ hc fun n e=> by cases e
    ·rw [if_neg hca]
     have hA3:A=⟨c.blk,c.off + o,none⟩:=hA2.elim id fun h=> by omega
     have hr:o + cap * z≤c.room:=hr.elim id fun h=> by omega
     subst hA3
     have hmul:(cap - a) * z + a * z=cap * z:=by rw [←Nat.add_mul];congr 1;omega
     have:=VR.so (σ:=σ) (l:=l) (c:=c) (o + a * z) (b - a) z (cap - a) hc (by omega) (by omega) (by omega)
     rw [←Nat.add_assoc] at this
     show VR σ _ (.slice (some ((⟨c.blk,c.off + o,none⟩:Addr).add (a * z))) _ _)
     rw [add_eq]
     exact this
 | p l o=>
  obtain ⟨hn,h⟩:=noneO_some (show noneO mx _=some v from h)
  subst hn
  obtain ⟨k,e,hu,h⟩:=arT_some h
  obtain ⟨z,hz,h⟩:=ob_some h
  obtain ⟨a,ha,h⟩:=ob_some h
  obtain ⟨b,hb,h⟩:=ob_some h
  have ha:=bnd_ok hlo ha
  have hb:=bnd_ok hhi hb
  obtain ⟨hab,h⟩:=ifO_some h
  obtain ⟨k1,k2⟩:=and_true hab
  have k1:=ble_le k1
  have k2:=ble_le k2
  injection h with h
  subst h
  obtain ⟨c,hc,hA⟩:=hx.pv
  have hbd:=run_bounds (P:=P) (w:=w) (sl:=false) (d:=k) (cap:=k) (lo:=lo) (hi:=hi) (mx:=none) (a:=a) (b:=b) (m:=k) ha hb rfl (fun h=> absurd rfl h) k1 k2 (Nat.le_refl _)
  have hbd:(Instr.sliceBounds false k k (lo.map ρ) (hi.map ρ) none).run P w= .ok (a,b,k) w:=hbd
  refine ⟨_,?_,mkS_ok (z:=z) hc k1 k2⟩
  rw [hA]
  simp only [Instr.sliceAt,Instr.sureAddr,Sem.run_bind,Sem.run_pure,Result.andThen_ok,run_underlying hu,Option.map_none,hbd,szT_run hz w]
 | _=> cases h
theorem semP_bind {α β:Type} (f:α→Sem β):∀(s:Sem α),semP P (s >>=f)=(semP P s).bind fun a=> semP P (f a):=by
 intro s
 induction s with
 | pure a=> rfl
 | program k ih=> exact ih P
 | mark m k ih=> exact ih
 | _=> rfl
theorem semP_und (t:TypeId):semP P (underlying t)=P.underlying t:=by
 show semP P (match P.underlying t with | some d=> pure d | none=> stuck "no such type")=_
 cases P.underlying t <;> rfl
theorem findNow_keys (kind:TypeDesc) (k:Value):∀(l1 l2:List MapEntry) (i:Nat) (r:Option (Nat×Value)),l1.map (·.key)=l2.map (·.key)→Instr.findNow kind k l1 i=some r→
  ∃r',Instr.findNow kind k l2 i=some r'∧r'.map (·.1)=r.map (·.1)∧∀j v,r'=some (j,v)→i≤j∧∃e,l2[j - i]? =some e∧e.val=v
 | [],l2,i,r,hk,h=> by
  have:l2= []:=by cases l2 with
   | nil=> rfl
   | cons=> cases hk
  subst this
  injection h with h
  subst h
  exact ⟨none,rfl,rfl,fun j v h=> by cases h⟩
 | e::l1,[],i,r,hk,h=> by cases hk
 | e::l1,e2::l2,i,r,hk,h=> by
  simp only [List.map_cons,List.cons.injEq] at hk
  obtain ⟨k1,k2⟩:=hk
  simp only [Instr.findNow,←k1] at h ⊢
  cases hs:Instr.sameNow kind k e.key with
  | none=> rw [hs] at h;cases h
  | some b=>
   rw [hs] at h
   cases b with
   | true=>
    injection h with h
    subst h
    exact ⟨_,rfl,rfl,fun j v h=> by
     injection h with h
     injection h with h3 h4
     subst h3 h4
     exact ⟨Nat.le_refl _,e2,by simp,rfl⟩⟩
   | false=>
    obtain ⟨r',h1,h2,h3⟩:=findNow_keys kind k l1 l2 (i + 1) r k2 h
    refine ⟨r',h1,h2,fun j v hj=> ?_⟩
    obtain ⟨h4,e',h5,h6⟩:=h3 j v hj
    refine ⟨by omega,e',?_,h6⟩
    rw [show j - i=(j - (i + 1)) + 1 by omega,List.getElem?_cons_succ]
    exact h5
theorem findNow_none (kind:TypeDesc) (k:Value):∀(l1 l2:List MapEntry) (i:Nat),l1.map (·.key)=l2.map (·.key)→Instr.findNow kind k l1 i=none→Instr.findNow kind k l2 i=none
 | [],l2,i,hk,h=> by cases h
 | e::l1,[],i,hk,h=> by cases hk
 | e::l1,e2::l2,i,hk,h=> by
  simp only [List.map_cons,List.cons.injEq] at hk
  obtain ⟨k1,k2⟩:=hk
  simp only [Instr.findNow,←k1] at h ⊢
  cases hs:Instr.sameNow kind k e.key with
  | none=> rfl
  | some b=>
   rw [hs] at h
   cases b with
   | true=> cases h
   | false=> exact findNow_none kind k l1 l2 (i + 1) k2 h
theorem findAsk_keys (kt:TypeId) (k:Value) (w:World):∀(l1 l2:List MapEntry) (i:Nat) (r:Option (Nat×Value)),l1.map (·.key)=l2.map (·.key)→semP P (Instr.findAsking kt k l1 i)=some r→
  ∃r',(Instr.findAsking kt k l2 i).run P w= .ok r' w∧r'.map (·.1)=r.map (·.1)∧∀j v,r'=some (j,v)→i≤j∧∃e,l2[j - i]? =some e∧e.val=v
 | [],l2,i,r,hk,h=> by
  have:l2= []:=by cases l2 with
   | nil=> rfl
   | cons=> cases hk
  subst this
  injection h with h
  subst h
  exact ⟨none,rfl,rfl,fun j v h=> by cases h⟩
 | e::l1,[],i,r,hk,h=> by cases hk
 | e::l1,e2::l2,i,r,hk,h=> by
  simp only [List.map_cons,List.cons.injEq] at hk
  obtain ⟨k1,k2⟩:=hk
  simp only [Instr.findAsking] at h ⊢
  rw [semP_bind] at h
  cases hb:semP P (Op.equal kt k e.key) with
  | none=> rw [hb] at h;cases h
  | some b=>
   rw [hb] at h
   have hrun:=semP_run _ hb w
   rw [Sem.run_bind,←k1,hrun]
   cases b with
   | true=>
    injection h with h
    subst h
    exact ⟨_,rfl,rfl,fun j v h=> by
     injection h with h
     injection h with h3 h4
     subst h3 h4
     exact ⟨Nat.le_refl _,e2,by simp,rfl⟩⟩
   | false=>
    obtain ⟨r',h1,h2,h3⟩:=findAsk_keys kt k w l1 l2 (i + 1) r k2 h
    refine ⟨r',h1,h2,fun j v hj=> ?_⟩
    obtain ⟨h4,e',h5,h6⟩:=h3 j v hj
    refine ⟨by omega,e',?_,h6⟩
    rw [show j - i=(j - (i + 1)) + 1 by omega,List.getElem?_cons_succ]
    exact h5
theorem findKey_keys {kt:TypeId} {k:Value} {l1 l2:List MapEntry} {r:Option (Nat×Value)} (hk:l1.map (·.key)=l2.map (·.key)) (h:semP P (Instr.findKey kt k l1)=some r) (w:World):
  ∃r',(Instr.findKey kt k l2).run P w= .ok r' w∧r'.map (·.1)=r.map (·.1)∧∀j v,r'=some (j,v)→∃e,l2[j]? =some e∧e.val=v:=by
 unfold Instr.findKey at h ⊢
 rw [semP_bind,semP_und] at h
 cases hu:P.underlying kt with
 | none=> rw [hu] at h;cases h
 | some d=>
  rw [hu] at h
  have h:semP P (match Instr.findNow d k l1 0 with | some r=> pure r | none=> Instr.findAsking kt k l1)=some r:=h
  rw [Sem.run_bind,run_underlying hu]
  show ∃r',(match Instr.findNow d k l2 0 with | some r=> pure r | none=> Instr.findAsking kt k l2:Sem _).run P w= .ok r' w∧_
  cases hn:Instr.findNow d k l1 0 with
  | some q=>
   rw [hn] at h
   injection h with h
   subst h
   obtain ⟨r',h1,h2,h3⟩:=findNow_keys d k l1 l2 0 q hk hn
   rw [h1]
   exact ⟨r',rfl,h2,fun j v hj=> (h3 j v hj).2⟩
  | none=>
   rw [hn] at h
   rw [findNow_none d k l1 l2 0 hk hn]
   obtain ⟨r',h1,h2,h3⟩:=findAsk_keys kt k w l1 l2 0 r hk h
   exact ⟨r',h1,h2,fun j v hj=> (h3 j v hj).2⟩
theorem keysC_rel:∀(es:List (CV×CV)) (ks ents:List MapEntry),ents.length=es.length→(∀(j:Nat) (p:CV×CV) (e:MapEntry),es[j]? =some p→ents[j]? =some e→VR σ p.1 e.key)→keysC es=some ks→ks.map (·.key)=ents.map (·.key)
 | [],ks,ents,hl,_,h=> by
  injection h with h
  subst h
  have:ents= []:=List.eq_nil_of_length_eq_zero hl
  subst this
  rfl
 | q::es,ks,ents,hl,hr,h=> by
  obtain ⟨v,h1,h⟩:=ob_some (show ob (toV q.1) _=some ks from h)
  obtain ⟨ks',h2,h⟩:=ob_some h
  injection h with h
  subst h
  cases ents with
  | nil=> cases hl
  | cons e ents=>
   rw [List.map_cons,List.map_cons,keysC_rel es ks' ents (by simpa using hl) (fun j p e hp he=> hr (j + 1) p e (by simpa using hp) (by simpa using he)) h2]
   have:=toV_rel (hr 0 q e rfl rfl) h1
   rw [this]
   rfl
theorem findC_ok {kt:TypeId} {eB:Bool} {k:CV} {kv:Value} {es:List (CV×CV)} {r:Option (Nat×Value)} {ents:List MapEntry} (hk:VR σ k kv) (hl:ents.length=es.length) (hr:∀(j:Nat) (p:CV×CV) (e:MapEntry),es[j]? =some p→ents[j]? =some e→VR σ p.1 e.key)
  (h:findC P kt eB k es=some r) (w:World):(Instr.checkKey eB 10000 kt kv).run P w= .ok () w∧∃r',(Instr.findKey kt kv ents).run P w= .ok r' w∧r'.map (·.1)=r.map (·.1)∧∀j v,r'=some (j,v)→∃e,ents[j]? =some e∧e.val=v:=by
 obtain ⟨u,h1,h⟩:=ob_some h
 obtain ⟨x,h2,h⟩:=ob_some h
 obtain ⟨ks,h3,h4⟩:=ob_some h
 have:=toV_rel hk h1
 subst this
 exact ⟨semP_run _ h2 w,findKey_keys (keysC_rel es ks ents hl hr h3) h4 w⟩
theorem emptyB_eq {α:Type} (l:List α):emptyB l=l.isEmpty:=by cases l <;> rfl
theorem mapOf_ok {w0:World} {H:Tr Blk} {nx:Nat} (hs:R w0 σ H nx w) {c:CV} {v:Value} {es:List (CV×CV)} (hv:VR σ c v) (h:mapOf H c=some es):
  (v= .map none∧es= [])∨∃l lc ents clock,c= .m l∧σ l=some lc∧H.get l=some (.mp es)∧v= .map (some lc.blk)∧w.heap[lc.blk]? =some (.map ents clock)∧MapKept.Stamped ents clock∧ents.size=es.length∧∀(j:Nat) (p:CV×CV) (e:MapEntry),es[j]? =some p→ents[j]? =some e→VR σ p.1 e.key∧VR σ p.2 e.val:=by
 cases c with
 | v y=>
  obtain ⟨hn,h5⟩:=ifO_some (show ifO (isNilM y) _=some es from h)
  injection h5 with h5
  left
  have:=hv.val
  rw [this]
  refine ⟨?_,h5.symm⟩
  unfold isNilM at hn
  split at hn
  ·rfl
  ·cases hn
 | m l=>
  right
  obtain ⟨b,h1,h2⟩:=ob_some (show ob (H.get l) _=some es from h)
  cases b with
  | cl=> cases h2
  | mp xs=>
   injection h2 with h2
   subst h2
   cases hv with
   | m hc=>
    obtain ⟨ents,clock,k1,k2,k3,k4⟩:=hs.blk l _ _ hc h1
    exact ⟨l,_,ents,clock,rfl,hc,h1,rfl,k1,k2,k3,k4⟩
 | _=> cases h
theorem okC_ok {ok b:Bool} {c:CV} {v:Value} (h:VR σ c v):VR σ (okC ok b c) (if ok then .tuple #[v,.bool b] else v):=by
 cases ok with
 | false=> exact h
 | true=> exact VR.of_tup (.cons h (.cons (.v (.bool b) rfl) (.nil σ)))
theorem q_look {w0:World} {H:Tr Blk} {nx:Nat} (hs:R w0 σ H nx w) {t:TypeId} {x i:Operand} {ok:Bool} {v:CV} (hev:Evs σ E ρ #[x,i]) (h:qLook P E H t x i ok=some v):∃u,(Instr.lookup t (ρ x) (ρ i) ok).run P w= .ok u w∧VR σ v u:=by
 obtain ⟨c,h1,h⟩:=ob_some h
 obtain ⟨ci,h2,h⟩:=ob_some h
 have hx:=hev x (by simp) _ h1
 have hi:=hev i (by simp) _ h2
 obtain ⟨kt,e,hu,h⟩:=mpT_some h
 obtain ⟨es,h3,h⟩:=ob_some h
 obtain ⟨r,h4,h⟩:=ob_some h
 have zero:r=none→∃z u,(zeroValue e).run P w= .ok z w∧u=(if ok then .tuple #[z,.bool false] else z)∧VR σ v u:=by
  intro hr
  subst hr
  obtain ⟨ie,h5,h⟩:=ob_some (show ob (P.info? e) _=some v from h)
  obtain ⟨z,h6,h⟩:=ob_some h
  obtain ⟨cz,h7,h⟩:=ob_some h
  injection h with h
  subst h
  exact ⟨z,_,by simp [zeroValue,typeInfo,h5,h6],rfl,okC_ok (ofV_rel σ h7)⟩
 have fin:∀(es':Array MapEntry) (ents:List MapEntry),es'.toList=ents→ents.length=es.length→(∀(j:Nat) (p:CV×CV) (e:MapEntry),es[j]? =some p→ents[j]? =some e→VR σ p.1 e.key∧VR σ p.2 e.val)→
   ∃u,(do Instr.checkKey es'.isEmpty 10000 kt (ρ i);match←Instr.findKey kt (ρ i) es'.toList with | some (_,v)=> pure (if ok then .tuple #[v,.bool true] else v) | none=> (do let z←zeroValue e;pure (if ok then .tuple #[z,.bool false] else z)):Sem Value).run P w= .ok u w∧VR σ v u:=by
  intro es' ents he hl hr
  subst he
  obtain ⟨k1,r',k2,k3,k4⟩:=findC_ok hi hl (fun j p e hp he=> (hr j p e hp he).1) h4 w
  have hE:es'.isEmpty=emptyB es:=by
   rw [emptyB_eq,←Array.isEmpty_toList]
   cases he:es'.toList with
   | nil=>
    rw [he] at hl
    have:es= []:=List.eq_nil_of_length_eq_zero (by simpa using hl.symm)
    rw [this]
    rfl
   | cons a l=>
    rw [he] at hl
    cases es with
    | nil=> cases hl
    | cons=> rfl
  rw [hE,Sem.run_bind,k1]
  simp only [Result.andThen_ok]
  rw [Sem.run_bind,k2]
  simp only [Result.andThen_ok]
  cases r' with
  | none=>
   have hr0:r=none:=by
    cases r with
    | none=> rfl
    | some q=> cases k3
   obtain ⟨z,u,z1,z2,z3⟩:=zero hr0
   refine ⟨u,?_,z3⟩
   subst z2
   simp [z1]
  | some q=>
   obtain ⟨j,vv⟩:=q
   cases r with
   | none=> cases k3
   | some q'=>
    injection k3 with k3
    have k3:j=q'.1:=k3
    obtain ⟨en,h5,h6⟩:=k4 j vv rfl
    obtain ⟨p,h7,h8⟩:=ob_some (show ob (nth es q'.1) _=some v from h)
    injection h8 with h8
    subst h8
    rw [nth_eq,←k3] at h7
    have:=(hr j p en h7 h5).2
    rw [h6] at this
    exact ⟨_,rfl,okC_ok this⟩
 have hu2:(underlying t).run P w= .ok (.map kt e) w:=run_underlying hu w
 rcases mapOf_ok hs hx h3 with ⟨e1,e2⟩ | ⟨l,lc,ents,clock,rfl,hc,hH,e1,k1,k2,k3,k4⟩
 ·subst e2
  obtain ⟨u,f1,f2⟩:=fin #[] [] rfl rfl (fun j p e hp=> by simp at hp)
  refine ⟨u,?_,f2⟩
  rw [e1]
  unfold Instr.lookup
  simp only [Sem.run_bind,hu2,Result.andThen_ok,Sem.run_pure] at f1 ⊢
  exact f1
 ·obtain ⟨u,f1,f2⟩:=fin ents ents.toList rfl (by simpa using k3) (fun j p e hp he=> k4 j p e hp (by simpa using he))
  refine ⟨u,?_,f2⟩
  rw [e1]
  have hg:(getObj lc.blk).run P w= .ok (.map ents clock) w:=by
   simp [getObj,Sem.run,k1]
  unfold Instr.lookup
  simp only [Sem.run_bind,hu2,hg,Result.andThen_ok,Sem.run_pure] at f1 ⊢
  exact f1
end
end Go.Proofs.YtiklglcjecopcaaGreatDoor.Ci
namespace Go.Proofs.YtiklglcjecopcaaGreatDoor.Ci
open Go.RowKit
section
variable {P : Program} {σ : Nm} {E : Tr CV} {ρ : Operand → Value} {w : World}
theorem isNilS_eq {y:Value} (h:isNilS y=true):y= .slice none 0 0:=by
 unfold isNilS at h
 split at h
 ·rfl
 ·cases h
theorem q_len {w0:World} {H:Tr Blk} {nx:Nat} (hs:R w0 σ H nx w) {t ty:TypeId} {ts:Array TypeId} {args:Array Value} {c v:CV} {va:Value} (ht:ts[0]? =some t) (ha:args[0]? =some va) (hv:VR σ c va) (h:lenC P H t c=some v):
  ∃u,(Builtin.len_ ts ty args).run P w= .ok u w∧VR σ v u:=by
 obtain ⟨d,hd,h⟩:=ob_some h
 have hu:P.underlying t=some d:=hd
 have ok:∀n:Nat,lenV n=some v→VR σ v (goInt n):=fun n h=> by
  injection h with h
  subst h
  exact .v _ rfl
 cases d with
 | string=>
  cases c with
  | t bs=>
   generalize va=vx at *
   cases hv with
   | t _ hb=>
    have hsz:(⟨(bs.map UInt8.ofNat).toArray⟩:ByteArray).size=bs.length:=by simp [ByteArray.size]
    refine ⟨goInt bs.length,?_,ok bs.length (by have h:lenV (len bs)=some v:=h;rw [len_eq] at h;exact h)⟩
    simp [Builtin.len_,ht,ha,run_underlying hu,strV,hsz]
  | _=> cases h
 | slice e=>
  cases c with
  | s l o n k=>
   obtain ⟨lc,hc,A,cap,hA,_⟩:=hv.sv
   exact ⟨goInt n,by simp [Builtin.len_,ht,ha,run_underlying hu,hA],ok n h⟩
  | v y=>
   obtain ⟨hn,h⟩:=ifO_some (show ifO (isNilS y) _=some v from h)
   have e1:=hv.val
   have e2:=isNilS_eq hn
   refine ⟨goInt 0,?_,ok 0 h⟩
   simp [Builtin.len_,ht,ha,run_underlying hu,e1,e2]
  | _=> cases h
 | map kt e=>
  obtain ⟨es,h1,h9⟩:=ob_some (show ob (mapOf H c) _=some v from h)
  rw [len_eq] at h9
  rcases mapOf_ok hs hv h1 with ⟨e1,e2⟩ | ⟨l,lc,ents,clock,rfl,hc,hH,e1,k1,k2,k3,k4⟩
  ·subst e2
   refine ⟨goInt 0,?_,ok 0 h9⟩
   simp [Builtin.len_,ht,ha,run_underlying hu,e1]
  ·have hg:(getObj lc.blk).run P w= .ok (.map ents clock) w:=by
    simp [getObj,Sem.run,k1]
   refine ⟨goInt es.length,?_,ok _ h9⟩
   simp [Builtin.len_,ht,ha,run_underlying hu,e1,hg,k3]
 | array n e=>
  refine ⟨goInt n,?_,ok n h⟩
  simp [Builtin.len_,ht,ha,run_underlying hu]
 | _=> cases h
theorem q_cap {t ty:TypeId} {ts:Array TypeId} {args:Array Value} {c v:CV} {va:Value} (ht:ts[0]? =some t) (ha:args[0]? =some va) (hv:VR σ c va) (h:capC P t c=some v):∃u,(Builtin.cap_ ts ty args).run P w= .ok u w∧VR σ v u:=by
 obtain ⟨e,he,h⟩:=ob_some h
 have hu:=elT_some he
 have ok:∀n:Nat,lenV n=some v→VR σ v (goInt n):=fun n h=> by
  injection h with h
  subst h
  exact .v _ rfl
 cases c with
 | s l o n k=>
  obtain ⟨lc,hc,A,cap,hA,_,_,hk,_⟩:=hv.sv
  cases k with
  | op z=> cases h
  | kn k=>
   have:=hk k rfl
   subst this
   exact ⟨goInt cap,by simp [Builtin.cap_,ht,ha,run_underlying hu,hA],ok cap h⟩
 | v y=>
  obtain ⟨hn,h⟩:=ifO_some (show ifO (isNilS y) _=some v from h)
  have e1:=hv.val
  have e2:=isNilS_eq hn
  refine ⟨goInt 0,?_,ok 0 h⟩
  simp [Builtin.cap_,ht,ha,run_underlying hu,e1,e2]
 | _=> cases h
theorem toVL_rel:∀{cs:List CV} {vs us:List Value},VRL σ cs vs→toVL cs=some us→vs=us
 | [],vs,us,h,hc=> by
  injection hc with hc
  subst hc
  exact h.nil_inv
 | c::cs,vs,us,h,hc=> by
  obtain ⟨v,vs',rfl,h1,h2⟩:=h.cons_inv
  obtain ⟨u,e1,hc⟩:=ob_some (show ob (toV c) _=some us from hc)
  obtain ⟨us',e2,hc⟩:=ob_some hc
  injection hc with hc
  subst hc
  rw [toV_rel h1 e1,toVL_rel h2 e2]
theorem q_bui {w0:World} {H:Tr Blk} {nx:Nat} (hs:R w0 σ H nx w) {b:Builtin} {args:Array Operand} {ts:Array TypeId} {ty:TypeId} {cb:Array Bool} {v:CV} (hev:Evs σ E ρ args) (h:qBui P E H b args ts ty=some v):∃u,(builtin b ts ty cb (args.map ρ)).run P w= .ok (.value u) w∧VR σ v u:=by
 obtain ⟨vs,h1,h⟩:=ob_some h
 have hr:=evL_rel (ρ:=ρ) args.toList (fun x hx=> hev x (by simpa using hx)) h1
 have hr:VRL σ vs (args.map ρ).toList:=by simpa using hr
 have lift:∀{s:Sem Value},(∃u,s.run P w= .ok u w∧VR σ v u)→∃u,(do pure (.value (←s)):Sem Next).run P w= .ok (.value u) w∧VR σ v u:=by
  rintro s ⟨u,h1,h2⟩
  exact ⟨u,by simp [h1],h2⟩
 have one:∀{c:CV} {t:TypeId},nth vs 0=some c→nth ts.toList 0=some t→ts[0]? =some t∧∃va,(args.map ρ)[0]? =some va∧VR σ c va:=by
  intro c t hc ht
  rw [nth_eq] at hc ht
  obtain ⟨va,h1,h2⟩:=hr.get hc
  exact ⟨by simpa using ht,va,by simpa using h1,h2⟩
 cases b with
 | len=>
  obtain ⟨c,h2,h⟩:=ob_some (show ob (nth vs 0) _=some v from h)
  obtain ⟨t,h3,h⟩:=ob_some h
  obtain ⟨ht,va,ha,hv⟩:=one h2 h3
  exact lift (q_len hs ht ha hv h)
 | cap=>
  obtain ⟨c,h2,h⟩:=ob_some (show ob (nth vs 0) _=some v from h)
  obtain ⟨t,h3,h⟩:=ob_some h
  obtain ⟨ht,va,ha,hv⟩:=one h2 h3
  exact lift (q_cap ht ha hv h)
 | min=>
  obtain ⟨us,h2,h⟩:=ob_some (show ob (toVL vs) _=some v from h)
  obtain ⟨r,h3,h⟩:=ob_some h
  have:=toVL_rel hr h2
  refine lift ⟨r,?_,ofV_rel σ h⟩
  have e:args.map ρ=us.toArray:=by rw [←this]
  rw [e]
  exact semP_run _ h3 w
 | max=>
  obtain ⟨us,h2,h⟩:=ob_some (show ob (toVL vs) _=some v from h)
  obtain ⟨r,h3,h⟩:=ob_some h
  have:=toVL_rel hr h2
  refine lift ⟨r,?_,ofV_rel σ h⟩
  have e:args.map ρ=us.toArray:=by rw [←this]
  rw [e]
  exact semP_run _ h3 w
 | _=> cases h
theorem exQ_ok {w0:World} {H:Tr Blk} {nx:Nat} (hs:R w0 σ H nx w) {o:Oper} {v:CV} (hev:Evs σ E ρ o.op.operands) (h:exQ P E H o.type o.op=some v):∃u,(execOp ρ o).run P w= .ok (.value u) w∧VR σ v u:=by
 obtain ⟨dst,op,ty,pos,after,guard⟩:=o
 have lift:∀{s:Sem Value},(∃u,s.run P w= .ok u w∧VR σ v u)→∃u,(do pure (.value (←s)):Sem Next).run P w= .ok (.value u) w∧VR σ v u:=by
  rintro s ⟨u,h1,h2⟩
  exact ⟨u,by simp [h1],h2⟩
 cases op with
 | move x=> exact ⟨ρ x,rfl,hev x (by simp [Op.operands]) _ h⟩
 | assign x=> exact ⟨ρ x,rfl,hev x (by simp [Op.operands]) _ h⟩
 | pick c a b=> exact q_pick hev h
 | load t a=> exact lift (q_load hs hev h)
 | fieldAddr t x i=> exact lift (q_faddr hev h)
 | indexAddr t x i=> exact lift (q_iaddr hev h)
 | binOp op t x y yt=> exact lift (q_bin hev h)
 | nilCheck x=>
  obtain ⟨h1,h2⟩:=q_nil (σ:=σ) hev h
  refine ⟨ρ x,?_,h1⟩
  show (match ρ x with
  | .pointer none | .nilIface | .nilFunc=> runtimePanic .nilDeref
  | .func (.method name) first captured=>
   match (first[0]? :Option Value) with
   | some .nilIface=> runtimePanic .nilDeref
   | some (.iface t w)=> do
    if (←nilAhead ((←program).types.size + Made.depth) t w name) !=some false then
     unsupported (.noEntry "op/nilCheck.the method's receiver behind this interface value is a nil pointer, or cannot be seen to be none, and the arguments act or may panic (ledger 612)")
    pure (.value (.func (.method name) first captured))
   | _=> pure (.value (.func (.method name) first captured))
  | x=> pure (.value x):Sem Next).run P w=_
  rcases h2 with ⟨A,e⟩ | ⟨f,us,vs,e⟩ <;> rw [e] <;> rfl
 | extract x i=> exact lift (q_extract hev h)
 | build t ps=> exact lift (q_build (fun q hq=> hev q.2 (by
   simp only [Op.operands]
   simp
   exact ⟨q.1,hq⟩)) h)
 | field t x i=> exact lift (q_field hev h)
 | index t x i=> exact lift (q_index hev h)
 | slice t x lo hi mx=> exact lift (q_slice hev h)
 | unOp op t x=> exact lift (q_un hev h)
 | convert a b x=> exact lift (q_conv hev h)
 | makeFunc f fs cs=> exact ⟨_,rfl,q_func hev h⟩
 | lookup t x i ok=> exact lift (q_look hs hev h)
 | call c=>
  obtain ⟨callee,args,ts⟩:=c
  cases callee with
  | builtin b=>
   have hev:Evs σ E ρ args:=fun x hx=> hev x (by simp [Op.operands,Call.operands,hx])
   obtain ⟨u,h1,h2⟩:=q_bui (cb:=args.map fun | .const _=> true | _=> false) hs hev (show qBui P E H b args ts ty=some v from h)
   exact ⟨u,h1,h2⟩
  | _=> cases h
 | _=> cases h
end
end Go.Proofs.YtiklglcjecopcaaGreatDoor.Ci
namespace Go.Proofs.YtiklglcjecopcaaGreatDoor.Ci
open Go.RowKit
section
variable {P : Program} {σ : Nm} {E : Tr CV} {ρ : Operand → Value} {w : World}
theorem blk_new {cs:List CV} {vals:Array Value} (hr:VRL σ cs vals.toList) (h1:∀c∈cs,oneC c=true) (T:TypeId) {k:Kd} (hk:KdOk T ⟨w.heap.size,0,vals.size⟩ cs.length k) {σ':Nm} (hs:Le σ σ'):BlkOk σ' (w.alloc (.cells vals T)) ⟨w.heap.size,0,vals.size⟩ (.cl k cs):=by
 have hl:=hr.1
 refine ⟨vals,T,heap_alloc_new w _,by show cs.length≤vals.size;rw [←hl];simp,Nat.zero_add _,hk,fun j x hx=> ?_⟩
 obtain ⟨v,hv,hx2⟩:=hr.get hx
 exact ⟨v,by show vals[0 + j]? =some v;rw [Nat.zero_add];simpa using hv,hx2.mono hs,h1 x (List.mem_of_getElem? hx)⟩
theorem repC_succ (z:List CV) (n:Nat):repC z (n + 1)=z ++ repC z n:=by
 show app z (repC z n)=_
 rw [app_eq]
theorem repC_len (z:List CV):∀n,(repC z n).length=n * z.length
 | 0=> by show ([]:List CV).length=_;simp
 | n + 1=> by rw [repC_succ,List.length_append,repC_len z n,Nat.add_mul];omega
theorem repC_get (z:List CV):∀(n j:Nat),j < n * z.length→(repC z n)[j]? =z[j % z.length]?
 | 0,j,h=> by simp at h
 | n + 1,j,h=> by
  rw [repC_succ]
  by_cases hj:j < z.length
  ·rw [List.getElem?_append_left hj,Nat.mod_eq_of_lt hj]
  ·rw [List.getElem?_append_right (by omega),repC_get z n _ (by rw [Nat.add_mul] at h;omega)]
   congr 1
   rw [Nat.mod_eq_sub_mod (a:=j) (by omega)]
theorem repC_ones {z:List CV} (h:∀c∈z,oneC c=true):∀n,∀c∈repC z n,oneC c=true
 | 0,c,hc=> by cases hc
 | n + 1,c,hc=> by
  rw [repC_succ] at hc
  rcases List.mem_append.1 hc with hc | hc
  ·exact h c hc
  ·exact repC_ones h n c hc
theorem repC_rel {z:List CV} {zs:Array Value} (h:VRL σ z zs.toList) (n:Nat):VRL σ (repC z n) (madeCells zs (n * z.length)).toList:=by
 have hl:zs.size=z.length:=by have:=h.1;simpa using this
 refine ⟨by simp [size_madeCells,repC_len],fun j c v hc hv=> ?_⟩
 have hj:j < n * z.length:=by
  have:=(List.getElem?_eq_some_iff.1 hc).1
  rw [repC_len] at this
  exact this
 rw [repC_get z n j hj] at hc
 have hv:(madeCells zs (n * z.length))[j]? =some v:=by simpa using hv
 simp only [madeCells,Array.getElem?_map] at hv
 rw [Array.getElem?_range] at hv
 rw [if_pos hj] at hv
 injection hv with hv
 have hm:j % z.length < z.length:=(List.getElem?_eq_some_iff.1 hc).1
 have hm':j % zs.size < zs.size:=by rw [hl];exact hm
 have hv:zs[j % zs.size]! =v:=hv
 rw [getElem!_pos zs _ hm'] at hv
 refine h.2 (j % z.length) c v hc ?_
 rw [←hv]
 simp only [hl,Array.getElem?_toList]
 rw [Array.getElem?_eq_getElem (by rw [hl];exact hm)]
def Makes (P:Program) (σ:Nm) (ρ:Operand→Value) (w:World) (o:Oper) (v:CV) (l:Nat) (b:Blk):Prop:=∃(obj:Obj) (room:Nat) (x:Value),(execOp ρ o).run P w= .ok (.value x) (w.alloc obj)∧∀σ',Le σ σ'→σ' l=some ⟨w.heap.size,0,room⟩→BlkOk σ' (w.alloc obj) ⟨w.heap.size,0,room⟩ b∧VR σ' v x
theorem exA_ok {o:Oper} {l:Nat} {v:CV} {b:Blk} (hev:Evs σ E ρ o.op.operands) (h:exA P E o.op l=some (v,b)):Makes P σ ρ w o v l b:=by
 obtain ⟨dst,op,ty,pos,after,guard⟩:=o
 have box:∀{cs:List CV} {x:Value} {t:TypeId},VRL σ cs x.cells.toList→(∀c∈cs,oneC c=true)→v= .p l 0→b= .cl (.whole t) cs→(execOp ρ ⟨dst,op,ty,pos,after,guard⟩).run P w= .ok (.value (.pointer (some ⟨w.heap.size,0,none⟩))) (w.alloc (.cells x.cells t))→Makes P σ ρ w ⟨dst,op,ty,pos,after,guard⟩ v l b:=by
  intro cs x t hr h1 hv hb hrun
  subst hv hb
  exact ⟨_,x.cells.size,_,hrun,fun σ' hs hl=> ⟨blk_new (k:= .whole t) hr h1 t ⟨rfl,rfl,by have:=hr.1;simpa using this⟩ hs,.p 0 hl⟩⟩
 cases op with
 | alloc t=>
  obtain ⟨cs,h1,h⟩:=ob_some (show ob (zeroT P t) _=some (v,b) from h)
  injection h with h
  injection h with h2 h3
  obtain ⟨zv,z1,z2,z3⟩:=zeroT_run h1 σ w
  refine box z2 z3 h2.symm h3.symm (t:=t) ?_
  show (do pure (.value (←Instr.alloc t true (.tuple #[]))):Sem Next).run P w=_
  simp only [Instr.alloc,Sem.run_bind,z1,Result.andThen_ok]
  rfl
 | box t x=>
  obtain ⟨c,h1,h⟩:=ob_some (show ob (ev E x) _=some (v,b) from h)
  obtain ⟨hn,h⟩:=ifO_some h
  injection h with h
  injection h with h2 h3
  obtain ⟨k1,k2⟩:=(hev x (by simp [Op.operands]) c h1).cells hn
  exact box k1 k2 h2.symm h3.symm (t:=t) rfl
 | buildSlice t n ps=>
  obtain ⟨e,h1,h⟩:=ob_some (show ob (elT P t) _=some (v,b) from h)
  obtain ⟨z,h2,h⟩:=ob_some h
  obtain ⟨z0,h3,h⟩:=ob_some h
  obtain ⟨vs,h4,h⟩:=ob_some h
  obtain ⟨h5,h⟩:=ifO_some h
  obtain ⟨cs,h6,h⟩:=ob_some h
  injection h with h
  injection h with h7 h8
  subst h7 h8
  obtain ⟨k1,k2⟩:=and_true h5
  have k1:=beq_eq' k1
  have k2:=ble_le k2
  rw [len_eq] at k1
  obtain ⟨zv,z1,z2,z3⟩:=zeroT_run h3 σ w
  obtain ⟨p1,p2⟩:=evP_rel2 (ρ:=ρ) (σ:=σ) (fun q hq=> hev q.2 (by
   simp only [Op.operands]
   simp
   exact ⟨q.1,hq⟩)) h4
  have hr:=repC_rel z2 n
  rw [k1] at hr
  obtain ⟨us,q1,q2,q3⟩:=fillC_rel vs _ (repC z0 n) cs (madeCells zv.cells (n * z)) p1 p2 hr (repC_ones z3 n) h6
  have hlen:us.size=cs.length:=by have:=q2.1;simpa using this
  refine ⟨.cells us e,us.size,.slice (some ⟨w.heap.size,0,none⟩) n n,?_,fun σ' hs hl=> ⟨blk_new (k:= .of e) q2 q3 e ⟨rfl,rfl⟩ hs,.sk 0 n n hl (Nat.le_refl _)⟩⟩
  have hk2:¬(n * z > 2 ^ 24):=by
   have:n * z≤16777216:=k2
   omega
  have q1:Instr.fill (fun i=> some (i * z,z)) (madeCells zv.cells (n * z)) (ps.map fun q=> (q.1,ρ q.2)).toList=some us:=q1
  show (do pure (.value (←Instr.buildSlice t n (ps.map fun q=> (q.1,ρ q.2)))):Sem Next).run P w=_
  by_cases h0:n * z=0
  ·have e1:(Array.range (n * z)).map (fun x=> (#[]:Array Value)[x % (#[]:Array Value).size]!)=madeCells zv.cells (n * z):=by
    rw [h0]
    simp [madeCells]
   simp only [Instr.buildSlice,Sem.run_bind,Sem.run_pure,run_underlying (elT_some h1),szT_run h2 w,Result.andThen_ok,if_neg hk2,if_pos h0,e1,q1]
   rfl
  ·have e1:(Array.range (n * z)).map (fun x=> zv.cells[x % zv.cells.size]!)=madeCells zv.cells (n * z):=rfl
   simp only [Instr.buildSlice,Sem.run_bind,Sem.run_pure,run_underlying (elT_some h1),szT_run h2 w,Result.andThen_ok,if_neg hk2,if_neg h0,z1,e1,q1]
   rfl
 | makeMap t r=>
  obtain ⟨hr,h⟩:=noneO_some (show noneO r _=some (v,b) from h)
  subst hr
  injection h with h
  injection h with h2 h3
  subst h2 h3
  exact ⟨.map #[] 0,0,.map (some w.heap.size),rfl,fun σ' hs hl=> ⟨⟨#[],0,heap_alloc_new w _,MapKept.stamped_empty 0,rfl,fun j p e hp=> by simp at hp⟩,.m hl⟩⟩
 | makeSlice t x y=>
  obtain ⟨e,h1,h⟩:=ob_some (show ob (elT P t) _=some (v,b) from h)
  obtain ⟨u,h2,h⟩:=ob_some h
  obtain ⟨z,h3,h⟩:=ob_some h
  obtain ⟨z0,h4,h⟩:=ob_some h
  obtain ⟨cx,h5,h⟩:=ob_some h
  obtain ⟨cy,h6,h⟩:=ob_some h
  obtain ⟨kx,n,ex,ha⟩:=isNat_some h
  obtain ⟨ky,c,ey,hb⟩:=isNat_some ha
  obtain ⟨h7,hc⟩:=ifO_some hb
  clear h ha hb
  subst ex
  subst ey
  injection hc with hc
  injection hc with h8 h9
  subst h8
  subst h9
  obtain ⟨k1,h7⟩:=and_true h7
  obtain ⟨k2,h7⟩:=and_true h7
  obtain ⟨k3,k4⟩:=and_true h7
  have k1:=beq_eq' k1
  have k2:=ble_le k2
  have k3:=ble_le k3
  have k4:=ble_le k4
  rw [len_eq] at k1
  obtain ⟨i,hi,h2⟩:=ob_some h2
  obtain ⟨hb,_⟩:=ifO_some h2
  have hb:=ble_le hb
  obtain ⟨i',hi',h3⟩:=ob_some h3
  rw [hi] at hi'
  injection hi' with hi'
  subst hi'
  injection h3 with h3
  obtain ⟨i',hi',h4'⟩:=ob_some (show ob (P.info? e) _=some z0 from h4)
  rw [hi] at hi'
  injection hi' with hi'
  subst hi'
  obtain ⟨zv,hz,_⟩:=ob_some h4'
  obtain ⟨zv',z1,z2,z3⟩:=zeroT_run h4 σ w
  have hzz:zv'=zv:=by
   simp [zeroValue,typeInfo,hi,hz] at z1
   exact z1.symm
  subst hzz
  have hr:=repC_rel z2 c
  rw [k1] at hr
  have hx:=(hev x (by simp [Op.operands]) _ h5).val
  have hy:=(hev y (by simp [Op.operands]) _ h6).val
  have hsz:(madeCells zv'.cells (c * z)).size=c * z:=size_madeCells _ _
  refine ⟨.cells (madeCells zv'.cells (c * z)) e,(madeCells zv'.cells (c * z)).size,.slice (some ⟨w.heap.size,0,none⟩) n c,?_,fun σ' hs hl=> ⟨blk_new (k:= .of e) hr (repC_ones z3 c) e ⟨rfl,rfl⟩ hs,.sk 0 n c hl k2⟩⟩
  have hby:(i.bytes:Int) * (c:Int)≤281474976710656:=by
   have:i.bytes * c≤1000 * 1000000:=Nat.mul_le_mul hb k3
   have h2:((i.bytes * c:Nat):Int)≤((1000 * 1000000:Nat):Int):=Int.ofNat_le.2 this
   rw [Int.natCast_mul] at h2
   omega
  have:=run_makeSlice (P:=P) w t e i zv' (elT_some h1) hi hz kx ky (n:Int) (c:Int) (Int.natCast_nonneg n) (by omega) (by simp only [Int.toNat_natCast];rw [h3];exact k4) hby (by omega)
  show (do pure (.value (←Instr.makeSlice t (ρ x) (ρ y))):Sem Next).run P w=_
  rw [hx,hy,Sem.run_bind]
  have e1:(Value.int kx (Int.ofNat n))= .int kx (n:Int):=rfl
  have e2:(Value.int ky (Int.ofNat c))= .int ky (c:Int):=rfl
  rw [e1,e2,this]
  simp only [Int.toNat_natCast,h3]
  rfl
 | _=> cases h
end
end Go.Proofs.YtiklglcjecopcaaGreatDoor.Ci

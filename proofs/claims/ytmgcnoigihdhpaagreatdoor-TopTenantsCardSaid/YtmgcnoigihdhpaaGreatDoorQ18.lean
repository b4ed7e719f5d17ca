/-
Running code on constants: what is asked of the world; the head of the laws about erased messages: a function without arguments that answers true.
-/
import Derived.Test.YtmgcnoigihdhpaaGreatDoorQ07
import Derived.KernelRfl
import Derived.Test.YtmgcnoigihdhpaaGreatDoorQ05
import Derived.Test.YtmgcnoigihdhpaaGreatDoorQ06
namespace Go.Proofs.YtmgcnoigihdhpaaGreatDoor.Ci
open Go.RowKit Go.Shelf
def GW (w:World):Prop:=Lib.TabIs Tryz.prog w "internal/strconv.uint64pow10" .u64 Lib.pow10Tab∧∃m,w.cell? ⟨0,0,none⟩=some (.int .i64 m)
theorem powG:Tryz.prog.globalNamed "internal/strconv.uint64pow10" =some 1:=by kernel_rfl
theorem GW.lt {w:World} (h:GW w):1 < w.heap.size∧0 < w.heap.size:=by
 obtain ⟨h1,m,h2⟩:=h
 have old:∀b,w.heap[b]? ≠none→b < w.heap.size:=fun b hn=> by
  rcases Nat.lt_or_ge b w.heap.size with h | h
  ·exact h
  ·exact absurd (Array.getElem?_eq_none h) hn
 refine ⟨old _ fun e=> ?_,old _ fun e=> ?_⟩
 ·unfold Lib.TabIs World.var? at h1
  rw [powG,Option.bind_some,e] at h1
  cases h1
 ·unfold World.cell? at h2
  rw [show (⟨0,0,none⟩:Addr).block=0 from rfl,e] at h2
  cases h2
def GB (b:Base):Prop:=GW b.w∧b.F 0∧b.F 1
theorem GB.of {w:World} (h:GW w):GB (Base.of w):=⟨h,h.lt.2,h.lt.1⟩
theorem GB.keep {w0:Base} {w:World} (h:GB w0) (hb:BelowF w0 w):GW w:=by
 obtain ⟨⟨h1,m,h2⟩,f1,f2⟩:=h
 refine ⟨?_,m,?_⟩
 ·unfold Lib.TabIs World.var? at h1 ⊢
  rw [powG,Option.bind_some] at h1 ⊢
  rw [hb.block 1 f2]
  exact h1
 ·unfold World.cell? at h2 ⊢
  have h2:=h2
  rw [show (⟨0,0,none⟩:Addr).block=0 from rfl] at h2 ⊢
  rw [hb.block 0 f1]
  exact h2
theorem extG {more:Ext} (hm:ExtOk Tryz.prog GB more):ExtOk Tryz.prog GB (extL more):=
 extL_ok (fun _ _ h hb=> (h.keep hb).1) (fun _ _ h hb=> (h.keep hb).2) hm
theorem noneExt:ExtOk Tryz.prog GB (fun _ _ _ _=> none):=fun _ _ _ _ _ _ _ h=> by cases h
def saysTrue:Res→Bool
 | .ok (.v (.bool b)) _ _=> b
 | _=> false
def Says (f:FuncId):Prop:=∀w,GW w→Calls Tryz.prog f #[] w fun e w'=> e= .returned (.bool true)∧Below w.heap.size w w'
theorem says_of {f:FuncId} {ext:Ext} (hE:ExtOk Tryz.prog GB ext) {k n:Nat} (h:saysTrue (rc Tryz.prog ext k n f [] .e 0)=true):Says f:=by
 intro w hw
 unfold saysTrue at h
 split at h
 ·rename_i b H' nx' hrc
  subst h
  refine (rc_ok mixed hE k n f [] .e 0 _ H' nx' hrc (Base.of w) (fun _=> none) w #[] (GB.of hw) (R.start w) (VRL.nil _)).2.mono ?_
  rintro e w' ⟨x,rfl,σ',_,_,hR,_,hx⟩
  rw [hx.val]
  exact ⟨rfl,hR.below.to⟩
 ·cases h
end Go.Proofs.YtmgcnoigihdhpaaGreatDoor.Ci
namespace Go.Proofs.YtmgcnoigihdhpaaGreatDoor.Ci
open Go.RowKit
mutual
theorem sh_zero:∀c:CV,sh 0 c=c
 | .v x=> rfl
 | .t bs=> rfl
 | .p l o=> rfl
 | .s l o n c=> rfl
 | .m l=> rfl
 | .fn f fs cs=> by rw [sh,shL_zero fs,shL_zero cs]
 | .agg cs=> by rw [sh,shL_zero cs]
 | .tup cs=> by rw [sh,shL_zero cs]
theorem shL_zero:∀cs:List CV,shL 0 cs=cs
 | []=> rfl
 | c::cs=> by rw [shL,sh_zero c,shL_zero cs]
end
theorem shB_zero (b:Blk):shB 0 b=b:=by
 cases b with
 | cl k cs=> rw [shB,shL_zero]
 | mp es bs ck=>
  rw [shB]
  congr 1
  conv=> rhs;rw [←List.map_id es]
  apply List.map_congr_left
  intro p _
  rw [sh_zero,sh_zero]
  rfl
 | it m s n l=> cases m <;> rfl
 | mu es=>
  rw [shB]
  congr 1
  conv=> rhs;rw [←List.map_id es]
  apply List.map_congr_left
  intro p _
  rw [sh_zero]
  rfl
theorem VR.names {σ σ':Nm} {K:List Nat} (hs:∀l c,l∈K→σ l=some c→σ' l=some c) {c:CV} {v:Value} (h:VR σ c v) (hk:inK K c=true):VR σ' c v:=by
 have:=VR.shift (d:=0) hs h hk
 rw [sh_zero] at this
 exact this
theorem BlkOk.names {σ σ':Nm} {K:List Nat} (hs:∀l c,l∈K→σ l=some c→σ' l=some c) {w:World} {c:Loc} {b:Blk} (hk:inKB K b=true) (h:BlkOk σ w c b):BlkOk σ' w c b:=by
 have:=BlkOk.shift (d:=0) hs hk h
 rw [shB_zero] at this
 exact this
noncomputable def putsB (L:List (Nat×Blk)) (H:Tr Blk):Tr Blk:= @List.rec (Nat×Blk) (fun _=> Tr Blk) H (fun p _ ih=> ih.put p.1 p.2) L
noncomputable def delsB (L:List (Nat×Blk)) (H:Tr Blk):Tr Blk:= @List.rec (Nat×Blk) (fun _=> Tr Blk) H (fun p _ ih=> ih.del p.1) L
theorem putsB_get (H:Tr Blk):∀(L:List (Nat×Blk)) (l:Nat),(∃p∈L,l=p.1∧(putsB L H).get l=some p.2)∨((∀p∈L,l≠p.1)∧(putsB L H).get l=H.get l)
 | [],l=> Or.inr ⟨(fun p hp=> by cases hp),rfl⟩
 | q::L,l=> by
  show (∃p∈q::L,l=p.1∧((putsB L H).put q.1 q.2).get l=some p.2)∨((∀p∈q::L,l≠p.1)∧((putsB L H).put q.1 q.2).get l=H.get l)
  rw [get_put]
  by_cases he:l=q.1
  ·rw [if_pos he]
   exact Or.inl ⟨q,List.mem_cons_self ..,he,rfl⟩
  ·rw [if_neg he]
   rcases putsB_get H L l with ⟨p,hp,h1,h2⟩ | ⟨h1,h2⟩
   ·exact Or.inl ⟨p,List.mem_cons_of_mem _ hp,h1,h2⟩
   ·exact Or.inr ⟨fun p hp=> by
     rcases List.mem_cons.1 hp with rfl | hp
     ·exact he
     ·exact h1 p hp,h2⟩
theorem delsB_get (H:Tr Blk):∀(L:List (Nat×Blk)) (l:Nat),((∃p∈L,l=p.1)∧(delsB L H).get l=none)∨((∀p∈L,l≠p.1)∧(delsB L H).get l=H.get l)
 | [],l=> Or.inr ⟨(fun p hp=> by cases hp),rfl⟩
 | q::L,l=> by
  show ((∃p∈q::L,l=p.1)∧((delsB L H).del q.1).get l=none)∨((∀p∈q::L,l≠p.1)∧((delsB L H).del q.1).get l=H.get l)
  rw [get_del]
  by_cases he:l=q.1
  ·rw [if_pos he]
   exact Or.inl ⟨⟨q,List.mem_cons_self ..,he⟩,rfl⟩
  ·rw [if_neg he]
   rcases delsB_get H L l with ⟨⟨p,hp,h1⟩,h2⟩ | ⟨h1,h2⟩
   ·exact Or.inl ⟨⟨p,List.mem_cons_of_mem _ hp,h1⟩,h2⟩
   ·exact Or.inr ⟨fun p hp=> by
     rcases List.mem_cons.1 hp with rfl | hp
     ·exact he
     ·exact h1 p hp,h2⟩
structure MemoB where
 f:FuncId
 args:List CV
 hs:List (Nat×Blk)
 nx:Nat
 v:CV
 L:List (Nat×Blk)
 n:Nat
def MemoB.S (m:MemoB):List Nat:=m.hs.map (·.1)
def MemoB.K (m:MemoB):List Nat:=m.L.map (·.1)
def MemoB.closed (m:MemoB):Bool:=inKL m.S m.args && (m.hs.all (fun p=> inKB m.S p.2 && Nat.ble (p.1 + 1) m.nx) && (inK (m.S ++ m.K) m.v && m.L.all fun p=> inKB (m.S ++ m.K) p.2 && (Nat.ble m.nx p.1 || m.S.any (Nat.beq p.1))))
structure MemoB.Ok (P:Program) (G:Base→Prop) (m:MemoB):Prop where
 cl:m.closed=true
 ok:∀(w0:Base) (σ:Nm) (w:World) (vals:Array Value),G w0→R w0 σ (putsB m.hs .e) m.nx w→VRL σ m.args vals.toList→(callFunc m.f vals).run P w= .ok (.enter m.f vals) w∧
  Calls P m.f vals w fun e w'=> ∃x,e= .returned x∧∃σ1 H1,Le σ σ1∧(∀l,l < m.nx→σ1 l=σ l)∧R w0 σ1 H1 m.n w'∧m.nx≤m.n∧VR σ1 m.v x∧∀p∈m.L,H1.get p.1=some p.2
def sameCL:List CV→List CV→Bool
 | [],[]=> true
 | a::l,b::r=> same a b && sameCL l r
 | _,_=> false
def sameMu:List (Int×CV)→List (Int×CV)→Bool
 | [],[]=> true
 | a::l,b::r=> ieq a.1 b.1 && (same a.2 b.2 && sameMu l r)
 | _,_=> false
def sameBk:Blk→Blk→Bool
 | .cl k a,.cl k' b=> kdSame k k' && sameL a b
 | .mp es bs ck,.mp es' bs' ck'=> sameP es es' && (sameN bs bs' && Nat.beq ck ck')
 | .it none a b c,.it none a' b' c'=> Nat.beq a a' && (sameN b b' && Nat.beq c c')
 | .it (some m) a b c,.it (some m') a' b' c'=> Nat.beq m m' && (Nat.beq a a' && (sameN b b' && Nat.beq c c'))
 | .mu es,.mu es'=> sameMu es es'
 | _,_=> false
noncomputable def hasB (H:Tr Blk) (l:List (Nat×Blk)):Bool:= @List.rec (Nat×Blk) (fun _=> Bool) true (fun p _ ih=> @Option.rec Blk (fun _=> Bool) false (fun b=> ifB (sameBk p.2 b) ih false) (H.get p.1)) l
noncomputable def xB:List MemoB→FuncId→List CV→Tr Blk→Nat→Option Res
 | [],_,_,_,_=> none
 | m::t,f,args,H,nx=> ifB (Bool.and (Nat.beq f m.f) (Bool.and (Nat.beq nx m.nx) (Bool.and (sameCL m.args args) (hasB H m.hs)))) (some (.ok m.v (putsB m.L (delsB m.hs H)) m.n)) (xB t f args H nx)
theorem sameCL_eq:∀{a b:List CV},sameCL a b=true→a=b
 | [],[],_=> rfl
 | x::l,y::r,h=> by
  obtain ⟨h1,h2⟩:=and_true (show (same x y && sameCL l r)=true from h)
  rw [same_eq h1,sameCL_eq h2]
 | [],_::_,h=> by cases h
 | _::_,[],h=> by cases h
theorem sameMu_eq:∀{a b:List (Int×CV)},sameMu a b=true→a=b
 | [],[],_=> rfl
 | x::l,y::r,h=> by
  obtain ⟨h1,h2⟩:=and_true (show (ieq x.1 y.1 && (same x.2 y.2 && sameMu l r))=true from h)
  obtain ⟨h2,h3⟩:=and_true h2
  rw [ieq_eq] at h1
  rw [sameMu_eq h3,Prod.ext (of_decide_eq_true h1) (same_eq h2)]
 | [],_::_,h=> by cases h
 | _::_,[],h=> by cases h
theorem sameBk_eq {a b:Blk} (h:sameBk a b=true):a=b:=by
 unfold sameBk at h
 split at h
 ·obtain ⟨h1,h2⟩:=and_true h
  rw [kdSame_eq h1,sameL_eq h2]
 ·obtain ⟨h1,h2⟩:=and_true h
  obtain ⟨h2,h3⟩:=and_true h2
  rw [sameP_eq h1,sameN_eq h2,beq_eq' h3]
 ·obtain ⟨h1,h2⟩:=and_true h
  obtain ⟨h2,h3⟩:=and_true h2
  rw [beq_eq' h1,sameN_eq h2,beq_eq' h3]
 ·obtain ⟨h0,h1⟩:=and_true h
  obtain ⟨h1,h2⟩:=and_true h1
  obtain ⟨h2,h3⟩:=and_true h2
  rw [beq_eq' h0,beq_eq' h1,sameN_eq h2,beq_eq' h3]
 ·rw [sameMu_eq h]
 ·cases h
theorem hasB_ok {H:Tr Blk}:∀{l:List (Nat×Blk)},hasB H l=true→∀p∈l,H.get p.1=some p.2
 | [],_,p,hp=> by cases hp
 | q::l,h,p,hp=> by
  have h: @Option.rec Blk (fun _=> Bool) false (fun b=> ifB (sameBk q.2 b) (hasB H l) false) (H.get q.1)=true:=h
  cases hg:H.get q.1 with
  | none=> rw [hg] at h;cases h
  | some b=>
   rw [hg] at h
   have h:ifB (sameBk q.2 b) (hasB H l) false=true:=h
   cases hb:sameBk q.2 b
   ·rw [hb] at h;cases h
   ·rw [hb] at h
    rcases List.mem_cons.1 hp with rfl | hp
    ·rw [hg,sameBk_eq hb]
    ·exact hasB_ok h p hp
theorem xB_one {P:Program} {G:Base→Prop} (hG:∀(w0 b1:Base) (w:World),G w0→BelowF w0 w→b1.w=w→(∀b,w0.F b→b1.F b)→G b1) {m:MemoB} (hm:m.Ok P G) {H:Tr Blk} (hH:∀p∈m.hs,H.get p.1=some p.2) {w0:Base} {σ:Nm} {w:World} {vals:Array Value} (hg:G w0) (hr:R w0 σ H m.nx w) (hL:VRL σ m.args vals.toList):
  (callFunc m.f vals).run P w= .ok (.enter m.f vals) w∧Calls P m.f vals w fun e w'=> ∃x,e= .returned x∧After w0 σ m.nx m.v (putsB m.L (delsB m.hs H)) m.n x w':=by
 obtain ⟨c1,c2⟩:=and_true hm.cl
 obtain ⟨c2,c3⟩:=and_true c2
 obtain ⟨c3,c4⟩:=and_true c3
 have cs:∀p∈m.hs,inKB m.S p.2=true∧p.1 < m.nx:=fun p hp=> by
  obtain ⟨a,b⟩:=and_true (List.all_eq_true.1 c2 p hp)
  exact ⟨a,ble_le b⟩
 have cl:∀p∈m.L,inKB (m.S ++ m.K) p.2=true∧(m.nx≤p.1∨p.1∈m.S):=fun p hp=> by
  obtain ⟨a,b⟩:=and_true (List.all_eq_true.1 c4 p hp)
  have b:(Nat.ble m.nx p.1 || m.S.any (Nat.beq p.1))=true:=b
  rw [Bool.or_eq_true] at b
  exact ⟨a,b.imp ble_le any_mem⟩
 have sS:∀l,l∈m.S→l < m.nx∧∃b,H.get l=some b∧(l,b)∈m.hs:=fun l hl=> by
  obtain ⟨p,hp,rfl⟩:=List.mem_map.1 hl
  exact ⟨(cs p hp).2,p.2,hH p hp,hp⟩
 let σr:Nm:=fun l=> if l∈m.S then σ l else none
 have σr_in:∀l,l∈m.S→σr l=σ l:=fun l hl=> if_pos hl
 have σr_some:∀l c,σr l=some c→l∈m.S∧σ l=some c:=fun l c h=> by
  by_cases hl:l∈m.S
  ·exact ⟨hl,by rw [←σr_in l hl];exact h⟩
  ·have:σr l=none:=if_neg hl
   rw [this] at h
   cases h
 let b1:Base:=⟨w,fun b=> b < w.heap.size∧∀l c,l∈m.S→σ l=some c→b≠c.blk,fun _ h=> h.1⟩
 have hF:∀b,w0.F b→b1.F b:=fun b hb=> ⟨Nat.lt_of_lt_of_le (w0.lt b hb) hr.below.size,fun l c _ hc e=> (hr.lo l c hc).1 (e ▸ hb)⟩
 have hnm:∀l c,l∈m.S→σ l=some c→σr l=some c:=fun l c hl hc=> by rw [σr_in l hl];exact hc
 have hr1:R b1 σr (putsB m.hs .e) m.nx w:=by
  refine ⟨⟨rfl,rfl,rfl,Nat.le_refl _,fun _ _=> rfl⟩,fun l c b hl hb=> ?_,fun l c hl=> ?_,fun l l' c c' b b' hl hl' hb hb' e=> ?_,fun l c hl=> hr.fresh l c (σr_some l c hl).2⟩
  ·obtain ⟨h1,h2⟩:=σr_some l c hl
   rcases putsB_get .e m.hs l with ⟨p,hp,rfl,h4⟩ | ⟨h3,h4⟩
   ·rw [h4] at hb
    injection hb with hb
    subst hb
    exact (hr.blk p.1 c p.2 h2 (hH p hp)).names hnm (cs p hp).1
   ·rw [h4] at hb
    cases hb
  ·obtain ⟨h1,h2⟩:=σr_some l c hl
   exact ⟨fun h=> h.2 l c h1 h2 rfl,(hr.lo l c h2).2⟩
  ·obtain ⟨h1,h2⟩:=σr_some l c hl
   obtain ⟨h1',h2'⟩:=σr_some l' c' hl'
   obtain ⟨_,d,h3,_⟩:=sS l h1
   obtain ⟨_,d',h3',_⟩:=sS l' h1'
   exact hr.sep l l' c c' d d' h2 h2' h3 h3' e
 have hL1:VRL σr m.args vals.toList:=⟨hL.1,fun j c v hc hv=> (hL.2 j c v hc hv).names hnm (inKL_get c1 j c hc)⟩
 obtain ⟨k1,k2⟩:=hm.ok b1 σr w vals (hG w0 b1 w hg hr.below rfl hF) hr1 hL1
 refine ⟨k1,k2.mono ?_⟩
 rintro e w' ⟨x,rfl,σ1,H1,e1,e2,e3,e4,e5,e6⟩
 let σ':Nm:=fun l=> if l < m.nx then σ l else if l∈m.K then σ1 l else none
 have lowN:∀l,l < m.nx→σ' l=σ l:=fun l hl=> if_pos hl
 have hiN:∀l,¬l < m.nx→l∈m.K→σ' l=σ1 l:=fun l hl hk=> by
  show (if l < m.nx then σ l else if l∈m.K then σ1 l else none)=_
  rw [if_neg hl,if_pos hk]
 have hiN0:∀l,¬l < m.nx→l∉m.K→σ' l=none:=fun l hl hk=> by
  show (if l < m.nx then σ l else if l∈m.K then σ1 l else none)=_
  rw [if_neg hl,if_neg hk]
 have inS:∀l,l∈m.S→σ1 l=σ l:=fun l hl=> by rw [e2 l (sS l hl).1,σr_in l hl]
 have hle:Le σ σ':=fun l c hc=> by rw [lowN l (hr.fresh l c hc)];exact hc
 have agree:∀l c,l∈m.S ++ m.K→σ1 l=some c→σ' l=some c:=fun l c hl hc=> by
  by_cases hlt:l < m.nx
  ·rw [lowN l hlt]
   rw [e2 l hlt] at hc
   exact (σr_some l c hc).2
  ·rcases List.mem_append.1 hl with hl | hl
   ·exact absurd (sS l hl).1 hlt
   ·rw [hiN l hlt hl];exact hc
 have kind:∀l c b,σ' l=some c→(putsB m.L (delsB m.hs H)).get l=some b→(∃p∈m.L,l=p.1∧b=p.2∧σ1 l=some c)∨(l < m.nx∧l∉m.S∧H.get l=some b∧σ l=some c):=fun l c b hl hb=> by
  rcases putsB_get (delsB m.hs H) m.L l with ⟨p,hp,rfl,h4⟩ | ⟨h3,h4⟩
  ·left
   rw [h4] at hb
   injection hb with hb
   refine ⟨p,hp,rfl,hb.symm,?_⟩
   have hk:p.1∈m.K:=List.mem_map.2 ⟨p,hp,rfl⟩
   by_cases hlt:p.1 < m.nx
   ·rcases (cl p hp).2 with h5 | h5
    ·omega
    ·rw [inS _ h5,←lowN _ hlt];exact hl
   ·rw [←hiN _ hlt hk];exact hl
  ·right
   rw [h4] at hb
   have hlt:l < m.nx:=by
    rcases Nat.lt_or_ge l m.nx with h | h
    ·exact h
    ·rw [hiN0 l (by omega) (fun hk=> by
      obtain ⟨p,hp,e⟩:=List.mem_map.1 hk
      exact h3 p hp e.symm)] at hl
     cases hl
   rcases delsB_get H m.hs l with ⟨_,h6⟩ | ⟨h5,h6⟩
   ·rw [h6] at hb;cases hb
   ·rw [h6] at hb
    exact ⟨hlt,fun hs=> by
     obtain ⟨p,hp,e⟩:=List.mem_map.1 hs
     exact h5 p hp e.symm,hb,by rw [←lowN l hlt];exact hl⟩
 have keep:∀l c b,l∉m.S→H.get l=some b→σ l=some c→b1.F c.blk:=fun l c b hl hb hc=> ⟨(hr.lo l c hc).2,fun l2 c2 h2 hc2 e=> by
  obtain ⟨_,d,h3,_⟩:=sS l2 h2
  have:=hr.sep l l2 c c2 b d hc hc2 hb h3 e
  exact hl (this ▸ h2)⟩
 refine ⟨x,rfl,σ',hle,lowN,⟨?_,fun l c b hl hb=> ?_,fun l c hl=> ?_,fun l l' c c' b b' hl hl' hb hb' e=> ?_,fun l c hl=> ?_⟩,e4,e5.names agree c3⟩
 ·exact ⟨e3.below.os.trans hr.below.os,e3.below.tape.trans hr.below.tape,e3.below.output.trans hr.below.output,Nat.le_trans hr.below.size e3.below.size,fun b hb=> (e3.below.block b (hF b hb)).trans (hr.below.block b hb)⟩
 ·rcases kind l c b hl hb with ⟨p,hp,rfl,rfl,h1⟩ | ⟨_,h2,h3,h4⟩
  ·exact (e3.blk p.1 c p.2 h1 (e6 p hp)).names agree (cl p hp).1
  ·exact (hr.blk l c b h4 h3).mono hle (e3.below.block _ (keep l c b h2 h3 h4))
 ·by_cases hlt:l < m.nx
  ·rw [lowN l hlt] at hl
   exact ⟨(hr.lo l c hl).1,Nat.lt_of_lt_of_le (hr.lo l c hl).2 e3.below.size⟩
  ·by_cases hk:l∈m.K
   ·rw [hiN l hlt hk] at hl
    exact ⟨fun h=> (e3.lo l c hl).1 (hF _ h),(e3.lo l c hl).2⟩
   ·rw [hiN0 l hlt hk] at hl
    cases hl
 ·rcases kind l c b hl hb with ⟨p,hp,rfl,rfl,h1⟩ | ⟨_,h2,h3,h4⟩ <;> rcases kind l' c' b' hl' hb' with ⟨p',hp',rfl,rfl,h1'⟩ | ⟨_,h2',h3',h4'⟩
  ·exact e3.sep p.1 p'.1 c c' p.2 p'.2 h1 h1' (e6 p hp) (e6 p' hp') e
  ·exact absurd (by rw [e];exact keep l' c' b' h2' h3' h4') (e3.lo p.1 c h1).1
  ·exact absurd (by rw [←e];exact keep l c b h2 h3 h4) (e3.lo p'.1 c' h1').1
  ·exact hr.sep l l' c c' b b' h4 h4' h3 h3' e
 ·by_cases hlt:l < m.nx
  ·exact Nat.lt_of_lt_of_le hlt e4
  ·by_cases hk:l∈m.K
   ·rw [hiN l hlt hk] at hl
    exact e3.fresh l c hl
   ·rw [hiN0 l hlt hk] at hl
    cases hl
theorem xB_ok {P:Program} {G:Base→Prop} (hG:∀(w0 b1:Base) (w:World),G w0→BelowF w0 w→b1.w=w→(∀b,w0.F b→b1.F b)→G b1):∀{T:List MemoB},(∀m∈T,m.Ok P G)→ExtOk P G (xB T)
 | [],_=> fun f args H nx v H' nx' h=> by cases h
 | m::T,hT=> fun f args H nx v H' nx' h w0 σ w vals hg hr hL=> by
  rcases ifB_cases (show ifB _ _ _=_ from h) with ⟨e,h1⟩ | ⟨_,h1⟩
  ·obtain ⟨q1,e⟩:=and_true e
   obtain ⟨q2,e⟩:=and_true e
   obtain ⟨q3,q4⟩:=and_true e
   have q1:=beq_eq' q1
   have q2:=beq_eq' q2
   have q3:=sameCL_eq q3
   subst q1 q2 q3
   injection h1 with h1
   injection h1 with h1 h2 h3
   subst h1 h2 h3
   exact xB_one hG (hT m (List.mem_cons_self ..)) (hasB_ok q4) hg hr hL
  ·exact xB_ok hG (fun p hp=> hT p (List.mem_cons_of_mem _ hp)) f args H nx v H' nx' h1 w0 σ w vals hg hr hL
noncomputable def outcomeB (keep:List Nat) (r:Res):Option (CV×List (Nat×Blk)×Nat):= @Res.rec (fun _=> Option (CV×List (Nat×Blk)×Nat)) none (fun v H n=> some (v,collect H 6000 (labs v ++ keep) [],n)) r
theorem MemoB.of_run {P:Program} {G:Base→Prop} (hm:P.follows .mixedOrders=true) {ext:FuncId→List CV→Tr Blk→Nat→Option Res} (hE:ExtOk P G ext) {k n:Nat} (m:MemoB) (hc:m.closed=true) (h:outcomeB m.S (rc P ext k n m.f m.args (putsB m.hs .e) m.nx)=some (m.v,m.L,m.n)):m.Ok P G:=by
 refine ⟨hc,fun w0 σ w vals hg hR hL=> ?_⟩
 cases hr:rc P ext k n m.f m.args (putsB m.hs .e) m.nx with
 | no=> rw [hr] at h;cases h
 | ok v H n'=>
  rw [hr] at h
  have h:some (v,collect H 6000 (labs v ++ m.S) [],n')=some (m.v,m.L,m.n):=h
  injection h with h
  injection h with h1 h
  injection h with h2 h3
  obtain ⟨a,b⟩:=rc_ok hm hE k n m.f m.args (putsB m.hs .e) m.nx v H n' hr w0 σ w vals hg hR hL
  refine ⟨a,b.mono ?_⟩
  rintro e w' ⟨x,rfl,σ1,g1,g2,g3,g4,g5⟩
  rw [h1] at g5
  rw [h3] at g3 g4
  refine ⟨x,rfl,σ1,H,g1,g2,g3,g4,g5,fun p hp=> ?_⟩
  rw [←h2] at hp
  exact collect_get 6000 (labs v ++ m.S) [] (fun p hp=> by cases hp) p hp
end Go.Proofs.YtmgcnoigihdhpaaGreatDoor.Ci

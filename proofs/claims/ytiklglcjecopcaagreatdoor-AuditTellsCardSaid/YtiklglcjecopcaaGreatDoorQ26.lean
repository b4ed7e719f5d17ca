/-
  Plain programs of functions, and that the functions do what they say. Printed by wip/tools/gen.py.
  Layer 49, plain law: AuditTells answers true.
-/
import Derived.Test.YtiklglcjecopcaaGreatDoorHE
namespace Go.Proofs.YtiklglcjecopcaaGreatDoor
open Go.RowKit
attribute [local irreducible] IntKind.wrap AW runL Step.wp
set_option linter.unusedVariables false
set_option maxHeartbeats 4000000
set_option maxRecDepth 100000
noncomputable def law49_AuditTells (inputs_:(List api_Input)) (outs_:(List (List api_Out))) (events_:(List api_Event)) (debts_:(List api_Debt)):Option (Bool):=
 (law49_small).bind fun y1=>
 (bif (decide ((20:Int) < (inputs_.length:Int))) then
  some y1
 else
  (ref49_FewOuts outs_).bind fun y11=>
  (bif (!y11) then
   some y1
  else
   (ref46_Few (api_State.mk (0:Int) events_ ([]:List api_Waiting) ([]:List api_Sent) ([]:List api_Debt) ([]:List api_Pair) ([]:List api_Proof) ([]:List (List api_Note)) ([]:List api_Verdict) ([]:List api_Hold) ([]:List api_Order) ([]:List api_Sealed) ([]:List api_Debt)) (12:Int)).bind fun y12=>
   (bif (!y12) then
    some y1
   else
    (law49_fewDebts debts_).bind fun y13=>
    (bif (!y13) then
     some y1
    else
     (bif y1 then
      (audit_Once outs_).bind fun y14=>
      (ref49_Once outs_).bind fun y15=>
      (bif (y14==y15) then
       (audit_Causal events_ outs_).bind fun y16=>
       (ref49_Causal events_ outs_).bind fun y17=>
       (bif (y16==y17) then
        (audit_Debts inputs_ outs_ debts_).bind fun y18=>
        (ref49_Debts inputs_ outs_ debts_).bind fun y19=>
        some (y18==y19)
       else
        some false)
      else
       some false)
     else
      some false)))))
theorem law49_AuditTells_fn {inputs_:(List api_Input)} {outs_:(List (List api_Out))} {events_:(List api_Event)} {debts_:(List api_Debt)} {r:Bool} (h:law49_AuditTells inputs_ outs_ events_ debts_=some r):Fn False Tryz.prog 3 [VF (List.map api_Input.enc inputs_),VF (List.map (encL api_Out.enc) outs_),VF (List.map api_Event.enc events_),VF (List.map api_Debt.enc debts_)] (VB r):=by
 refine Fn.of_AW (dr:=False) (F:=FnX False Tryz.prog) (base:=0) (js:= []) mixed tok noeqs (fun _ _ _ h=> h) Tryz.call3 Tryz.func3 rfl Tryz.ntmps3 (by rw [Tryz.results3]) (by simp) ?_;have hG:(fun x=> x=r) r:=rfl;unfold law49_AuditTells at h;refine Zap 7 rfl ?_;refine Y1 rfl ?_;refine bindK h fun y1 hy1 h=> ?_;refine W.call rfl (law49_small_fn hy1) ?_;refine Zwp 8 rfl ?_;refine Y1 rfl ?_;refine W.len rfl ?_;refine Zpp 2 rfl ?_;refine YF rfl rfl rfl h (fun _ h=> ?_) (fun _ h=> ?_)
 ·refine Zpb 25 rfl ?_;cases h;cases hG;exact ⟨rfl,trivial⟩
 ·refine Zwp 1 rfl ?_;refine Y2 rfl rfl rfl ?_;refine bindK h fun y11 hy11 h=> ?_;refine W.call rfl (ref49_FewOuts_fn hy11) ?_;refine Zwp 4 rfl ?_;refine YF rfl rfl rfl h (fun _ h=> ?_) (fun _ h=> ?_)
  ·refine Zpb 20 rfl ?_;cases h;cases hG;exact ⟨rfl,trivial⟩
  ·refine Zwp 1 rfl ?_;refine Zu (.agg [VI 0,VF (List.map api_Event.enc events_),.nl,.nl,.nl,.nl,.nl,.nl,.nl,.nl,.nl,.nl,.nl]) rfl rfl rfl rfl ?_;refine Y2 rfl rfl rfl ?_;refine bindK h fun y12 hy12 h=> ?_;refine W.call rfl (ref46_Few_fn hy12) ?_;refine Zwp 4 rfl ?_;refine YF rfl rfl rfl h (fun _ h=> ?_) (fun _ h=> ?_)
   ·refine Zpb 14 rfl ?_;cases h;cases hG;exact ⟨rfl,trivial⟩
   ·refine Zwp 1 rfl ?_;refine Y2 rfl rfl rfl ?_;refine bindK h fun y13 hy13 h=> ?_;refine W.call rfl (law49_fewDebts_fn hy13) ?_;refine Zwc 5 rfl ?_;refine A.condB rfl h (fun _ h=> ?_) (fun _ h=> ?_)
    ·refine Zcb 8 rfl ?_;cases h;cases hG;exact ⟨rfl,trivial⟩
    ·refine Zcp 6 rfl ?_;refine YT rfl rfl rfl h (fun _ h=> ?_) (fun _ h=> ?_)
     ·refine Zwp 1 rfl ?_;refine Y2 rfl rfl rfl ?_;refine bindK h fun y14 hy14 h=> ?_;refine W.call rfl (audit_Once_fn hy14) ?_;refine Zwp 2 rfl ?_;refine Y2 rfl rfl rfl ?_;refine bindK h fun y15 hy15 h=> ?_;refine W.call rfl (ref49_Once_fn hy15) ?_;refine Zwp 4 rfl ?_;refine YT rfl rfl rfl h (fun _ h=> ?_) (fun _ h=> ?_)
      ·refine Zwp 2 rfl ?_;refine Y2 rfl rfl rfl ?_;refine bindK h fun y16 hy16 h=> ?_;refine W.call rfl (audit_Causal_fn hy16) ?_;refine Zwp 3 rfl ?_;refine Y2 rfl rfl rfl ?_;refine bindK h fun y17 hy17 h=> ?_;refine W.call rfl (ref49_Causal_fn hy17) ?_;refine Zwp 4 rfl ?_;refine YT rfl rfl rfl h (fun _ h=> ?_) (fun _ h=> ?_)
       ·refine Zwp 3 rfl ?_;refine Y2 rfl rfl rfl ?_;refine bindK h fun y18 hy18 h=> ?_;refine W.call rfl (audit_Debts_fn hy18) ?_;refine Zwp 4 rfl ?_;refine Y2 rfl rfl rfl ?_;refine bindK h fun y19 hy19 h=> ?_;refine W.call rfl (ref49_Debts_fn hy19) ?_;refine Zwb 7 rfl ?_;cases h;cases hG;exact ⟨rfl,trivial⟩
       ·refine Zpb 13 rfl ?_;cases h;cases hG;exact ⟨rfl,trivial⟩
      ·refine Zpb 22 rfl ?_;cases h;cases hG;exact ⟨rfl,trivial⟩
     ·refine Zpb 29 rfl ?_;cases h;cases hG;exact ⟨rfl,trivial⟩
end Go.Proofs.YtiklglcjecopcaaGreatDoor
namespace Go.Proofs.YtiklglcjecopcaaGreatDoor
open Go.RowKit
def api_Raw.Q (x:api_Raw):Prop:=(IntKind.i64.min≤x.Account∧x.Account≤IntKind.i64.max)∧(IntKind.i64.min≤x.Seq∧x.Seq≤IntKind.i64.max)∧(IntKind.i64.min≤x.Kind∧x.Kind≤IntKind.i64.max)∧(IntKind.i64.min≤x.Group∧x.Group≤IntKind.i64.max)∧(IntKind.i64.min≤x.On∧x.On≤IntKind.i64.max)∧(IntKind.i64.min≤x.Quote∧x.Quote≤IntKind.i64.max)∧(IntKind.i64.min≤x.Who∧x.Who≤IntKind.i64.max)∧(IntKind.i64.min≤x.N∧x.N≤IntKind.i64.max)∧(x.Text.size≤maxLen)∧(x.Files.length≤maxLen∧∀u1∈x.Files,(IntKind.i64.min≤u1∧u1≤IntKind.i64.max))
def api_Note.Q (x:api_Note):Prop:=(IntKind.i64.min≤x.Message∧x.Message≤IntKind.i64.max)∧(IntKind.i64.min≤x.Who∧x.Who≤IntKind.i64.max)∧(IntKind.i64.min≤x.Level∧x.Level≤IntKind.i64.max)∧(IntKind.i64.min≤x.Step∧x.Step≤IntKind.i64.max)∧True
def api_Proof.Q (x:api_Proof):Prop:=(IntKind.i64.min≤x.Kind∧x.Kind≤IntKind.i64.max)∧(IntKind.i64.min≤x.A∧x.A≤IntKind.i64.max)∧(IntKind.i64.min≤x.B∧x.B≤IntKind.i64.max)
def api_Verdict.Q (x:api_Verdict):Prop:=(IntKind.i64.min≤x.Name∧x.Name≤IntKind.i64.max)∧(IntKind.i64.min≤x.Step∧x.Step≤IntKind.i64.max)∧True
def api_Hold.Q (x:api_Hold):Prop:=(IntKind.i64.min≤x.Id∧x.Id≤IntKind.i64.max)∧(IntKind.i64.min≤x.Event∧x.Event≤IntKind.i64.max)∧(IntKind.i64.min≤x.From∧x.From≤IntKind.i64.max)∧(IntKind.i64.min≤x.To∧x.To≤IntKind.i64.max)
def api_Order.Q (x:api_Order):Prop:=(IntKind.i64.min≤x.Kind∧x.Kind≤IntKind.i64.max)∧(IntKind.i64.min≤x.Event∧x.Event≤IntKind.i64.max)∧(IntKind.i64.min≤x.By∧x.By≤IntKind.i64.max)∧(IntKind.i64.min≤x.Step∧x.Step≤IntKind.i64.max)
def api_Input.Q (x:api_Input):Prop:=(IntKind.i64.min≤x.Kind∧x.Kind≤IntKind.i64.max)∧(IntKind.i64.min≤x.Net∧x.Net≤IntKind.i64.max)∧(IntKind.i64.min≤x.Event∧x.Event≤IntKind.i64.max)∧(IntKind.i64.min≤x.Local∧x.Local≤IntKind.i64.max)∧(IntKind.i64.min≤x.N∧x.N≤IntKind.i64.max)∧(api_Raw.Q x.Raw)∧(api_Note.Q x.Note)∧(api_Proof.Q x.Proof)∧(api_Verdict.Q x.Verdict)∧(api_Hold.Q x.Hold)∧(api_Order.Q x.Order)∧(x.Up.length≤maxLen∧∀u2∈x.Up,True)
def api_Item.Q (x:api_Item):Prop:=(IntKind.i64.min≤x.Event∧x.Event≤IntKind.i64.max)∧(IntKind.i64.min≤x.Part∧x.Part≤IntKind.i64.max)∧(IntKind.i64.min≤x.Of∧x.Of≤IntKind.i64.max)∧(IntKind.i64.min≤x.Kind∧x.Kind≤IntKind.i64.max)∧(IntKind.i64.min≤x.On∧x.On≤IntKind.i64.max)∧(IntKind.i64.min≤x.OnPart∧x.OnPart≤IntKind.i64.max)∧(IntKind.i64.min≤x.Quote∧x.Quote≤IntKind.i64.max)∧(IntKind.i64.min≤x.Who∧x.Who≤IntKind.i64.max)∧(IntKind.i64.min≤x.N∧x.N≤IntKind.i64.max)∧(x.Text.size≤maxLen)∧(x.Files.length≤maxLen∧∀u3∈x.Files,(IntKind.i64.min≤u3∧u3≤IntKind.i64.max))
def api_Out.Q (x:api_Out):Prop:=(IntKind.i64.min≤x.Kind∧x.Kind≤IntKind.i64.max)∧(IntKind.i64.min≤x.Net∧x.Net≤IntKind.i64.max)∧(IntKind.i64.min≤x.Event∧x.Event≤IntKind.i64.max)∧(api_Item.Q x.Item)
def api_Event.Q (x:api_Event):Prop:=(IntKind.i64.min≤x.Author∧x.Author≤IntKind.i64.max)∧(IntKind.i64.min≤x.Seq∧x.Seq≤IntKind.i64.max)∧(x.Causes.length≤maxLen∧∀u4∈x.Causes,(IntKind.i64.min≤u4∧u4≤IntKind.i64.max))∧(IntKind.i64.min≤x.Kind∧x.Kind≤IntKind.i64.max)∧(IntKind.i64.min≤x.Group∧x.Group≤IntKind.i64.max)∧(IntKind.i64.min≤x.Target∧x.Target≤IntKind.i64.max)∧(IntKind.i64.min≤x.Quote∧x.Quote≤IntKind.i64.max)∧(IntKind.i64.min≤x.Who∧x.Who≤IntKind.i64.max)∧(IntKind.i64.min≤x.N∧x.N≤IntKind.i64.max)∧(x.Text.size≤maxLen)∧(x.Files.length≤maxLen∧∀u5∈x.Files,(IntKind.i64.min≤u5∧u5≤IntKind.i64.max))∧(IntKind.i64.min≤x.Step∧x.Step≤IntKind.i64.max)
def api_Debt.Q (x:api_Debt):Prop:=(IntKind.i64.min≤x.Event∧x.Event≤IntKind.i64.max)∧(IntKind.i64.min≤x.Net∧x.Net≤IntKind.i64.max)
theorem FewOuts_any (outs:List (List api_Out)):∃b,ref49_FewOuts outs=some b∧(b=true→outs.length≤20∧∀l∈outs,l.length≤12):=by
 have key:=loopF_inv (body:=ref49_FewOuts_L1 outs) (min outs.length 21) (fun i s=> s=(i:Int)∧∀t,t < i→(outs.getD t []).length≤12) (fun r=> (r=some (.inl ())∧∀t,t < min outs.length 21→(outs.getD t []).length≤12)∨r=some (.inr false))
  (by
   rintro i s hi ⟨rfl,hs⟩
   have h1:i < outs.length:=by omega
   unfold ref49_FewOuts_L1
   rw [decide_eq_true (by omega),cond_true,decide_eq_true (by omega),cond_true,bind_some_of (getI_in [] h1)]
   by_cases h:(outs.getD i []).length≤12
   ·left
    refine ⟨_,by rw [decide_eq_false (by omega),cond_false],by rw [wrap64 (by omega) (by omega)];rfl,fun t ht=> ?_⟩
    by_cases hti:t=i
    ·rw [hti];exact h
    ·exact hs t (by omega)
   ·right
    exact ⟨_,by rw [decide_eq_true (by omega),cond_true],Or.inr rfl⟩)
  (by
   rintro s ⟨rfl,hs⟩
   refine ⟨.inl (),?_,Or.inl ⟨rfl,hs⟩⟩
   unfold ref49_FewOuts_L1
   by_cases h:outs.length≤21
   ·rw [decide_eq_false (by omega),cond_false]
   ·rw [decide_eq_true (by omega),cond_true,decide_eq_false (by omega),cond_false])
  (s0:=(0:Int)) ⟨rfl,fun t ht=> by omega⟩
 unfold ref49_FewOuts
 rcases key with ⟨h,hall⟩ | h
 ·rw [h]
  refine ⟨_,rfl,fun hb=> ?_⟩
  have hb:=of_decide_eq_true hb
  refine ⟨by omega,fun l hl=> ?_⟩
  obtain ⟨i,hi⟩:=List.getElem?_of_mem hl
  have hlt:=(List.getElem?_eq_some_iff.1 hi).1
  have:=hall i (by omega)
  rw [List.getD_eq_getElem?_getD,hi] at this
  exact this
 ·rw [h]
  exact ⟨false,rfl,fun hb=> by cases hb⟩
theorem Few14_any (e:api_Event):∃b,ref14_Few e=some b∧(b=true→e.Causes.length≤10):=by
 unfold ref14_Few
 by_cases h:(e.Causes.length:Int)≤10
 ·rw [decide_eq_true h,cond_true]
  by_cases h2:(e.Files.length:Int)≤10
  ·rw [decide_eq_true h2,cond_true]
   exact ⟨_,rfl,fun _=> by omega⟩
  ·rw [decide_eq_false h2,cond_false]
   exact ⟨_,rfl,fun hb=> by cases hb⟩
 ·rw [decide_eq_false h,cond_false]
  exact ⟨_,rfl,fun hb=> by cases hb⟩
theorem FewAll_any (l:List api_Event):∃b,ref14_FewAll l 12=some b∧(b=true→l.length≤12∧∀e∈l,e.Causes.length≤10):=by
 have key:=loopF_inv (body:=ref14_FewAll_L1 l 12) (min l.length 13) (fun i s=> s=(i:Int)∧∀t,t < i→(l.getD t default).Causes.length≤10) (fun r=> (r=some (.inl ())∧∀t,t < min l.length 13→(l.getD t default).Causes.length≤10)∨r=some (.inr false))
  (by
   rintro i s hi ⟨rfl,hs⟩
   have h1:i < l.length:=by omega
   unfold ref14_FewAll_L1
   obtain ⟨b,hb1,hb2⟩:=Few14_any (l.getD i default)
   rw [decide_eq_true (by omega),cond_true,decide_eq_true (by omega),cond_true,bind_some_of (getI_in default h1),bind_some_of hb1]
   cases b
   ·right
    exact ⟨_,rfl,Or.inr rfl⟩
   ·left
    refine ⟨_,rfl,by rw [wrap64 (by omega) (by omega)];rfl,fun t ht=> ?_⟩
    by_cases hti:t=i
    ·rw [hti];exact hb2 rfl
    ·exact hs t (by omega))
  (by
   rintro s ⟨rfl,hs⟩
   refine ⟨.inl (),?_,Or.inl ⟨rfl,hs⟩⟩
   unfold ref14_FewAll_L1
   by_cases h:l.length≤13
   ·rw [decide_eq_false (by omega),cond_false]
   ·rw [decide_eq_true (by omega),cond_true,decide_eq_false (by omega),cond_false])
  (s0:=(0:Int)) ⟨rfl,fun t ht=> by omega⟩
 unfold ref14_FewAll
 rcases key with ⟨h,hall⟩ | h
 ·rw [h]
  refine ⟨_,rfl,fun hb=> ?_⟩
  have hb:=of_decide_eq_true hb
  refine ⟨by omega,fun e he=> ?_⟩
  obtain ⟨i,hi⟩:=List.getElem?_of_mem he
  have hlt:=(List.getElem?_eq_some_iff.1 hi).1
  have:=hall i (by omega)
  rw [List.getD_eq_getElem?_getD,hi] at this
  exact this
 ·rw [h]
  exact ⟨false,rfl,fun hb=> by cases hb⟩
theorem Few46_any (l:List api_Event):∃b,ref46_Few (api_State.mk (0:Int) l ([]:List api_Waiting) ([]:List api_Sent) ([]:List api_Debt) ([]:List api_Pair) ([]:List api_Proof) ([]:List (List api_Note)) ([]:List api_Verdict) ([]:List api_Hold) ([]:List api_Order) ([]:List api_Sealed) ([]:List api_Debt)) (12:Int)=some b∧(b=true→l.length≤12∧∀e∈l,e.Causes.length≤10):=by
 obtain ⟨b,h1,h2⟩:=FewAll_any l
 refine ⟨b,?_,h2⟩
 have hL:loopF (ref46_Few_L1 (api_State.mk (0:Int) l [] [] [] [] [] [] [] [] [] [] [])) (0:Int)=some (Sum.inl ()):=loopF_stop (b:=Sum.inl ()) rfl
 unfold ref46_Few
 rw [hL]
 show (ref14_FewAll l 12).bind _=some b
 rw [h1]
 rfl
theorem fewDebts_any (l:List api_Debt):∃b,law49_fewDebts l=some b∧(b=true→l.length≤30):=⟨_,rfl,fun hb=> by have:=of_decide_eq_true hb;omega⟩
theorem wfQ {x:Int} (h:IntKind.i64.min≤x∧x≤IntKind.i64.max):(Lit.int .i64 x).wf=true:=by
 simp [Lit.wf,h.1]
 exact h.2
theorem debts_differ {inputs:List api_Input} {outs:List (List api_Out)} {debts:List api_Debt} (h:inputs.length≠outs.length):audit_Debts inputs outs debts=some false∧ref49_Debts inputs outs debts=some false:=by
 have h0:((inputs.length:Int) !=(outs.length:Int))=true:=by
  simp
  omega
 constructor
 ·unfold audit_Debts
  rw [h0]
  rfl
 ·unfold ref49_Debts
  rw [h0]
  rfl
theorem law49_AuditTells_true (a0:(List api_Input)) (_w0:(a0.length≤maxLen∧∀u6∈a0,(api_Input.Q u6))) (a1:(List (List api_Out))) (w1:(a1.length≤maxLen∧∀u7∈a1,(u7.length≤maxLen∧∀u8∈u7,(api_Out.Q u8)))) (a2:(List api_Event)) (w2:(a2.length≤maxLen∧∀u9∈a2,(api_Event.Q u9))) (a3:(List api_Debt)) (_w3:(a3.length≤maxLen∧∀u10∈a3,(api_Debt.Q u10))):law49_AuditTells a0 a1 a2 a3=some true:=by
 obtain ⟨fo,hfo1,hfo2⟩:=FewOuts_any a1
 obtain ⟨fe,hfe1,hfe2⟩:=Few46_any a2
 obtain ⟨fd,hfd1,hfd2⟩:=fewDebts_any a3
 unfold law49_AuditTells
 rw [bind_some_of (show law49_small=some true from rfl)]
 by_cases hin:(20:Int) < (a0.length:Int)
 ·rw [decide_eq_true hin,cond_true]
 rw [decide_eq_false hin,cond_false,bind_some_of hfo1]
 cases fo
 ·rfl
 rw [Bool.not_true,cond_false,bind_some_of hfe1]
 cases fe
 ·rfl
 rw [Bool.not_true,cond_false,bind_some_of hfd1]
 cases fd
 ·rfl
 obtain ⟨o1,o2⟩:=hfo2 rfl
 obtain ⟨e1,e2⟩:=hfe2 rfl
 have d1:=hfd2 rfl
 have h240:(itemsL a1).length≤240:=by
  have h1:=itemsL_le a1 a1.length
  have h2:=flat_le a1 o2 a1.length
  rw [List.take_length] at h1 h2
  omega
 rw [Bool.not_true,cond_false,cond_true,bind_some_of (aOnce_eq a1 o1 o2 h240),bind_some_of (Once_eq a1 o1 o2 h240)]
 have hbb:∀b:Bool,(b==b)=true:=fun b=> by cases b <;> rfl
 rw [hbb,cond_true]
 have hOut:∀l∈a1,∀o∈l,api_Out.Q o:=fun l hl o ho=> (w1.2 l hl).2 o ho
 have hok:okC a2 a1=true:=by
  unfold okC
  rw [decide_eq_true (by omega),decide_eq_true o1,Bool.true_and,Bool.true_and,Bool.and_eq_true,Bool.and_eq_true,List.all_eq_true,List.all_eq_true,List.all_eq_true]
  refine ⟨fun e he=> ?_,fun l hl=> decide_eq_true (o2 l hl),fun x hx=> ?_⟩
  ·unfold okE
   rw [wfQ (w2.2 e he).1,Bool.true_and]
   exact decide_eq_true (by have:=e2 e he;omega)
  ·unfold itemsL at hx
   obtain ⟨l,hl,hxl⟩:=List.mem_flatten.1 (List.mem_filter.1 hx).1
   have:=hOut l hl x hxl
   unfold okO
   rw [wfQ this.2.1,wfQ this.2.2.2.1]
   rfl
 obtain ⟨b1,c1,c2⟩:=aCausal_eq a2 a1 hok
 obtain ⟨b2,c3,c4⟩:=Causal_eq a2 (by omega) (fun e he=> by have:=e2 e he;omega) a1 o1 o2 h240
 have hb12:b1=b2:=by
  cases b1 <;> cases b2
  ·rfl
  ·have:=c4.2 (c2.1 rfl);cases this
  ·have:=c2.2 (c4.1 rfl);cases this
  ·rfl
 subst hb12
 rw [bind_some_of c1,bind_some_of c3,hbb,cond_true]
 by_cases hio:a0.length=a1.length
 ·have hokD:okD a1=true:=by
   unfold okD
   rw [List.all_eq_true]
   intro l hl
   rw [List.all_eq_true]
   intro o ho
   have:=hOut l hl o ho
   unfold debtR
   rw [wfQ this.2.2.1,wfQ this.2.1]
   rfl
  obtain ⟨x1,y1,y2⟩:=aDebts_eq a0 a1 a3 hio (by omega) (fun l hl=> by have:=o2 l hl;omega) (by omega) (hk_of hokD o1 o2)
  obtain ⟨x2,y3,y4⟩:=Debts_eq a0 a1 a3 hio (by omega) (fun l hl=> by have:=o2 l hl;omega) (by omega)
  have hx12:x1=x2:=by
   rw [Bool.eq_iff_iff,y2,y4]
  subst hx12
  rw [bind_some_of y1,bind_some_of y3,hbb]
 ·obtain ⟨y1,y3⟩:=debts_differ (debts:=a3) hio
  rw [bind_some_of y1,bind_some_of y3,hbb]
end Go.Proofs.YtiklglcjecopcaaGreatDoor

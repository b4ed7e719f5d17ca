/-
  Plain programs of functions, and that the functions do what they say. Printed by wip/tools/gen.py.
-/
import Derived.Test.YtiklglcjecopcaaGreatDoorQ17
import Derived.Test.YtiklglcjecopcaaGreatDoorQ18
namespace Go.Proofs.YtiklglcjecopcaaGreatDoor
open Go.RowKit
attribute [local irreducible] IntKind.wrap AW runL Step.wp
set_option linter.unusedVariables false
set_option maxHeartbeats 4000000
set_option maxRecDepth 100000
structure api_Item where
 Event:Int
 Part:Int
 Of:Int
 Kind:Int
 On:Int
 OnPart:Int
 Quote:Int
 Who:Int
 N:Int
 Text:ByteArray
 Files:(List Int)
def api_Item.enc (x:api_Item):List D:= [.v (.int .i64 x.Event),.v (.int .i64 x.Part),.v (.int .i64 x.Of),.v (.int .i64 x.Kind),.v (.int .i64 x.On),.v (.int .i64 x.OnPart),.v (.int .i64 x.Quote),.v (.int .i64 x.Who),.v (.int .i64 x.N),.v (.string x.Text),.fz (List.map (encI .i64) x.Files)]
abbrev api_Item.av (x:api_Item):List AV:= [VI x.Event,VI x.Part,VI x.Of,VI x.Kind,VI x.On,VI x.OnPart,VI x.Quote,VI x.Who,VI x.N,VS x.Text,VF (List.map (encI .i64) x.Files)]
structure api_Out where
 Kind:Int
 Net:Int
 Event:Int
 Item:api_Item
def api_Out.enc (x:api_Out):List D:= [.v (.int .i64 x.Kind),.v (.int .i64 x.Net),.v (.int .i64 x.Event),.v (.int .i64 x.Item.Event),.v (.int .i64 x.Item.Part),.v (.int .i64 x.Item.Of),.v (.int .i64 x.Item.Kind),.v (.int .i64 x.Item.On),.v (.int .i64 x.Item.OnPart),.v (.int .i64 x.Item.Quote),.v (.int .i64 x.Item.Who),.v (.int .i64 x.Item.N),.v (.string x.Item.Text),.fz (List.map (encI .i64) x.Item.Files)]
abbrev api_Out.av (x:api_Out):List AV:= [VI x.Kind,VI x.Net,VI x.Event,VI x.Item.Event,VI x.Item.Part,VI x.Item.Of,VI x.Item.Kind,VI x.Item.On,VI x.Item.OnPart,VI x.Item.Quote,VI x.Item.Who,VI x.Item.N,VS x.Item.Text,VF (List.map (encI .i64) x.Item.Files)]
noncomputable def ref49_FewOuts_L1 (outs_:(List (List api_Out))) (s3:Int):Option ((Int)⊕((Unit)⊕(Bool))):=
 (bif (decide (s3 < (outs_.length:Int))) then
  (bif (decide (s3 < (21:Int))) then
   (getI outs_ s3).bind fun x12=>
   (bif (decide ((12:Int) < (x12.length:Int))) then
    some (.inr (.inr false))
   else
    some (.inl (IntKind.i64.wrap (s3 + (1:Int)))))
  else
   some (.inr (.inl ())))
 else
  some (.inr (.inl ())))
noncomputable def ref49_FewOuts (outs_:(List (List api_Out))):Option (Bool):=
 (seqF (A:=Unit) (
  loopF (ref49_FewOuts_L1 outs_) (0:Int))
 fun s2=>
  some (decide ((outs_.length:Int)≤(20:Int))))
theorem ref49_FewOuts_fn {dr:Prop} {outs_:(List (List api_Out))} {r:Bool} (h:ref49_FewOuts outs_=some r):Fn dr Tryz.prog 5 [VF (List.map (encL api_Out.enc) outs_)] (VB r):=by
 refine Fn.of_AW (dr:=dr) (F:=FnX dr Tryz.prog) (base:=0) (js:= [6]) mixed tok noeqs (fun _ _ _ h=> h) Tryz.call5 Tryz.func5 rfl Tryz.ntmps5 (by rw [Tryz.results5]) (by simp) ?_;have hG:(fun x=> x=r) r:=rfl;unfold ref49_FewOuts at h;refine Zac 5 rfl ?_;refine A.join (fun (s2:Unit)=> [(0,VF (List.map (encL api_Out.enc) outs_))]) (fun s2=> []) _ h hG rfl ?_ ?_
 ·intro J f h hG;refine Zac 6 rfl ?_;refine A.loop (fun (s3:Int)=> [(0,VF (List.map (encL api_Out.enc) outs_)),(3,VI s3)]) (fun s3=> []) _ h hG (Zf [] [] rfl rfl (Ze rfl rfl (Ze rfl rfl trivial)) trivial) ?_;intro J s3 f h hG;unfold ref49_FewOuts_L1 at h;refine Zap 5 rfl ?_;refine Y1 rfl ?_;refine W.len rfl ?_;refine Zpp 2 rfl ?_;refine YT rfl rfl rfl h (fun _ h=> ?_) (fun _ h=> ?_)
  ·refine Zwc 5 rfl ?_;refine A.condB rfl h (fun _ h=> ?_) (fun _ h=> ?_)
   ·refine Zcp 8 rfl ?_;refine Y1 rfl ?_;refine bindK h fun x12 hx12 h=> ?_;refine W.chk rfl (elemB hx12) ?_;refine W.elem rfl (elemG hx12) ?_;refine W.chk rfl rfl ?_;refine W.det (.fp [.fz (List.map api_Out.enc x12)]) _ rfl ?_;refine Zpp 1 rfl ?_;refine Y1 rfl ?_;refine W.len rfl ?_;refine Zpc 3 rfl ?_;refine A.condB rfl h (fun _ h=> ?_) (fun _ h=> ?_)
    ·refine Zcb 8 rfl ?_;refine headK.r ?_;refine Zob 1 rfl ?_;refine headK.r ?_;cases h;cases hG;exact ⟨rfl,trivial⟩
    ·refine Zcb 8 rfl ?_;cases h;exact Zh hG [] [] rfl rfl (Ze rfl rfl (Ze rfl rfl trivial)) trivial
   ·refine Zcb 2 rfl ?_;refine headK.e ?_;refine Zob 1 rfl ?_;cases h;exact Zh hG [] [] rfl rfl (Ze rfl rfl trivial) trivial
  ·refine Zpb 7 rfl ?_;refine headK.e ?_;refine Zob 1 rfl ?_;cases h;exact Zh hG [] [] rfl rfl (Ze rfl rfl trivial) trivial
 ·intro s2 r2 h hG;refine Zcp 3 rfl ?_;refine Y1 rfl ?_;refine W.len rfl ?_;refine Zpb 5 rfl ?_;cases h;cases hG;exact ⟨rfl,trivial⟩
structure api_Event where
 Author:Int
 Seq:Int
 Causes:(List Int)
 Kind:Int
 Group:Int
 Target:Int
 Quote:Int
 Who:Int
 N:Int
 Text:ByteArray
 Files:(List Int)
 Step:Int
def api_Event.enc (x:api_Event):List D:= [.v (.int .i64 x.Author),.v (.int .i64 x.Seq),.fz (List.map (encI .i64) x.Causes),.v (.int .i64 x.Kind),.v (.int .i64 x.Group),.v (.int .i64 x.Target),.v (.int .i64 x.Quote),.v (.int .i64 x.Who),.v (.int .i64 x.N),.v (.string x.Text),.fz (List.map (encI .i64) x.Files),.v (.int .i64 x.Step)]
abbrev api_Event.av (x:api_Event):List AV:= [VI x.Author,VI x.Seq,VF (List.map (encI .i64) x.Causes),VI x.Kind,VI x.Group,VI x.Target,VI x.Quote,VI x.Who,VI x.N,VS x.Text,VF (List.map (encI .i64) x.Files),VI x.Step]
noncomputable def ref14_Few (e_:api_Event):Option (Bool):=
 (bif (decide ((e_.Causes.length:Int)≤(10:Int))) then
  (bif (decide ((e_.Files.length:Int)≤(10:Int))) then
   some (decide ((e_.Text.size:Int)≤(300:Int)))
  else
   some false)
 else
  some false)
theorem ref14_Few_fn {dr:Prop} {e_:api_Event} {r:Bool} (h:ref14_Few e_=some r):Fn dr Tryz.prog 69 [.agg (api_Event.av e_)] (VB r):=by
 refine Fn.of_AW (dr:=dr) (F:=FnX dr Tryz.prog) (base:=0) (js:= []) mixed tok noeqs (fun _ _ _ h=> h) Tryz.call69 Tryz.func69 rfl Tryz.ntmps69 (by rw [Tryz.results69]) (by simp) ?_;have hG:(fun x=> x=r) r:=rfl;unfold ref14_Few at h;refine Zap 2 rfl ?_;refine Zm (.lp 1 1 0) (Mem.add _ 1 (.box (api_Event.av e_))) rfl rfl ?_;refine Zpp 7 rfl ?_;refine Y1 rfl ?_;refine W.len rfl ?_;refine Zpp 2 rfl ?_;refine YT rfl rfl rfl h (fun _ h=> ?_) (fun _ h=> ?_)
 ·refine Zwp 2 rfl ?_;refine Y2 rfl rfl rfl ?_;refine W.len rfl ?_;refine Zpp 3 rfl ?_;refine YT rfl rfl rfl h (fun _ h=> ?_) (fun _ h=> ?_)
  ·refine Zwb 9 rfl ?_;cases h;cases hG;exact ⟨rfl,trivial⟩
  ·refine Zpb 8 rfl ?_;cases h;cases hG;exact ⟨rfl,trivial⟩
 ·refine Zpb 14 rfl ?_;cases h;cases hG;exact ⟨rfl,trivial⟩
noncomputable def ref14_FewAll_L1 (l_:(List api_Event)) (n_:Int) (s3:Int):Option ((Int)⊕((Unit)⊕(Bool))):=
 (bif (decide (s3 < (l_.length:Int))) then
  (bif (decide (s3≤n_)) then
   (getI l_ s3).bind fun x23=>
   (ref14_Few x23).bind fun y24=>
   (bif (!y24) then
    some (.inr (.inr false))
   else
    some (.inl (IntKind.i64.wrap (s3 + (1:Int)))))
  else
   some (.inr (.inl ())))
 else
  some (.inr (.inl ())))
noncomputable def ref14_FewAll (l_:(List api_Event)) (n_:Int):Option (Bool):=
 (seqF (A:=Unit) (
  loopF (ref14_FewAll_L1 l_ n_) (0:Int))
 fun s2=>
  some (decide ((l_.length:Int)≤n_)))
theorem ref14_FewAll_fn {dr:Prop} {l_:(List api_Event)} {n_:Int} {r:Bool} (h:ref14_FewAll l_ n_=some r):Fn dr Tryz.prog 19 [VF (List.map api_Event.enc l_),VI n_] (VB r):=by
 refine Fn.of_AW (dr:=dr) (F:=FnX dr Tryz.prog) (base:=0) (js:= [6]) mixed tok noeqs (fun _ _ _ h=> h) Tryz.call19 Tryz.func19 rfl Tryz.ntmps19 (by rw [Tryz.results19]) (by simp) ?_;have hG:(fun x=> x=r) r:=rfl;unfold ref14_FewAll at h;refine Zac 5 rfl ?_;refine A.join (fun (s2:Unit)=> [(0,VF (List.map api_Event.enc l_)),(1,VI n_)]) (fun s2=> []) _ h hG rfl ?_ ?_
 ·intro J f h hG;refine Zac 6 rfl ?_;refine A.loop (fun (s3:Int)=> [(0,VF (List.map api_Event.enc l_)),(1,VI n_),(5,VI s3)]) (fun s3=> []) _ h hG (Zf [] [] rfl rfl (Ze rfl rfl (Ze rfl rfl (Ze rfl rfl trivial))) trivial) ?_;intro J s3 f h hG;unfold ref14_FewAll_L1 at h;refine Zap 5 rfl ?_;refine Y1 rfl ?_;refine W.len rfl ?_;refine Zpp 2 rfl ?_;refine YT rfl rfl rfl h (fun _ h=> ?_) (fun _ h=> ?_)
  ·refine Zwc 6 rfl ?_;refine A.condB rfl h (fun _ h=> ?_) (fun _ h=> ?_)
   ·refine Zcp 8 rfl ?_;refine Y1 rfl ?_;refine bindK h fun x23 hx23 h=> ?_;refine W.chk rfl (elemB hx23) ?_;refine W.elem rfl (elemG hx23) ?_;refine W.chk rfl rfl ?_;refine W.det (.fp [.v (.int .i64 x23.Author),.v (.int .i64 x23.Seq),.fz (List.map (encI .i64) x23.Causes),.v (.int .i64 x23.Kind),.v (.int .i64 x23.Group),.v (.int .i64 x23.Target),.v (.int .i64 x23.Quote),.v (.int .i64 x23.Who),.v (.int .i64 x23.N),.v (.string x23.Text),.fz (List.map (encI .i64) x23.Files),.v (.int .i64 x23.Step)]) _ rfl ?_;refine Zo (.agg (api_Event.av x23)) rfl rfl ?_;refine Y1 rfl ?_;refine bindK h fun y24 hy24 h=> ?_;refine W.call rfl (ref14_Few_fn hy24) ?_;refine Zwc 4 rfl ?_;refine A.condB rfl h (fun _ h=> ?_) (fun _ h=> ?_)
    ·refine Zcb 8 rfl ?_;refine headK.r ?_;refine Zob 1 rfl ?_;refine headK.r ?_;cases h;cases hG;exact ⟨rfl,trivial⟩
    ·refine Zcb 8 rfl ?_;cases h;exact Zh hG [] [] rfl rfl (Ze rfl rfl (Ze rfl rfl (Ze rfl rfl trivial))) trivial
   ·refine Zcb 2 rfl ?_;refine headK.e ?_;refine Zob 1 rfl ?_;cases h;exact Zh hG [] [] rfl rfl (Ze rfl rfl (Ze rfl rfl trivial)) trivial
  ·refine Zpb 8 rfl ?_;refine headK.e ?_;refine Zob 1 rfl ?_;cases h;exact Zh hG [] [] rfl rfl (Ze rfl rfl (Ze rfl rfl trivial)) trivial
 ·intro s2 r2 h hG;refine Zcp 3 rfl ?_;refine Y1 rfl ?_;refine W.len rfl ?_;refine Zpb 6 rfl ?_;cases h;cases hG;exact ⟨rfl,trivial⟩
structure api_Waiting where
 Event:Int
 Net:Int
 Left:Int
 Due:Int
def api_Waiting.enc (x:api_Waiting):List D:= [.v (.int .i64 x.Event),.v (.int .i64 x.Net),.v (.int .i64 x.Left),.v (.int .i64 x.Due)]
abbrev api_Waiting.av (x:api_Waiting):List AV:= [VI x.Event,VI x.Net,VI x.Left,VI x.Due]
structure api_Sent where
 Event:Int
 Net:Int
 Step:Int
def api_Sent.enc (x:api_Sent):List D:= [.v (.int .i64 x.Event),.v (.int .i64 x.Net),.v (.int .i64 x.Step)]
abbrev api_Sent.av (x:api_Sent):List AV:= [VI x.Event,VI x.Net,VI x.Step]
structure api_Debt where
 Event:Int
 Net:Int
def api_Debt.enc (x:api_Debt):List D:= [.v (.int .i64 x.Event),.v (.int .i64 x.Net)]
abbrev api_Debt.av (x:api_Debt):List AV:= [VI x.Event,VI x.Net]
structure api_Pair where
 Net:Int
 Local:Int
 Event:Int
 Part:Int
def api_Pair.enc (x:api_Pair):List D:= [.v (.int .i64 x.Net),.v (.int .i64 x.Local),.v (.int .i64 x.Event),.v (.int .i64 x.Part)]
abbrev api_Pair.av (x:api_Pair):List AV:= [VI x.Net,VI x.Local,VI x.Event,VI x.Part]
structure api_Proof where
 Kind:Int
 A:Int
 B:Int
def api_Proof.enc (x:api_Proof):List D:= [.v (.int .i64 x.Kind),.v (.int .i64 x.A),.v (.int .i64 x.B)]
abbrev api_Proof.av (x:api_Proof):List AV:= [VI x.Kind,VI x.A,VI x.B]
structure api_Note where
 Message:Int
 Who:Int
 Level:Int
 Step:Int
 Not:Bool
def api_Note.enc (x:api_Note):List D:= [.v (.int .i64 x.Message),.v (.int .i64 x.Who),.v (.int .i64 x.Level),.v (.int .i64 x.Step),.v (.bool x.Not)]
abbrev api_Note.av (x:api_Note):List AV:= [VI x.Message,VI x.Who,VI x.Level,VI x.Step,VB x.Not]
structure api_Verdict where
 Name:Int
 Step:Int
 Bad:Bool
def api_Verdict.enc (x:api_Verdict):List D:= [.v (.int .i64 x.Name),.v (.int .i64 x.Step),.v (.bool x.Bad)]
abbrev api_Verdict.av (x:api_Verdict):List AV:= [VI x.Name,VI x.Step,VB x.Bad]
structure api_Hold where
 Id:Int
 Event:Int
 From:Int
 To:Int
def api_Hold.enc (x:api_Hold):List D:= [.v (.int .i64 x.Id),.v (.int .i64 x.Event),.v (.int .i64 x.From),.v (.int .i64 x.To)]
abbrev api_Hold.av (x:api_Hold):List AV:= [VI x.Id,VI x.Event,VI x.From,VI x.To]
structure api_Order where
 Kind:Int
 Event:Int
 By:Int
 Step:Int
def api_Order.enc (x:api_Order):List D:= [.v (.int .i64 x.Kind),.v (.int .i64 x.Event),.v (.int .i64 x.By),.v (.int .i64 x.Step)]
abbrev api_Order.av (x:api_Order):List AV:= [VI x.Kind,VI x.Event,VI x.By,VI x.Step]
structure api_Sealed where
 Event:Int
 Box:Int
 Hold:Int
def api_Sealed.enc (x:api_Sealed):List D:= [.v (.int .i64 x.Event),.v (.int .i64 x.Box),.v (.int .i64 x.Hold)]
abbrev api_Sealed.av (x:api_Sealed):List AV:= [VI x.Event,VI x.Box,VI x.Hold]
structure api_State where
 Step:Int
 Events:(List api_Event)
 Queue:(List api_Waiting)
 Sent:(List api_Sent)
 Refused:(List api_Debt)
 Pairs:(List api_Pair)
 Proofs:(List api_Proof)
 Notes:(List (List api_Note))
 Bad:(List api_Verdict)
 Holds:(List api_Hold)
 Orders:(List api_Order)
 Sealed:(List api_Sealed)
 Debts:(List api_Debt)
def api_State.enc (x:api_State):List D:= [.v (.int .i64 x.Step),.fz (List.map api_Event.enc x.Events),.fz (List.map api_Waiting.enc x.Queue),.fz (List.map api_Sent.enc x.Sent),.fz (List.map api_Debt.enc x.Refused),.fz (List.map api_Pair.enc x.Pairs),.fz (List.map api_Proof.enc x.Proofs),.fz (List.map (encL api_Note.enc) x.Notes),.fz (List.map api_Verdict.enc x.Bad),.fz (List.map api_Hold.enc x.Holds),.fz (List.map api_Order.enc x.Orders),.fz (List.map api_Sealed.enc x.Sealed),.fz (List.map api_Debt.enc x.Debts)]
abbrev api_State.av (x:api_State):List AV:= [VI x.Step,VF (List.map api_Event.enc x.Events),VF (List.map api_Waiting.enc x.Queue),VF (List.map api_Sent.enc x.Sent),VF (List.map api_Debt.enc x.Refused),VF (List.map api_Pair.enc x.Pairs),VF (List.map api_Proof.enc x.Proofs),VF (List.map (encL api_Note.enc) x.Notes),VF (List.map api_Verdict.enc x.Bad),VF (List.map api_Hold.enc x.Holds),VF (List.map api_Order.enc x.Orders),VF (List.map api_Sealed.enc x.Sealed),VF (List.map api_Debt.enc x.Debts)]
noncomputable def ref46_Few_L1 (s_:api_State) (s3:Int):Option ((Int)⊕((Unit)⊕(Bool))):=
 (bif (decide (s3 < (s_.Notes.length:Int))) then
  (bif (decide (s3≤(20:Int))) then
   (getI s_.Notes s3).bind fun x12=>
   (bif (decide ((20:Int) < (x12.length:Int))) then
    some (.inr (.inr false))
   else
    some (.inl (IntKind.i64.wrap (s3 + (1:Int)))))
  else
   some (.inr (.inl ())))
 else
  some (.inr (.inl ())))
noncomputable def ref46_Few (s_:api_State) (n_:Int):Option (Bool):=
 (seqF (A:=Unit) (
  loopF (ref46_Few_L1 s_) (0:Int))
 fun s2=>
  (seqF (A:=Bool) (
   (bif (decide ((s_.Queue.length:Int)≤(20:Int))) then
    (bif (decide ((s_.Sent.length:Int)≤(20:Int))) then
     (bif (decide ((s_.Refused.length:Int)≤(20:Int))) then
      (bif (decide ((s_.Pairs.length:Int)≤(20:Int))) then
       (bif (decide ((s_.Proofs.length:Int)≤(20:Int))) then
        some (.inl (decide ((s_.Notes.length:Int)≤(20:Int))))
       else
        some (.inl false))
      else
       some (.inl false))
     else
      some (.inl false))
    else
     some (.inl false))
   else
    some (.inl false)))
  fun s4=>
   (bif s4 then
    (bif (decide ((s_.Bad.length:Int)≤(20:Int))) then
     (bif (decide ((s_.Holds.length:Int)≤(20:Int))) then
      (bif (decide ((s_.Orders.length:Int)≤(20:Int))) then
       (bif (decide ((s_.Sealed.length:Int)≤(20:Int))) then
        (bif (decide ((s_.Debts.length:Int)≤(20:Int))) then
         (ref14_FewAll s_.Events n_).bind fun y13=>
         some y13
        else
         some false)
       else
        some false)
      else
       some false)
     else
      some false)
    else
     some false)
   else
    some false)))
theorem ref46_Few_fn {dr:Prop} {s_:api_State} {n_:Int} {r:Bool} (h:ref46_Few s_ n_=some r):Fn dr Tryz.prog 6 [.agg (api_State.av s_),VI n_] (VB r):=by
 refine Fn.of_AW (dr:=dr) (F:=FnX dr Tryz.prog) (base:=0) (js:= [6,7]) mixed tok noeqs (fun _ _ _ h=> h) Tryz.call6 Tryz.func6 rfl Tryz.ntmps6 (by rw [Tryz.results6]) (by simp) ?_;have hG:(fun x=> x=r) r:=rfl;unfold ref46_Few at h;refine Zap 2 rfl ?_;refine Zm (.lp 2 1 0) (Mem.add _ 2 (.box (api_State.av s_))) rfl rfl ?_;refine Zpc 3 rfl ?_;refine A.join (fun (s2:Unit)=> [(1,VI n_),(2,.lp 900000 1 0)]) (fun s2=> [(900000,.box (api_State.av s_))]) _ h hG rfl ?_ ?_
 ·intro J f h hG;refine Zac 6 rfl ?_;refine A.loop (fun (s3:Int)=> [(1,VI n_),(2,.lp 900000 1 0),(5,VI s3)]) (fun s3=> [(900000,.box (api_State.av s_))]) _ h hG (Zf [] [(900000,(2,1))] rfl rfl (Ze rfl rfl (Ze rfl rfl (Ze rfl rfl trivial))) (Zc rfl rfl trivial)) ?_;intro J s3 f h hG;unfold ref46_Few_L1 at h;refine Zap 6 rfl ?_;refine Y1 rfl ?_;refine W.len rfl ?_;refine Zpp 2 rfl ?_;refine YT rfl rfl rfl h (fun _ h=> ?_) (fun _ h=> ?_)
  ·refine Zwc 5 rfl ?_;refine A.condB rfl h (fun _ h=> ?_) (fun _ h=> ?_)
   ·refine Zcp 9 rfl ?_;refine Y1 rfl ?_;refine bindK h fun x12 hx12 h=> ?_;refine W.chk rfl (elemB hx12) ?_;refine W.elem rfl (elemG hx12) ?_;refine W.chk rfl rfl ?_;refine W.det (.fp [.fz (List.map api_Note.enc x12)]) _ rfl ?_;refine Zpp 1 rfl ?_;refine Y1 rfl ?_;refine W.len rfl ?_;refine Zpc 3 rfl ?_;refine A.condB rfl h (fun _ h=> ?_) (fun _ h=> ?_)
    ·refine Zcb 8 rfl ?_;refine headK.r ?_;refine Zob 1 rfl ?_;refine headK.r ?_;cases h;cases hG;exact ⟨rfl,trivial⟩
    ·refine Zcb 8 rfl ?_;cases h;exact Zh hG [] [(900000,(900000,1))] rfl rfl (Ze rfl rfl (Ze rfl rfl (Ze rfl rfl trivial))) (Zc rfl rfl trivial)
   ·refine Zcb 2 rfl ?_;refine headK.e ?_;refine Zob 1 rfl ?_;cases h;exact Zh hG [] [(900000,(900000,1))] rfl rfl (Ze rfl rfl (Ze rfl rfl trivial)) (Zc rfl rfl trivial)
  ·refine Zpb 7 rfl ?_;refine headK.e ?_;refine Zob 1 rfl ?_;cases h;exact Zh hG [] [(900000,(900000,1))] rfl rfl (Ze rfl rfl (Ze rfl rfl trivial)) (Zc rfl rfl trivial)
 ·intro s2 r2 h hG;refine A.join (fun (s4:Bool)=> [(1,VI n_),(2,.lp 900000 1 0),(6,VB s4)]) (fun s4=> [(900000,.box (api_State.av s_))]) _ h hG rfl ?_ ?_
  ·intro J f h hG;refine Zap 3 rfl ?_;refine Y1 rfl ?_;refine W.len rfl ?_;refine Zpp 2 rfl ?_;refine YT rfl rfl rfl h (fun _ h=> ?_) (fun _ h=> ?_)
   ·refine Zwp 2 rfl ?_;refine Y2 rfl rfl rfl ?_;refine W.len rfl ?_;refine Zpp 3 rfl ?_;refine YT rfl rfl rfl h (fun _ h=> ?_) (fun _ h=> ?_)
    ·refine Zwp 2 rfl ?_;refine Y2 rfl rfl rfl ?_;refine W.len rfl ?_;refine Zpp 3 rfl ?_;refine YT rfl rfl rfl h (fun _ h=> ?_) (fun _ h=> ?_)
     ·refine Zwp 2 rfl ?_;refine Y2 rfl rfl rfl ?_;refine W.len rfl ?_;refine Zpp 3 rfl ?_;refine YT rfl rfl rfl h (fun _ h=> ?_) (fun _ h=> ?_)
      ·refine Zwp 2 rfl ?_;refine Y2 rfl rfl rfl ?_;refine W.len rfl ?_;refine Zpp 3 rfl ?_;refine YT rfl rfl rfl h (fun _ h=> ?_) (fun _ h=> ?_)
       ·refine Zwp 2 rfl ?_;refine Y2 rfl rfl rfl ?_;refine W.len rfl ?_;refine Zpb 4 rfl ?_;cases h;exact Zh hG [] [(900000,(900000,1))] rfl rfl (Ze rfl rfl (Ze rfl rfl (Ze rfl rfl trivial))) (Zc rfl rfl trivial)
       ·refine Zpb 6 rfl ?_;cases h;exact Zh hG [] [(900000,(900000,1))] rfl rfl (Ze rfl rfl (Ze rfl rfl (Ze rfl rfl trivial))) (Zc rfl rfl trivial)
      ·refine Zpb 12 rfl ?_;cases h;exact Zh hG [] [(900000,(900000,1))] rfl rfl (Ze rfl rfl (Ze rfl rfl (Ze rfl rfl trivial))) (Zc rfl rfl trivial)
     ·refine Zpb 18 rfl ?_;cases h;exact Zh hG [] [(900000,(900000,1))] rfl rfl (Ze rfl rfl (Ze rfl rfl (Ze rfl rfl trivial))) (Zc rfl rfl trivial)
    ·refine Zpb 24 rfl ?_;cases h;exact Zh hG [] [(900000,(900000,1))] rfl rfl (Ze rfl rfl (Ze rfl rfl (Ze rfl rfl trivial))) (Zc rfl rfl trivial)
   ·refine Zpb 30 rfl ?_;cases h;exact Zh hG [] [(900000,(900000,1))] rfl rfl (Ze rfl rfl (Ze rfl rfl (Ze rfl rfl trivial))) (Zc rfl rfl trivial)
  ·intro s4 r2 h hG;refine Zcp 4 rfl ?_;refine YT rfl rfl rfl h (fun _ h=> ?_) (fun _ h=> ?_)
   ·refine Zwp 2 rfl ?_;refine Y2 rfl rfl rfl ?_;refine W.len rfl ?_;refine Zpp 3 rfl ?_;refine YT rfl rfl rfl h (fun _ h=> ?_) (fun _ h=> ?_)
    ·refine Zwp 2 rfl ?_;refine Y2 rfl rfl rfl ?_;refine W.len rfl ?_;refine Zpp 3 rfl ?_;refine YT rfl rfl rfl h (fun _ h=> ?_) (fun _ h=> ?_)
     ·refine Zwp 2 rfl ?_;refine Y2 rfl rfl rfl ?_;refine W.len rfl ?_;refine Zpp 3 rfl ?_;refine YT rfl rfl rfl h (fun _ h=> ?_) (fun _ h=> ?_)
      ·refine Zwp 2 rfl ?_;refine Y2 rfl rfl rfl ?_;refine W.len rfl ?_;refine Zpp 3 rfl ?_;refine YT rfl rfl rfl h (fun _ h=> ?_) (fun _ h=> ?_)
       ·refine Zwp 2 rfl ?_;refine Y2 rfl rfl rfl ?_;refine W.len rfl ?_;refine Zpp 3 rfl ?_;refine YT rfl rfl rfl h (fun _ h=> ?_) (fun _ h=> ?_)
        ·refine Zwp 3 rfl ?_;refine Y2 rfl rfl rfl ?_;refine bindK h fun y13 hy13 h=> ?_;refine W.call rfl (ref14_FewAll_fn hy13) ?_;refine Zwb 6 rfl ?_;cases h;cases hG;exact ⟨rfl,trivial⟩
        ·refine Zpb 8 rfl ?_;cases h;cases hG;exact ⟨rfl,trivial⟩
       ·refine Zpb 14 rfl ?_;cases h;cases hG;exact ⟨rfl,trivial⟩
      ·refine Zpb 20 rfl ?_;cases h;cases hG;exact ⟨rfl,trivial⟩
     ·refine Zpb 26 rfl ?_;cases h;cases hG;exact ⟨rfl,trivial⟩
    ·refine Zpb 32 rfl ?_;cases h;cases hG;exact ⟨rfl,trivial⟩
   ·refine Zpb 38 rfl ?_;cases h;cases hG;exact ⟨rfl,trivial⟩
noncomputable def law49_fewDebts (l_:(List api_Debt)):Option (Bool):=
 some (decide ((l_.length:Int)≤(30:Int)))
theorem law49_fewDebts_fn {dr:Prop} {l_:(List api_Debt)} {r:Bool} (h:law49_fewDebts l_=some r):Fn dr Tryz.prog 7 [VF (List.map api_Debt.enc l_)] (VB r):=by
 refine Fn.of_AW (dr:=dr) (F:=FnX dr Tryz.prog) (base:=0) (js:= []) mixed tok noeqs (fun _ _ _ h=> h) Tryz.call7 Tryz.func7 rfl Tryz.ntmps7 (by rw [Tryz.results7]) (by simp) ?_;have hG:(fun x=> x=r) r:=rfl;unfold law49_fewDebts at h;refine Zap 8 rfl ?_;refine Y1 rfl ?_;refine W.len rfl ?_;refine Zpb 5 rfl ?_;cases h;cases hG;exact ⟨rfl,trivial⟩
noncomputable def ref49_Items_L1 (outs_:(List (List api_Out))) (s12:(Int×(List api_Out))) (s21:Int×(List api_Out)):Option ((Int×(List api_Out))⊕(((List api_Out))⊕((Int×(List api_Out))⊕(((List api_Out))⊕((List api_Out)))))):=
 (getI outs_ s12.1).bind fun x212=>
 (bif (decide (s21.1 < (x212.length:Int))) then
  (getI x212 s21.1).bind fun x215=>
  (bif (x215.Kind==(0:Int)) then
   (chkO (decide (s21.2.length + [(api_Out.mk x215.Kind x215.Net x215.Event (api_Item.mk x215.Item.Event x215.Item.Part x215.Item.Of x215.Item.Kind x215.Item.On x215.Item.OnPart x215.Item.Quote x215.Item.Who x215.Item.N x215.Item.Text x215.Item.Files))].length≤1000000))).bind fun _=>
   some (.inl ((IntKind.i64.wrap (s21.1 + (1:Int))),(s21.2 ++ [(api_Out.mk x215.Kind x215.Net x215.Event (api_Item.mk x215.Item.Event x215.Item.Part x215.Item.Of x215.Item.Kind x215.Item.On x215.Item.OnPart x215.Item.Quote x215.Item.Who x215.Item.N x215.Item.Text x215.Item.Files))])))
  else
   some (.inl ((IntKind.i64.wrap (s21.1 + (1:Int))),s21.2)))
 else
  some (.inr (.inl s21.2)))
noncomputable def ref49_Items_L2 (outs_:(List (List api_Out))) (s12:Int×(List api_Out)):Option ((Int×(List api_Out))⊕(((List api_Out))⊕((List api_Out)))):=
 (bif (decide (s12.1 < (outs_.length:Int))) then
  (seqF (A:=(List api_Out)) (
   loopF (ref49_Items_L1 outs_ s12) ((0:Int),s12.2))
  fun s20=>
   some (.inl ((IntKind.i64.wrap (s12.1 + (1:Int))),s20)))
 else
  some (.inr (.inl s12.2)))
noncomputable def ref49_Items (outs_:(List (List api_Out))):Option ((List api_Out)):=
 (seqF (A:=(List api_Out)) (
  loopF (ref49_Items_L2 outs_) ((0:Int),([]:List api_Out)))
 fun s11=>
  some s11)
theorem ref49_Items_fn {dr:Prop} {outs_:(List (List api_Out))} {r:(List api_Out)} (h:ref49_Items outs_=some r):Fn dr Tryz.prog 21 [VF (List.map (encL api_Out.enc) outs_)] (.ow 14 (List.map api_Out.enc r)):=by
 refine Fn.of_AW (dr:=dr) (F:=FnX dr Tryz.prog) (base:=0) (js:= [4,10]) mixed tok noeqs (fun _ _ _ h=> h) Tryz.call21 Tryz.func21 rfl Tryz.ntmps21 (by rw [Tryz.results21]) (by simp) ?_;have hG:(fun x=> x=r) r:=rfl;unfold ref49_Items at h;refine Zap 2 rfl ?_;refine Zm (.row 2 1 0) (Mem.add _ 2 (.rows 14 (List.map api_Out.enc ([]:List api_Out)) false)) rfl rfl ?_;refine Zpp 4 rfl ?_;refine Zm (.row 3 1 0) (Mem.add _ 3 (.rows 14 (List.map api_Out.enc ([]:List api_Out)) false)) rfl rfl ?_;refine Zpc 2 rfl ?_;refine A.join (fun (s11:(List api_Out))=> [(3,.row 900000 1 s11.length)]) (fun s11=> [(900000,.rows 14 (List.map api_Out.enc s11) false)]) _ h hG rfl ?_ ?_
 ·intro J f h hG;refine Zac 6 rfl ?_;refine A.loop (fun (s12:Int×(List api_Out))=> [(0,VF (List.map (encL api_Out.enc) outs_)),(3,.row 900000 1 s12.2.length),(4,VI s12.1)]) (fun s12=> [(900000,.rows 14 (List.map api_Out.enc s12.2) false)]) _ h hG (Zf [] [(900000,(3,1))] rfl rfl (Ze rfl rfl (Ze rfl rfl (Ze rfl rfl trivial))) (Zc rfl rfl trivial)) ?_;intro J s12 f h hG;unfold ref49_Items_L2 at h;refine Zap 5 rfl ?_;refine Y1 rfl ?_;refine W.len rfl ?_;refine Zpc 3 rfl ?_;refine A.condB rfl h (fun _ h=> ?_) (fun _ h=> ?_)
  ·refine Zcc 2 rfl ?_;refine A.join (fun (s20:(List api_Out))=> [(0,VF (List.map (encL api_Out.enc) outs_)),(3,.row 900000 1 s20.length),(4,VI s12.1)]) (fun s20=> [(900000,.rows 14 (List.map api_Out.enc s20) false)]) _ h hG rfl ?_ ?_
   ·intro J f h hG;refine Zac 7 rfl ?_;refine A.loop (fun (s21:Int×(List api_Out))=> [(0,VF (List.map (encL api_Out.enc) outs_)),(3,.row 900000 1 s21.2.length),(4,VI s12.1),(5,VI s21.1)]) (fun s21=> [(900000,.rows 14 (List.map api_Out.enc s21.2) false)]) _ h hG (Zf [] [(900000,(900000,1))] rfl rfl (Ze rfl rfl (Ze rfl rfl (Ze rfl rfl (Ze rfl rfl trivial)))) (Zc rfl rfl trivial)) ?_;intro J s21 f h hG;unfold ref49_Items_L1 at h;refine Zap 6 rfl ?_;refine Y1 rfl ?_;refine bindK h fun x212 hx212 h=> ?_;refine W.chk rfl (elemB hx212) ?_;refine W.elem rfl (elemG hx212) ?_;refine W.chk rfl rfl ?_;refine W.det (.fp [.fz (List.map api_Out.enc x212)]) _ rfl ?_;refine Zpp 1 rfl ?_;refine Y1 rfl ?_;refine W.len rfl ?_;refine Zpc 3 rfl ?_;refine A.condB rfl h (fun _ h=> ?_) (fun _ h=> ?_)
    ·refine Zcp 8 rfl ?_;refine Y1 rfl ?_;refine W.chk rfl (elemB hx212) ?_;refine W.elem rfl (elemG hx212) ?_;refine W.chk rfl rfl ?_;refine W.det (.fp [.fz (List.map api_Out.enc x212)]) _ rfl ?_;refine Zpp 2 rfl ?_;refine Y1 rfl ?_;refine bindK h fun x215 hx215 h=> ?_;refine W.chk rfl (elemB hx215) ?_;refine W.elem rfl (elemG hx215) ?_;refine W.chk rfl rfl ?_;refine W.det (.fp [.v (.int .i64 x215.Kind),.v (.int .i64 x215.Net),.v (.int .i64 x215.Event),.v (.int .i64 x215.Item.Event),.v (.int .i64 x215.Item.Part),.v (.int .i64 x215.Item.Of),.v (.int .i64 x215.Item.Kind),.v (.int .i64 x215.Item.On),.v (.int .i64 x215.Item.OnPart),.v (.int .i64 x215.Item.Quote),.v (.int .i64 x215.Item.Who),.v (.int .i64 x215.Item.N),.v (.string x215.Item.Text),.fz (List.map (encI .i64) x215.Item.Files)]) _ rfl ?_;refine Zo (.fp [.v (.int .i64 x215.Kind),.v (.int .i64 x215.Net),.v (.int .i64 x215.Event),.v (.int .i64 x215.Item.Event),.v (.int .i64 x215.Item.Part),.v (.int .i64 x215.Item.Of),.v (.int .i64 x215.Item.Kind),.v (.int .i64 x215.Item.On),.v (.int .i64 x215.Item.OnPart),.v (.int .i64 x215.Item.Quote),.v (.int .i64 x215.Item.Who),.v (.int .i64 x215.Item.N),.v (.string x215.Item.Text),.fz (List.map (encI .i64) x215.Item.Files)]) rfl rfl ?_;refine Zpc 4 rfl ?_;refine A.condB rfl h (fun _ h=> ?_) (fun _ h=> ?_)
     ·refine Zcp 1 rfl ?_;refine Zo (.row 900000 1 s21.2.length) rfl rfl ?_;refine Zpp 2 rfl ?_;refine Y1 rfl ?_;refine W.chk rfl (elemB hx212) ?_;refine W.elem rfl (elemG hx212) ?_;refine W.chk rfl rfl ?_;refine W.det (.fp [.fz (List.map api_Out.enc x212)]) _ rfl ?_;refine Zpp 2 rfl ?_;refine Y1 rfl ?_;refine W.chk rfl (elemB hx215) ?_;refine W.elem rfl (elemG hx215) ?_;refine W.chk rfl rfl ?_;refine W.det (.fp [.v (.int .i64 x215.Kind),.v (.int .i64 x215.Net),.v (.int .i64 x215.Event),.v (.int .i64 x215.Item.Event),.v (.int .i64 x215.Item.Part),.v (.int .i64 x215.Item.Of),.v (.int .i64 x215.Item.Kind),.v (.int .i64 x215.Item.On),.v (.int .i64 x215.Item.OnPart),.v (.int .i64 x215.Item.Quote),.v (.int .i64 x215.Item.Who),.v (.int .i64 x215.Item.N),.v (.string x215.Item.Text),.fz (List.map (encI .i64) x215.Item.Files)]) _ rfl ?_;refine Zo (.agg (api_Out.av x215)) rfl rfl ?_;refine Zm (.row 38 2 1) (Mem.add _ 38 (.rows 14 (List.map api_Out.enc [(api_Out.mk x215.Kind x215.Net x215.Event (api_Item.mk x215.Item.Event x215.Item.Part x215.Item.Of x215.Item.Kind x215.Item.On x215.Item.OnPart x215.Item.Quote x215.Item.Who x215.Item.N x215.Item.Text x215.Item.Files))]) false)) rfl rfl ?_;refine Y1 rfl ?_;refine chkK h fun g216 h=> ?_;refine W.chk rfl (appChk (fun _=> rfl) g216) ?_;refine W.app rfl rfl ?_;refine Zo (.row 900000 2 (s21.2 ++ [(api_Out.mk x215.Kind x215.Net x215.Event (api_Item.mk x215.Item.Event x215.Item.Part x215.Item.Of x215.Item.Kind x215.Item.On x215.Item.OnPart x215.Item.Quote x215.Item.Who x215.Item.N x215.Item.Text x215.Item.Files))]).length) rfl rfl ?_;refine Zpb 8 rfl ?_;cases h;exact Zh hG [] [(900000,(900000,2))] rfl rfl (Ze rfl rfl (Ze rfl rfl (Ze rfl rfl (Ze rfl rfl trivial)))) (Zc rfl rfl trivial)
     ·refine Zcb 8 rfl ?_;cases h;exact Zh hG [] [(900000,(900000,1))] rfl rfl (Ze rfl rfl (Ze rfl rfl (Ze rfl rfl (Ze rfl rfl trivial)))) (Zc rfl rfl trivial)
    ·refine Zcb 2 rfl ?_;refine headK.e ?_;refine Zob 2 rfl ?_;cases h;exact Zh hG [] [(900000,(900000,1))] rfl rfl (Ze rfl rfl (Ze rfl rfl (Ze rfl rfl trivial))) (Zc rfl rfl trivial)
   ·intro s20 r2 h hG;refine Zcb 5 rfl ?_;cases h;exact Zh hG [] [(900000,(900000,1))] rfl rfl (Ze rfl rfl (Ze rfl rfl (Ze rfl rfl trivial))) (Zc rfl rfl trivial)
  ·refine Zcb 2 rfl ?_;refine headK.e ?_;refine Zob 1 rfl ?_;cases h;exact Zh hG [] [(900000,(900000,1))] rfl rfl (Ze rfl rfl trivial) (Zc rfl rfl trivial)
 ·intro s11 r2 h hG;refine Zcp 2 rfl ?_;refine Zo (.row 900000 1 s11.length) rfl rfl ?_;refine Zo (.row 900000 1 s11.length) rfl rfl ?_;refine Zpb 3 rfl ?_;cases h;cases hG;exact ⟨rfl,rfl,trivial⟩
noncomputable def ref49_Once_L1 (s12:(Int)) (y1:(List api_Out)) (s21:Int):Option ((Int)⊕((Unit)⊕((Int)⊕((Unit)⊕(Bool))))):=
 (bif (decide (s21 < s12)) then
  (chkO (decide (0≤s12) && decide (s12 < ((y1.length:Nat):Int)))).bind fun _=>
  (getI y1 s12).bind fun x1131=>
  (chkO (decide (0≤s21) && decide (s21 < ((y1.length:Nat):Int)))).bind fun _=>
  (getI y1 s21).bind fun x1133=>
  (bif (x1131.Net==x1133.Net) then
   (bif (x1131.Item.Event==x1133.Item.Event) then
    (bif (x1131.Item.Part==x1133.Item.Part) then
     some (.inr (.inr (.inr (.inr false))))
    else
     some (.inl (IntKind.i64.wrap (s21 + (1:Int)))))
   else
    some (.inl (IntKind.i64.wrap (s21 + (1:Int)))))
  else
   some (.inl (IntKind.i64.wrap (s21 + (1:Int)))))
 else
  some (.inr (.inl ())))
noncomputable def ref49_Once_L2 (y1:(List api_Out)) (s12:Int):Option ((Int)⊕((Unit)⊕(Bool))):=
 (bif (decide (s12 < ((y1.length:Nat):Int))) then
  (seqF (A:=Unit) (
   loopF (ref49_Once_L1 s12 y1) (0:Int))
  fun s20=>
   some (.inl (IntKind.i64.wrap (s12 + (1:Int)))))
 else
  some (.inr (.inl ())))
noncomputable def ref49_Once (outs_:(List (List api_Out))):Option (Bool):=
 (ref49_Items outs_).bind fun y1=>
 (seqF (A:=Unit) (
  loopF (ref49_Once_L2 y1) (0:Int))
 fun s11=>
  some true)
theorem ref49_Once_fn {dr:Prop} {outs_:(List (List api_Out))} {r:Bool} (h:ref49_Once outs_=some r):Fn dr Tryz.prog 9 [VF (List.map (encL api_Out.enc) outs_)] (VB r):=by
 refine Fn.of_AW (dr:=dr) (F:=FnX dr Tryz.prog) (base:=0) (js:= [4,10]) mixed tok noeqs (fun _ _ _ h=> h) Tryz.call9 Tryz.func9 rfl Tryz.ntmps9 (by rw [Tryz.results9]) (by simp) ?_;have hG:(fun x=> x=r) r:=rfl;unfold ref49_Once at h;refine Zap 8 rfl ?_;refine Y1 rfl ?_;refine bindK h fun y1 hy1 h=> ?_;refine W.call rfl (ref49_Items_fn hy1) ?_;refine W.v (.row 7 1 (List.map api_Out.enc y1).length) (.row 7 1 y1.length) (Mem.add _ 7 (.rows 14 (List.map api_Out.enc y1) false)) rfl (by simp only [List.length_map]) ?_;refine Zo (.row 7 1 y1.length) rfl rfl ?_;refine Zpc 2 rfl ?_;refine A.join (fun (s11:Unit)=> []) (fun s11=> []) _ h hG rfl ?_ ?_
 ·intro J f h hG;refine Zac 6 rfl ?_;refine A.loop (fun (s12:Int)=> [(3,.row 900000 1 y1.length),(4,VI s12)]) (fun s12=> [(900000,.rows 14 (List.map api_Out.enc y1) false)]) _ h hG (Zf [] [(900000,(7,1))] rfl rfl (Ze rfl rfl (Ze rfl rfl trivial)) (Zc rfl rfl trivial)) ?_;intro J s12 f h hG;unfold ref49_Once_L2 at h;refine Zap 4 rfl ?_;refine Zo (.row 900000 1 y1.length) rfl rfl ?_;refine Zpc 4 rfl ?_;refine A.condB rfl h (fun _ h=> ?_) (fun _ h=> ?_)
  ·refine Zcc 2 rfl ?_;refine A.join (fun (s20:Unit)=> [(3,.row 900000 1 y1.length),(4,VI s12)]) (fun s20=> [(900000,.rows 14 (List.map api_Out.enc y1) false)]) _ h hG rfl ?_ ?_
   ·intro J f h hG;refine Zac 7 rfl ?_;refine A.loop (fun (s21:Int)=> [(3,.row 900000 1 y1.length),(4,VI s12),(5,VI s21)]) (fun s21=> [(900000,.rows 14 (List.map api_Out.enc y1) false)]) _ h hG (Zf [] [(900000,(900000,1))] rfl rfl (Ze rfl rfl (Ze rfl rfl (Ze rfl rfl trivial))) (Zc rfl rfl trivial)) ?_;intro J s21 f h hG;unfold ref49_Once_L1 at h;refine Zac 8 rfl ?_;refine A.condB rfl h (fun _ h=> ?_) (fun _ h=> ?_)
    ·refine Zcc 5 rfl ?_;refine A.regionD (by kernel_rfl) ?_;refine Zo (.row 900000 1 y1.length) rfl rfl ?_;refine Zpp 1 rfl ?_;refine Y1 rfl ?_;refine chkK h fun g1130 h=> ?_;refine W.chk rfl (by simpa using g1130) ?_;refine W.det (.rp 900000 1 s12.toNat 0) _ rfl ?_;refine Zo (.rp 900000 1 s12.toNat 1) rfl rfl ?_;refine Y1 rfl ?_;refine bindK h fun x1131 hx1131 h=> ?_;refine W.elem rfl (elemG hx1131) ?_;refine Zwp 1 rfl ?_;refine Zo (.row 900000 1 y1.length) rfl rfl ?_;refine Zpp 1 rfl ?_;refine Y1 rfl ?_;refine chkK h fun g1132 h=> ?_;refine W.chk rfl (by simpa using g1132) ?_;refine W.det (.rp 900000 1 s21.toNat 0) _ rfl ?_;refine Zo (.rp 900000 1 s21.toNat 1) rfl rfl ?_;refine Y1 rfl ?_;refine bindK h fun x1133 hx1133 h=> ?_;refine W.elem rfl (elemG hx1133) ?_;refine Zwp 3 rfl ?_;refine YT rfl rfl rfl h (fun _ h=> ?_) (fun _ h=> ?_)
     ·refine W.det (.row 900000 1 y1.length) _ rfl ?_;refine Zpp 1 rfl ?_;refine Y2 rfl rfl rfl ?_;refine W.chk rfl (by simpa using g1130) ?_;refine W.det (.rp 900000 1 s12.toNat 0) _ rfl ?_;refine Zu (.rp 900000 1 s12.toNat 3) rfl rfl rfl rfl ?_;refine Zu (.rp 900000 1 s12.toNat 3) rfl rfl rfl rfl ?_;refine Y2 rfl rfl rfl ?_;refine W.elem rfl (elemG hx1131) ?_;refine Zwp 1 rfl ?_;refine Zu (.row 900000 1 y1.length) rfl rfl rfl rfl ?_;refine Zpp 1 rfl ?_;refine Y2 rfl rfl rfl ?_;refine W.chk rfl (by simpa using g1132) ?_;refine W.det (.rp 900000 1 s21.toNat 0) _ rfl ?_;refine Zu (.rp 900000 1 s21.toNat 3) rfl rfl rfl rfl ?_;refine Zu (.rp 900000 1 s21.toNat 3) rfl rfl rfl rfl ?_;refine Y2 rfl rfl rfl ?_;refine W.elem rfl (elemG hx1133) ?_;refine Zwp 4 rfl ?_;refine YT rfl rfl rfl h (fun _ h=> ?_) (fun _ h=> ?_)
      ·refine W.det (.row 900000 1 y1.length) _ rfl ?_;refine Zpp 1 rfl ?_;refine Y2 rfl rfl rfl ?_;refine W.chk rfl (by simpa using g1130) ?_;refine W.det (.rp 900000 1 s12.toNat 0) _ rfl ?_;refine Zu (.rp 900000 1 s12.toNat 3) rfl rfl rfl rfl ?_;refine Zu (.rp 900000 1 s12.toNat 4) rfl rfl rfl rfl ?_;refine Y2 rfl rfl rfl ?_;refine W.elem rfl (elemG hx1131) ?_;refine Zwp 1 rfl ?_;refine Zu (.row 900000 1 y1.length) rfl rfl rfl rfl ?_;refine Zpp 1 rfl ?_;refine Y2 rfl rfl rfl ?_;refine W.chk rfl (by simpa using g1132) ?_;refine W.det (.rp 900000 1 s21.toNat 0) _ rfl ?_;refine Zu (.rp 900000 1 s21.toNat 3) rfl rfl rfl rfl ?_;refine Zu (.rp 900000 1 s21.toNat 4) rfl rfl rfl rfl ?_;refine Y2 rfl rfl rfl ?_;refine W.elem rfl (elemG hx1133) ?_;refine Zwc 5 rfl ?_;refine A.condB rfl h (fun _ h=> ?_) (fun _ h=> ?_)
       ·refine Zcb 8 rfl ?_;refine headK.r ?_;refine Zob 2 rfl ?_;refine headK.r ?_;refine headK.r ?_;refine Zob 1 rfl ?_;refine headK.r ?_;cases h;cases hG;exact ⟨rfl,trivial⟩
       ·refine Zcb 8 rfl ?_;cases h;exact Zh hG [] [(900000,(900000,1))] rfl rfl (Ze rfl rfl (Ze rfl rfl (Ze rfl rfl trivial))) (Zc rfl rfl trivial)
      ·refine Zpb 24 rfl ?_;cases h;exact Zh hG [] [(900000,(900000,1))] rfl rfl (Ze rfl rfl (Ze rfl rfl (Ze rfl rfl trivial))) (Zc rfl rfl trivial)
     ·refine Zpb 39 rfl ?_;cases h;exact Zh hG [] [(900000,(900000,1))] rfl rfl (Ze rfl rfl (Ze rfl rfl (Ze rfl rfl trivial))) (Zc rfl rfl trivial)
    ·refine Zcb 2 rfl ?_;refine headK.e ?_;refine Zob 2 rfl ?_;cases h;exact Zh hG [] [(900000,(900000,1))] rfl rfl (Ze rfl rfl (Ze rfl rfl trivial)) (Zc rfl rfl trivial)
   ·intro s20 r2 h hG;refine Zcb 5 rfl ?_;cases h;exact Zh hG [] [(900000,(900000,1))] rfl rfl (Ze rfl rfl (Ze rfl rfl trivial)) (Zc rfl rfl trivial)
  ·refine Zcb 2 rfl ?_;refine headK.e ?_;refine Zob 1 rfl ?_;cases h;exact Zh hG [] [] rfl rfl trivial trivial
 ·intro s11 r2 h hG;refine Zcb 6 rfl ?_;cases h;cases hG;exact ⟨rfl,trivial⟩
noncomputable def ref49_mark (in_:(List Bool)) (id_:Int) (by_:Int):Option ((List Bool)):=
 (bif (decide ((0:Int)≤id_)) then
  (bif (decide (id_ < by_)) then
   (chkO (decide (0≤id_) && decide (id_ < ((in_.length:Nat):Int)))).bind fun _=>
   (getI in_ id_).bind fun x2=>
   some (List.set in_ id_.toNat true)
  else
   some in_)
 else
  some in_)
theorem ref49_mark_fn {dr:Prop} {in_:(List Bool)} {id_:Int} {by_:Int} {r:(List Bool)} (h:ref49_mark in_ id_ by_=some r):FnW dr Tryz.prog 73 1 (List.map encB in_) [VI id_,VI by_] (.ow 1 (List.map encB r)):=by
 refine FnW1.of_AW (n:=in_.length) (dr:=dr) (F:=FnX dr Tryz.prog) (base:=0) (js:= []) mixed tok noeqs (fun _ _ _ h=> h) Tryz.call73 Tryz.func73 rfl Tryz.ntmps73 (by rw [Tryz.results73]) (by simp) (by simp) ?_;have hG:(fun x=> x=r) r:=rfl;unfold ref49_mark at h;refine Zap 5 rfl ?_;refine YT rfl rfl rfl h (fun _ h=> ?_) (fun _ h=> ?_)
 ·refine Zwc 6 rfl ?_;refine A.condB rfl h (fun _ h=> ?_) (fun _ h=> ?_)
  ·refine Zcp 1 rfl ?_;refine Zo (.row 1000001 1 in_.length) rfl rfl ?_;refine Zpp 1 rfl ?_;refine Y1 rfl ?_;refine chkK h fun g1 h=> ?_;refine W.chk rfl (by simpa using g1) ?_;refine W.det (.rp 1000001 1 id_.toNat 0) _ rfl ?_;refine Y1 rfl ?_;refine bindK h fun x2 hx2 h=> ?_;refine W.elem rfl (elemG hx2) ?_;refine W.set true rfl rfl ?_;refine Zpb 1 rfl ?_;cases h;cases hG;exact ⟨(Plain.map encB_plain _),rfl,rfl⟩
  ·refine Zcb 1 rfl ?_;cases h;cases hG;exact ⟨(Plain.map encB_plain _),rfl,rfl⟩
 ·refine Zpb 7 rfl ?_;cases h;cases hG;exact ⟨(Plain.map encB_plain _),rfl,rfl⟩
theorem ref49_mark_len {in_:(List Bool)} {id_:Int} {by_:Int} {r:(List Bool)} (h:ref49_mark in_ id_ by_=some r):r.length=in_.length:=by
 unfold ref49_mark at h
 rcases condE_ h with ⟨_,h⟩ | ⟨_,h⟩
 ·rcases condE_ h with ⟨_,h⟩ | ⟨_,h⟩
  ·obtain ⟨_,h⟩:=chkE_ h
   obtain ⟨_,_,h⟩:=bindE h
   cases h;exact List.length_set ..
  ·cases h
   rfl
 ·cases h
  rfl
noncomputable def ref49_Knows_L1 (x492:api_Event) (s42:(Int×(List Bool))) (s78:Int×(List Bool)):Option ((Int×(List Bool))⊕(((List Bool))⊕(((List Bool))⊕((Int×(List Bool))⊕(((List Bool))⊕((List Bool))))))):=
 (bif (decide (s78.1 < (x492.Causes.length:Int))) then
  (getI x492.Causes s78.1).bind fun x515=>
  (ref49_mark s78.2 x515 s42.1).bind fun y516=>
  some (.inl ((IntKind.i64.wrap (s78.1 + (1:Int))),y516))
 else
  some (.inr (.inl s78.2)))
noncomputable def ref49_Knows_L2 (s42:(Int×(List Bool))) (events_:(List api_Event)) (x492:api_Event) (s81:Int×Int):Option ((Int×Int)⊕((Int)⊕(((List Bool))⊕((Int×(List Bool))⊕(((List Bool))⊕((List Bool))))))):=
 (bif (decide (s81.2 < s42.1)) then
  (getI events_ s81.2).bind fun x530=>
  (bif (x530.Author==x492.Author) then
   some (.inl (s81.2,(IntKind.i64.wrap (s81.2 + (1:Int)))))
  else
   some (.inl (s81.1,(IntKind.i64.wrap (s81.2 + (1:Int))))))
 else
  some (.inr (.inl s81.1)))
noncomputable def ref49_Knows_L3 (events_:(List api_Event)) (s42:Int×(List Bool)):Option ((Int×(List Bool))⊕(((List Bool))⊕((List Bool)))):=
 (bif (decide ((0:Int)≤s42.1)) then
  (seqF (A:=(List Bool)) (
   (chkO (decide (0≤s42.1) && decide (s42.1 < ((s42.2.length:Nat):Int)))).bind fun _=>
   (getI s42.2 s42.1).bind fun x491=>
   (bif (!x491) then
    some (.inl s42.2)
   else
    (getI events_ s42.1).bind fun x492=>
    (seqF (A:=(List Bool)) (
     loopF (ref49_Knows_L1 x492 s42) ((0:Int),s42.2))
    fun s77=>
     (ref49_mark s77 x492.Target s42.1).bind fun y517=>
     (ref49_mark y517 x492.Quote s42.1).bind fun y518=>
     (seqF (A:=Int) (
      loopF (ref49_Knows_L2 s42 events_ x492) ((-1:Int),(0:Int)))
     fun s80=>
      (ref49_mark y518 s80 s42.1).bind fun y531=>
      some (.inl y531)))))
  fun s75=>
   some (.inl ((IntKind.i64.wrap (s42.1 - (1:Int))),s75)))
 else
  some (.inr (.inl s42.2)))
noncomputable def ref49_Knows (events_:(List api_Event)) (id_:Int):Option ((List Bool)):=
 (chkO (decide (0≤(events_.length:Int)) && decide ((events_.length:Int)≤1000000))).bind fun _=>
 (bif (decide (id_ < (0:Int))) then
  some (List.replicate (events_.length:Int).toNat false)
 else
  (bif (decide ((events_.length:Int)≤id_)) then
   some (List.replicate (events_.length:Int).toNat false)
  else
   (chkO (decide (0≤id_) && decide (id_ < (((List.replicate (events_.length:Int).toNat false).length:Nat):Int)))).bind fun _=>
   (getI (List.replicate (events_.length:Int).toNat false) id_).bind fun x3=>
   (seqF (A:=(List Bool)) (
    loopF (ref49_Knows_L3 events_) (id_,(List.set (List.replicate (events_.length:Int).toNat false) id_.toNat true)))
   fun s41=>
    some s41)))
theorem ref49_Knows_fn {dr:Prop} {events_:(List api_Event)} {id_:Int} {r:(List Bool)} (h:ref49_Knows events_ id_=some r):Fn dr Tryz.prog 23 [VF (List.map api_Event.enc events_),VI id_] (.ow 1 (List.map encB r)):=by
 refine Fn.of_AW (dr:=dr) (F:=FnX dr Tryz.prog) (base:=0) (js:= [7,14,22,23]) mixed tok noeqs (fun _ _ _ h=> h) Tryz.call23 Tryz.func23 rfl Tryz.ntmps23 (by rw [Tryz.results23]) (by simp) ?_;have hG:(fun x=> x=r) r:=rfl;unfold ref49_Knows at h;refine Zap 2 rfl ?_;refine Zm (.row 4 1 0) (Mem.add _ 4 (.rows 1 (List.map encB ([]:List Bool)) false)) rfl rfl ?_;refine Zpp 5 rfl ?_;refine Y1 rfl ?_;refine W.len rfl ?_;refine Y1 rfl ?_;refine chkK h fun g1 h=> ?_;refine W.chk rfl (by simpa using g1) ?_;refine W.rows (events_.length:Int).toNat (List.replicate (events_.length:Int).toNat false).length (List.replicate (events_.length:Int).toNat (encB false)) (List.map encB (List.replicate (events_.length:Int).toNat false)) rfl List.length_replicate.symm List.map_replicate.symm ?_;refine Zo (.row 13 1 (List.replicate (events_.length:Int).toNat false).length) rfl rfl ?_;refine Zpp 8 rfl ?_;refine YF rfl rfl rfl h (fun _ h=> ?_) (fun _ h=> ?_)
 ·refine Zpp 9 rfl ?_;refine Zo (.row 13 1 (List.replicate (events_.length:Int).toNat false).length) rfl rfl ?_;refine Zo (.row 13 1 (List.replicate (events_.length:Int).toNat false).length) rfl rfl ?_;refine Zpb 4 rfl ?_;cases h;cases hG;exact ⟨rfl,rfl,trivial⟩
 ·refine Zwp 2 rfl ?_;refine Y2 rfl rfl rfl ?_;refine W.len rfl ?_;refine Zpc 4 rfl ?_;refine A.condB rfl h (fun _ h=> ?_) (fun _ h=> ?_)
  ·refine Zcp 2 rfl ?_;refine Zo (.row 13 1 (List.replicate (events_.length:Int).toNat false).length) rfl rfl ?_;refine Zo (.row 13 1 (List.replicate (events_.length:Int).toNat false).length) rfl rfl ?_;refine Zpb 4 rfl ?_;cases h;cases hG;exact ⟨rfl,rfl,trivial⟩
  ·refine Zcp 4 rfl ?_;refine Zo (.row 13 1 (List.replicate (events_.length:Int).toNat false).length) rfl rfl ?_;refine Zpp 1 rfl ?_;refine Y1 rfl ?_;refine chkK h fun g2 h=> ?_;refine W.chk rfl (by simpa using g2) ?_;refine W.det (.rp 13 1 id_.toNat 0) _ rfl ?_;refine Y1 rfl ?_;refine bindK h fun x3 hx3 h=> ?_;refine W.elem rfl (elemG hx3) ?_;refine W.set true rfl rfl ?_;refine Zpc 2 rfl ?_;refine A.join (fun (s41:(List Bool))=> [(5,.row 900000 1 s41.length)]) (fun s41=> [(900000,.rows 1 (List.map encB s41) false)]) _ h hG rfl ?_ ?_
   ·intro J f h hG;refine Zac 7 rfl ?_;refine A.loop (fun (s42:Int×(List Bool))=> [(0,VF (List.map api_Event.enc events_)),(5,.row 900000 1 s42.2.length),(6,VI s42.1)]) (fun s42=> [(900000,.rows 1 (List.map encB s42.2) false)]) _ h hG (Zf [] [(900000,(13,1))] rfl rfl (Ze rfl rfl (chkE.c rfl (by simp only [List.length_set];rfl) (Ze rfl rfl trivial))) (Zc rfl rfl trivial)) ?_;intro J s42 f h hG;unfold ref49_Knows_L3 at h;refine Zac 7 rfl ?_;refine A.condB rfl h (fun _ h=> ?_) (fun _ h=> ?_)
    ·refine Zcc 2 rfl ?_;refine A.join (fun (s75:(List Bool))=> [(0,VF (List.map api_Event.enc events_)),(5,.row 900000 1 s75.length),(6,VI s42.1)]) (fun s75=> [(900000,.rows 1 (List.map encB s75) false)]) _ h hG rfl ?_ ?_
     ·intro J f h hG;refine Zap 4 rfl ?_;refine Zo (.row 900000 1 s42.2.length) rfl rfl ?_;refine Zpp 1 rfl ?_;refine Y1 rfl ?_;refine chkK h fun g490 h=> ?_;refine W.chk rfl (by simpa using g490) ?_;refine W.det (.rp 900000 1 s42.1.toNat 0) _ rfl ?_;refine Y1 rfl ?_;refine bindK h fun x491 hx491 h=> ?_;refine W.elem rfl (elemG hx491) ?_;refine Zwc 4 rfl ?_;refine A.condB rfl h (fun _ h=> ?_) (fun _ h=> ?_)
      ·refine Zcb 3 rfl ?_;cases h;exact Zh hG [] [(900000,(900000,1))] rfl rfl (Ze rfl rfl (Ze rfl rfl (Ze rfl rfl trivial))) (Zc rfl rfl trivial)
      ·refine Zcp 6 rfl ?_;refine Y1 rfl ?_;refine bindK h fun x492 hx492 h=> ?_;refine W.chk rfl (elemB hx492) ?_;refine W.elem rfl (elemG hx492) ?_;refine W.chk rfl rfl ?_;refine W.det (.fp [.v (.int .i64 x492.Author),.v (.int .i64 x492.Seq),.fz (List.map (encI .i64) x492.Causes),.v (.int .i64 x492.Kind),.v (.int .i64 x492.Group),.v (.int .i64 x492.Target),.v (.int .i64 x492.Quote),.v (.int .i64 x492.Who),.v (.int .i64 x492.N),.v (.string x492.Text),.fz (List.map (encI .i64) x492.Files),.v (.int .i64 x492.Step)]) _ rfl ?_;refine Zo (.agg (api_Event.av x492)) rfl rfl ?_;refine Zm (.lp 7 2 0) (Mem.add (Mem.add (Mem.add _ 196615 (.rows 1 (List.map (encI .i64) ([]:List Int)) false)) 720903 (.rows 1 (List.map (encI .i64) ([]:List Int)) false)) 7 (.box [VI 0,VI 0,.row 196615 2 0,VI 0,VI 0,VI 0,VI 0,VI 0,VI 0,VS (ByteArray.mk #[]),.row 720903 2 0,VI 0])) rfl rfl ?_;refine Zm (.tup []) (Mem.set _ 7 2 (some (.box (api_Event.av x492)))) rfl rfl ?_;refine Zpc 2 rfl ?_;refine A.join (fun (s77:(List Bool))=> [(0,VF (List.map api_Event.enc events_)),(5,.row 900000 1 s77.length),(6,VI s42.1),(7,.lp 900001 1 0)]) (fun s77=> [(900000,.rows 1 (List.map encB s77) false),(900001,.box (api_Event.av x492))]) _ h hG rfl ?_ ?_
       ·intro J f h hG;refine Zac 6 rfl ?_;refine A.loop (fun (s78:Int×(List Bool))=> [(0,VF (List.map api_Event.enc events_)),(5,.row 900000 1 s78.2.length),(6,VI s42.1),(7,.lp 900001 1 0),(8,VI s78.1)]) (fun s78=> [(900000,.rows 1 (List.map encB s78.2) false),(900001,.box (api_Event.av x492))]) _ h hG (Zf [] [(900000,(900000,1)),(900001,(7,2))] rfl rfl (Ze rfl rfl (Ze rfl rfl (Ze rfl rfl (Ze rfl rfl (Ze rfl rfl trivial))))) (Zc rfl rfl (Zc rfl rfl trivial))) ?_;intro J s78 f h hG;unfold ref49_Knows_L1 at h;refine Zap 6 rfl ?_;refine Y1 rfl ?_;refine W.len rfl ?_;refine Zpc 3 rfl ?_;refine A.condB rfl h (fun _ h=> ?_) (fun _ h=> ?_)
        ·refine Zcp 5 rfl ?_;refine Zo (.row 900000 1 s78.2.length) rfl rfl ?_;refine Zpp 3 rfl ?_;refine Y1 rfl ?_;refine bindK h fun x515 hx515 h=> ?_;refine W.chk rfl (elemB hx515) ?_;refine W.elem rfl (elemG hx515) ?_;refine W.chk rfl rfl ?_;refine W.det (.fp [.v (.int .i64 x515)]) _ rfl ?_;refine Zpp 2 rfl ?_;refine Y1 rfl ?_;refine bindK h fun y516 hy516 h=> ?_;refine W.call rfl (ref49_mark_fn hy516) ?_;refine W.chk rfl (by simp only [List.length_map];exact ref49_mark_len hy516) ?_;refine W.det (.tup []) (Mem.set _ 900000 1 (some (.rows 1 (List.map encB y516) false))) rfl ?_;refine Zpb 8 rfl ?_;cases h;exact Zh hG [] [(900000,(900000,1)),(900001,(900001,1))] rfl rfl (Ze rfl rfl (chkE.c rfl (by simp only [ref49_mark_len hy516];rfl) (Ze rfl rfl (Ze rfl rfl (Ze rfl rfl trivial))))) (Zc rfl rfl (Zc rfl rfl trivial))
        ·refine Zcb 2 rfl ?_;refine headK.e ?_;refine Zob 1 rfl ?_;cases h;exact Zh hG [] [(900000,(900000,1)),(900001,(900001,1))] rfl rfl (Ze rfl rfl (Ze rfl rfl (Ze rfl rfl (Ze rfl rfl trivial)))) (Zc rfl rfl (Zc rfl rfl trivial))
       ·intro s77 r2 h hG;refine Zcp 2 rfl ?_;refine Zo (.row 900000 1 s77.length) rfl rfl ?_;refine Zpp 3 rfl ?_;refine Y1 rfl ?_;refine bindK h fun y517 hy517 h=> ?_;refine W.call rfl (ref49_mark_fn hy517) ?_;refine W.chk rfl (by simp only [List.length_map];exact ref49_mark_len hy517) ?_;refine W.det (.tup []) (Mem.set _ 900000 1 (some (.rows 1 (List.map encB y517) false))) rfl ?_;refine Zpp 4 rfl ?_;refine Zo (.row 900000 1 s77.length) rfl rfl ?_;refine Zpp 3 rfl ?_;refine Y1 rfl ?_;refine bindK h fun y518 hy518 h=> ?_;refine W.call rfl (ref49_mark_fn hy518) ?_;refine W.chk rfl (by simp only [List.length_map];exact ref49_mark_len hy518) ?_;refine W.det (.tup []) (Mem.set _ 900000 1 (some (.rows 1 (List.map encB y518) false))) rfl ?_;refine Zpc 7 rfl ?_;refine A.join (fun (s80:Int)=> [(0,VF (List.map api_Event.enc events_)),(5,.row 900000 1 y518.length),(6,VI s42.1),(9,VI s80)]) (fun s80=> [(900000,.rows 1 (List.map encB y518) false)]) _ h hG rfl ?_ ?_
        ·intro J f h hG;refine Zac 6 rfl ?_;refine A.loop (fun (s81:Int×Int)=> [(0,VF (List.map api_Event.enc events_)),(5,.row 900000 1 y518.length),(6,VI s42.1),(7,.lp 900001 1 0),(9,VI s81.1),(10,VI s81.2)]) (fun s81=> [(900000,.rows 1 (List.map encB y518) false),(900001,.box (api_Event.av x492))]) _ h hG (Zf [] [(900000,(900000,1)),(900001,(900001,1))] rfl rfl (Ze rfl rfl (chkE.c rfl (by simp only [ref49_mark_len hy517,ref49_mark_len hy518];rfl) (Ze rfl rfl (Ze rfl rfl (Ze rfl rfl (Ze rfl rfl trivial)))))) (Zc rfl rfl (Zc rfl rfl trivial))) ?_;intro J s81 f h hG;unfold ref49_Knows_L2 at h;refine Zac 8 rfl ?_;refine A.condB rfl h (fun _ h=> ?_) (fun _ h=> ?_)
         ·refine Zcc 5 rfl ?_;refine A.regionD (by kernel_rfl) ?_;refine Zpp 2 rfl ?_;refine Y1 rfl ?_;refine bindK h fun x530 hx530 h=> ?_;refine W.chk rfl (elemB hx530) ?_;refine W.elem rfl (elemG hx530) ?_;refine W.chk rfl rfl ?_;refine W.det (.fp [.v (.int .i64 x530.Author),.v (.int .i64 x530.Seq),.fz (List.map (encI .i64) x530.Causes),.v (.int .i64 x530.Kind),.v (.int .i64 x530.Group),.v (.int .i64 x530.Target),.v (.int .i64 x530.Quote),.v (.int .i64 x530.Who),.v (.int .i64 x530.N),.v (.string x530.Text),.fz (List.map (encI .i64) x530.Files),.v (.int .i64 x530.Step)]) _ rfl ?_;refine Zo (.fp [.v (.int .i64 x530.Author),.v (.int .i64 x530.Seq),.fz (List.map (encI .i64) x530.Causes),.v (.int .i64 x530.Kind),.v (.int .i64 x530.Group),.v (.int .i64 x530.Target),.v (.int .i64 x530.Quote),.v (.int .i64 x530.Who),.v (.int .i64 x530.N),.v (.string x530.Text),.fz (List.map (encI .i64) x530.Files),.v (.int .i64 x530.Step)]) rfl rfl ?_;refine Zpc 6 rfl ?_;refine A.condB rfl h (fun _ h=> ?_) (fun _ h=> ?_)
          ·refine Zcb 11 rfl ?_;cases h;exact Zh hG [] [(900000,(900000,1)),(900001,(900001,1))] rfl rfl (Ze rfl rfl (Ze rfl rfl (Ze rfl rfl (Ze rfl rfl (Ze rfl rfl (Ze rfl rfl trivial)))))) (Zc rfl rfl (Zc rfl rfl trivial))
          ·refine Zcb 8 rfl ?_;cases h;exact Zh hG [] [(900000,(900000,1)),(900001,(900001,1))] rfl rfl (Ze rfl rfl (Ze rfl rfl (Ze rfl rfl (Ze rfl rfl (Ze rfl rfl (Ze rfl rfl trivial)))))) (Zc rfl rfl (Zc rfl rfl trivial))
         ·refine Zcb 2 rfl ?_;refine headK.e ?_;refine Zob 1 rfl ?_;cases h;exact Zh hG [] [(900000,(900000,1))] rfl rfl (Ze rfl rfl (Ze rfl rfl (Ze rfl rfl (Ze rfl rfl trivial)))) (Zc rfl rfl trivial)
        ·intro s80 r2 h hG;refine Zcp 1 rfl ?_;refine Zo (.row 900000 1 y518.length) rfl rfl ?_;refine Zpp 2 rfl ?_;refine Y1 rfl ?_;refine bindK h fun y531 hy531 h=> ?_;refine W.call rfl (ref49_mark_fn hy531) ?_;refine W.chk rfl (by simp only [List.length_map];exact ref49_mark_len hy531) ?_;refine W.det (.tup []) (Mem.set _ 900000 1 (some (.rows 1 (List.map encB y531) false))) rfl ?_;refine Zpb 2 rfl ?_;cases h;exact Zh hG [] [(900000,(900000,1))] rfl rfl (Ze rfl rfl (chkE.c rfl (by simp only [ref49_mark_len hy531];rfl) (Ze rfl rfl trivial))) (Zc rfl rfl trivial)
     ·intro s75 r2 h hG;refine Zcb 5 rfl ?_;cases h;exact Zh hG [] [(900000,(900000,1))] rfl rfl (Ze rfl rfl (Ze rfl rfl (Ze rfl rfl trivial))) (Zc rfl rfl trivial)
    ·refine Zcb 2 rfl ?_;refine headK.e ?_;refine Zob 1 rfl ?_;cases h;exact Zh hG [] [(900000,(900000,1))] rfl rfl (Ze rfl rfl trivial) (Zc rfl rfl trivial)
   ·intro s41 r2 h hG;refine Zcp 2 rfl ?_;refine Zo (.row 900000 1 s41.length) rfl rfl ?_;refine Zo (.row 900000 1 s41.length) rfl rfl ?_;refine Zpb 3 rfl ?_;cases h;cases hG;exact ⟨rfl,rfl,trivial⟩
noncomputable def ref49_Causal_L1 (s252:(Int)) (y1:(List api_Out)) (x5151:api_Out) (s273:Bool×Int):Option ((Bool×Int)⊕((Bool)⊕((Unit)⊕((Int)⊕((Unit)⊕((Int)⊕((Unit)⊕(Bool)))))))):=
 (bif (decide (s273.2 < s252)) then
  (bif s273.1 then
   (chkO (decide (0≤s273.2) && decide (s273.2 < ((y1.length:Nat):Int)))).bind fun _=>
   (getI y1 s273.2).bind fun x5214=>
   (chkO (decide (0≤s252) && decide (s252 < ((y1.length:Nat):Int)))).bind fun _=>
   (getI y1 s252).bind fun x5216=>
   (bif (x5214.Net !=x5216.Net) then
    some (.inl (true,(IntKind.i64.wrap (s273.2 + (1:Int)))))
   else
    some (.inl ((x5214.Item.Event !=x5151.Item.Event),(IntKind.i64.wrap (s273.2 + (1:Int))))))
  else
   some (.inl (false,(IntKind.i64.wrap (s273.2 + (1:Int))))))
 else
  some (.inr (.inl s273.1)))
noncomputable def ref49_Causal_L2 (y1:(List api_Out)) (s138:(Int)) (events_:(List api_Event)) (x4788:api_Out) (y4789:(List Bool)) (s252:Int):Option ((Int)⊕((Unit)⊕((Int)⊕((Unit)⊕(Bool))))):=
 (bif (decide (s252 < ((y1.length:Nat):Int))) then
  (seqF (A:=Unit) (
   (chkO (decide (0≤s252) && decide (s252 < ((y1.length:Nat):Int)))).bind fun _=>
   (getI y1 s252).bind fun x5151=>
   (chkO (decide (0≤s138) && decide (s138 < ((y1.length:Nat):Int)))).bind fun _=>
   (getI y1 s138).bind fun x5157=>
   (bif (x5151.Net !=x5157.Net) then
    some (.inl ())
   else
    (bif (decide (x5151.Item.Event < (0:Int))) then
     some (.inl ())
    else
     (bif (decide ((events_.length:Int)≤x5151.Item.Event)) then
      some (.inl ())
     else
      (bif (x5151.Item.Event==x4788.Item.Event) then
       some (.inl ())
      else
       (seqF (A:=Bool) (
        loopF (ref49_Causal_L1 s252 y1 x5151) (true,(0:Int)))
       fun s272=>
        (chkO (decide (0≤x5151.Item.Event) && decide (x5151.Item.Event < ((y4789.length:Nat):Int)))).bind fun _=>
        (getI y4789 x5151.Item.Event).bind fun x5221=>
        (bif x5221 then
         (bif s272 then
          some (.inr (.inr (.inr (.inr (.inr false)))))
         else
          some (.inl ()))
        else
         some (.inl ()))))))))
  fun s270=>
   some (.inl (IntKind.i64.wrap (s252 + (1:Int)))))
 else
  some (.inr (.inl ())))
noncomputable def ref49_Causal_L3 (y1:(List api_Out)) (events_:(List api_Event)) (s138:Int):Option ((Int)⊕((Unit)⊕(Bool))):=
 (bif (decide (s138 < ((y1.length:Nat):Int))) then
  (seqF (A:=Unit) (
   (chkO (decide (0≤s138) && decide (s138 < ((y1.length:Nat):Int)))).bind fun _=>
   (getI y1 s138).bind fun x4788=>
   (ref49_Knows events_ x4788.Item.Event).bind fun y4789=>
   loopF (ref49_Causal_L2 y1 s138 events_ x4788 y4789) (IntKind.i64.wrap (s138 + (1:Int))))
  fun s251=>
   some (.inl (IntKind.i64.wrap (s138 + (1:Int)))))
 else
  some (.inr (.inl ())))
noncomputable def ref49_Causal (events_:(List api_Event)) (outs_:(List (List api_Out))):Option (Bool):=
 (ref49_Items outs_).bind fun y1=>
 (seqF (A:=Unit) (
  loopF (ref49_Causal_L3 y1 events_) (0:Int))
 fun s137=>
  some true)
theorem ref49_Causal_fn {dr:Prop} {events_:(List api_Event)} {outs_:(List (List api_Out))} {r:Bool} (h:ref49_Causal events_ outs_=some r):Fn dr Tryz.prog 11 [VF (List.map api_Event.enc events_),VF (List.map (encL api_Out.enc) outs_)] (VB r):=by
 refine Fn.of_AW (dr:=dr) (F:=FnX dr Tryz.prog) (base:=0) (js:= [4,9,17,19]) mixed tok noeqs (fun _ _ _ h=> h) Tryz.call11 Tryz.func11 rfl Tryz.ntmps11 (by rw [Tryz.results11]) (by simp) ?_;have hG:(fun x=> x=r) r:=rfl;unfold ref49_Causal at h;refine Zap 8 rfl ?_;refine Y1 rfl ?_;refine bindK h fun y1 hy1 h=> ?_;refine W.call rfl (ref49_Items_fn hy1) ?_;refine W.v (.row 14 1 (List.map api_Out.enc y1).length) (.row 14 1 y1.length) (Mem.add _ 14 (.rows 14 (List.map api_Out.enc y1) false)) rfl (by simp only [List.length_map]) ?_;refine Zo (.row 14 1 y1.length) rfl rfl ?_;refine Zpc 2 rfl ?_;refine A.join (fun (s137:Unit)=> []) (fun s137=> []) _ h hG rfl ?_ ?_
 ·intro J f h hG;refine Zac 6 rfl ?_;refine A.loop (fun (s138:Int)=> [(0,VF (List.map api_Event.enc events_)),(5,.row 900000 1 y1.length),(6,VI s138)]) (fun s138=> [(900000,.rows 14 (List.map api_Out.enc y1) false)]) _ h hG (Zf [] [(900000,(14,1))] rfl rfl (Ze rfl rfl (Ze rfl rfl (Ze rfl rfl trivial))) (Zc rfl rfl trivial)) ?_;intro J s138 f h hG;unfold ref49_Causal_L3 at h;refine Zap 4 rfl ?_;refine Zo (.row 900000 1 y1.length) rfl rfl ?_;refine Zpc 4 rfl ?_;refine A.condB rfl h (fun _ h=> ?_) (fun _ h=> ?_)
  ·refine Zcc 2 rfl ?_;refine A.join (fun (s251:Unit)=> [(0,VF (List.map api_Event.enc events_)),(5,.row 900000 1 y1.length),(6,VI s138)]) (fun s251=> [(900000,.rows 14 (List.map api_Out.enc y1) false)]) _ h hG rfl ?_ ?_
   ·intro J f h hG;refine Zap 3 rfl ?_;refine Zo (.row 900000 1 y1.length) rfl rfl ?_;refine Zpp 1 rfl ?_;refine Y1 rfl ?_;refine chkK h fun g4787 h=> ?_;refine W.chk rfl (by simpa using g4787) ?_;refine W.det (.rp 900000 1 s138.toNat 0) _ rfl ?_;refine Zo (.rp 900000 1 s138.toNat 3) rfl rfl ?_;refine Zo (.rp 900000 1 s138.toNat 3) rfl rfl ?_;refine Y1 rfl ?_;refine bindK h fun x4788 hx4788 h=> ?_;refine W.elem rfl (elemG hx4788) ?_;refine Zwp 8 rfl ?_;refine Y1 rfl ?_;refine bindK h fun y4789 hy4789 h=> ?_;refine W.call rfl (ref49_Knows_fn hy4789) ?_;refine W.v (.row 29 2 (List.map encB y4789).length) (.row 29 2 y4789.length) (Mem.add _ 29 (.rows 1 (List.map encB y4789) false)) rfl (by simp only [List.length_map]) ?_;refine Zo (.row 29 2 y4789.length) rfl rfl ?_;refine Zpc 10 rfl ?_;refine A.loop (fun (s252:Int)=> [(0,VF (List.map api_Event.enc events_)),(5,.row 900000 1 y1.length),(6,VI s138),(7,VI x4788.Item.Event),(8,.row 900001 1 y4789.length),(9,VI s252)]) (fun s252=> [(900000,.rows 14 (List.map api_Out.enc y1) false),(900001,.rows 1 (List.map encB y4789) false)]) _ h hG (Zf [] [(900000,(900000,1)),(900001,(29,2))] rfl rfl (Ze rfl rfl (Ze rfl rfl (Ze rfl rfl (Ze rfl rfl (Ze rfl rfl (Ze rfl rfl trivial)))))) (Zc rfl rfl (Zc rfl rfl trivial))) ?_;intro J s252 f h hG;unfold ref49_Causal_L2 at h;refine Zap 4 rfl ?_;refine Zo (.row 900000 1 y1.length) rfl rfl ?_;refine Zpc 4 rfl ?_;refine A.condB rfl h (fun _ h=> ?_) (fun _ h=> ?_)
    ·refine Zcc 2 rfl ?_;refine A.join (fun (s270:Unit)=> [(0,VF (List.map api_Event.enc events_)),(5,.row 900000 1 y1.length),(6,VI s138),(7,VI x4788.Item.Event),(8,.row 900001 1 y4789.length),(9,VI s252)]) (fun s270=> [(900000,.rows 14 (List.map api_Out.enc y1) false),(900001,.rows 1 (List.map encB y4789) false)]) _ h hG rfl ?_ ?_
     ·intro J f h hG;refine Zap 3 rfl ?_;refine Zo (.row 900000 1 y1.length) rfl rfl ?_;refine Zpp 1 rfl ?_;refine Y1 rfl ?_;refine chkK h fun g5150 h=> ?_;refine W.chk rfl (by simpa using g5150) ?_;refine W.det (.rp 900000 1 s252.toNat 0) _ rfl ?_;refine Zo (.rp 900000 1 s252.toNat 3) rfl rfl ?_;refine Zo (.rp 900000 1 s252.toNat 3) rfl rfl ?_;refine Y1 rfl ?_;refine bindK h fun x5151 hx5151 h=> ?_;refine W.elem rfl (elemG hx5151) ?_;refine Zwc 6 rfl ?_;refine A.regionD (by kernel_rfl) ?_;refine Zo (.row 900000 1 y1.length) rfl rfl ?_;refine Zpp 1 rfl ?_;refine Y1 rfl ?_;refine W.chk rfl (by simpa using g5150) ?_;refine W.det (.rp 900000 1 s252.toNat 0) _ rfl ?_;refine Zo (.rp 900000 1 s252.toNat 1) rfl rfl ?_;refine Y1 rfl ?_;refine W.elem rfl (elemG hx5151) ?_;refine Zwp 1 rfl ?_;refine Zo (.row 900000 1 y1.length) rfl rfl ?_;refine Zpp 1 rfl ?_;refine Y1 rfl ?_;refine chkK h fun g5156 h=> ?_;refine W.chk rfl (by simpa using g5156) ?_;refine W.det (.rp 900000 1 s138.toNat 0) _ rfl ?_;refine Zo (.rp 900000 1 s138.toNat 1) rfl rfl ?_;refine Y1 rfl ?_;refine bindK h fun x5157 hx5157 h=> ?_;refine W.elem rfl (elemG hx5157) ?_;refine Zwp 3 rfl ?_;refine YF rfl rfl rfl h (fun _ h=> ?_) (fun _ h=> ?_)
      ·refine Zpb 19 rfl ?_;cases h;exact Zh hG [] [(900000,(900000,1)),(900001,(900001,1))] rfl rfl (Ze rfl rfl (Ze rfl rfl (Ze rfl rfl (Ze rfl rfl (Ze rfl rfl (Ze rfl rfl trivial)))))) (Zc rfl rfl (Zc rfl rfl trivial))
      ·refine Zwp 4 rfl ?_;refine YF rfl rfl rfl h (fun _ h=> ?_) (fun _ h=> ?_)
       ·refine Zpb 15 rfl ?_;cases h;exact Zh hG [] [(900000,(900000,1)),(900001,(900001,1))] rfl rfl (Ze rfl rfl (Ze rfl rfl (Ze rfl rfl (Ze rfl rfl (Ze rfl rfl (Ze rfl rfl trivial)))))) (Zc rfl rfl (Zc rfl rfl trivial))
       ·refine Zwp 2 rfl ?_;refine Y2 rfl rfl rfl ?_;refine W.len rfl ?_;refine Zpp 3 rfl ?_;refine YF rfl rfl rfl h (fun _ h=> ?_) (fun _ h=> ?_)
        ·refine Zpb 9 rfl ?_;cases h;exact Zh hG [] [(900000,(900000,1)),(900001,(900001,1))] rfl rfl (Ze rfl rfl (Ze rfl rfl (Ze rfl rfl (Ze rfl rfl (Ze rfl rfl (Ze rfl rfl trivial)))))) (Zc rfl rfl (Zc rfl rfl trivial))
        ·refine Zwc 6 rfl ?_;refine A.condB rfl h (fun _ h=> ?_) (fun _ h=> ?_)
         ·refine Zcb 3 rfl ?_;cases h;exact Zh hG [] [(900000,(900000,1)),(900001,(900001,1))] rfl rfl (Ze rfl rfl (Ze rfl rfl (Ze rfl rfl (Ze rfl rfl (Ze rfl rfl (Ze rfl rfl trivial)))))) (Zc rfl rfl (Zc rfl rfl trivial))
         ·refine Zcc 7 rfl ?_;refine A.join (fun (s272:Bool)=> [(0,VF (List.map api_Event.enc events_)),(5,.row 900000 1 y1.length),(6,VI s138),(7,VI x4788.Item.Event),(8,.row 900001 1 y4789.length),(9,VI s252),(10,VI x5151.Item.Event),(11,VB s272)]) (fun s272=> [(900000,.rows 14 (List.map api_Out.enc y1) false),(900001,.rows 1 (List.map encB y4789) false)]) _ h hG rfl ?_ ?_
          ·intro J f h hG;refine Zac 6 rfl ?_;refine A.loop (fun (s273:Bool×Int)=> [(0,VF (List.map api_Event.enc events_)),(5,.row 900000 1 y1.length),(6,VI s138),(7,VI x4788.Item.Event),(8,.row 900001 1 y4789.length),(9,VI s252),(10,VI x5151.Item.Event),(11,VB s273.1),(12,VI s273.2)]) (fun s273=> [(900000,.rows 14 (List.map api_Out.enc y1) false),(900001,.rows 1 (List.map encB y4789) false)]) _ h hG (Zf [] [(900000,(900000,1)),(900001,(900001,1))] rfl rfl (Ze rfl rfl (Ze rfl rfl (Ze rfl rfl (Ze rfl rfl (Ze rfl rfl (Ze rfl rfl (Ze rfl rfl (Ze rfl rfl (Ze rfl rfl trivial))))))))) (Zc rfl rfl (Zc rfl rfl trivial))) ?_;intro J s273 f h hG;unfold ref49_Causal_L1 at h;refine Zac 8 rfl ?_;refine A.condB rfl h (fun _ h=> ?_) (fun _ h=> ?_)
           ·refine Zcc 4 rfl ?_;refine A.regionD (by kernel_rfl) ?_;refine Zpp 2 rfl ?_;refine YT rfl rfl rfl h (fun _ h=> ?_) (fun _ h=> ?_)
            ·refine W.det (.row 900000 1 y1.length) _ rfl ?_;refine Zpp 1 rfl ?_;refine Y2 rfl rfl rfl ?_;refine chkK h fun g5213 h=> ?_;refine W.chk rfl (by simpa using g5213) ?_;refine W.det (.rp 900000 1 s273.2.toNat 0) _ rfl ?_;refine Zu (.rp 900000 1 s273.2.toNat 1) rfl rfl rfl rfl ?_;refine Y2 rfl rfl rfl ?_;refine bindK h fun x5214 hx5214 h=> ?_;refine W.elem rfl (elemG hx5214) ?_;refine Zwp 1 rfl ?_;refine Zu (.row 900000 1 y1.length) rfl rfl rfl rfl ?_;refine Zpp 1 rfl ?_;refine Y2 rfl rfl rfl ?_;refine chkK h fun g5215 h=> ?_;refine W.chk rfl (by simpa using g5215) ?_;refine W.det (.rp 900000 1 s252.toNat 0) _ rfl ?_;refine Zu (.rp 900000 1 s252.toNat 1) rfl rfl rfl rfl ?_;refine Y2 rfl rfl rfl ?_;refine bindK h fun x5216 hx5216 h=> ?_;refine W.elem rfl (elemG hx5216) ?_;refine Zwp 3 rfl ?_;refine YF rfl rfl rfl h (fun _ h=> ?_) (fun _ h=> ?_)
             ·refine Zpb 18 rfl ?_;cases h;exact Zh hG [] [(900000,(900000,1)),(900001,(900001,1))] rfl rfl (Ze rfl rfl (Ze rfl rfl (Ze rfl rfl (Ze rfl rfl (Ze rfl rfl (Ze rfl rfl (Ze rfl rfl (Ze rfl rfl (Ze rfl rfl trivial))))))))) (Zc rfl rfl (Zc rfl rfl trivial))
             ·refine W.det (.row 900000 1 y1.length) _ rfl ?_;refine Zpp 1 rfl ?_;refine Y2 rfl rfl rfl ?_;refine W.chk rfl (by simpa using g5213) ?_;refine W.det (.rp 900000 1 s273.2.toNat 0) _ rfl ?_;refine Zu (.rp 900000 1 s273.2.toNat 3) rfl rfl rfl rfl ?_;refine Zu (.rp 900000 1 s273.2.toNat 3) rfl rfl rfl rfl ?_;refine Y2 rfl rfl rfl ?_;refine W.elem rfl (elemG hx5214) ?_;refine Zwb 14 rfl ?_;cases h;exact Zh hG [] [(900000,(900000,1)),(900001,(900001,1))] rfl rfl (Ze rfl rfl (Ze rfl rfl (Ze rfl rfl (Ze rfl rfl (Ze rfl rfl (Ze rfl rfl (Ze rfl rfl (Ze rfl rfl (Ze rfl rfl trivial))))))))) (Zc rfl rfl (Zc rfl rfl trivial))
            ·refine Zpb 30 rfl ?_;cases h;exact Zh hG [] [(900000,(900000,1)),(900001,(900001,1))] rfl rfl (Ze rfl rfl (Ze rfl rfl (Ze rfl rfl (Ze rfl rfl (Ze rfl rfl (Ze rfl rfl (Ze rfl rfl (Ze rfl rfl (Ze rfl rfl trivial))))))))) (Zc rfl rfl (Zc rfl rfl trivial))
           ·refine Zcb 2 rfl ?_;refine headK.e ?_;refine Zob 1 rfl ?_;cases h;exact Zh hG [] [(900000,(900000,1)),(900001,(900001,1))] rfl rfl (Ze rfl rfl (Ze rfl rfl (Ze rfl rfl (Ze rfl rfl (Ze rfl rfl (Ze rfl rfl (Ze rfl rfl (Ze rfl rfl trivial)))))))) (Zc rfl rfl (Zc rfl rfl trivial))
          ·intro s272 r2 h hG;refine Zcp 2 rfl ?_;refine Zo (.row 900001 1 y4789.length) rfl rfl ?_;refine Zpp 1 rfl ?_;refine Y1 rfl ?_;refine chkK h fun g5220 h=> ?_;refine W.chk rfl (by simpa using g5220) ?_;refine W.det (.rp 900001 1 x5151.Item.Event.toNat 0) _ rfl ?_;refine Y1 rfl ?_;refine bindK h fun x5221 hx5221 h=> ?_;refine W.elem rfl (elemG hx5221) ?_;refine Zwp 2 rfl ?_;refine YT rfl rfl rfl h (fun _ h=> ?_) (fun _ h=> ?_)
           ·refine Zwc 4 rfl ?_;refine A.condB rfl h (fun _ h=> ?_) (fun _ h=> ?_)
            ·refine Zcb 7 rfl ?_;refine headK.r ?_;refine headK.r ?_;refine Zob 2 rfl ?_;refine headK.r ?_;refine headK.r ?_;refine Zob 1 rfl ?_;refine headK.r ?_;cases h;cases hG;exact ⟨rfl,trivial⟩
            ·refine Zcb 2 rfl ?_;cases h;exact Zh hG [] [(900000,(900000,1)),(900001,(900001,1))] rfl rfl (Ze rfl rfl (Ze rfl rfl (Ze rfl rfl (Ze rfl rfl (Ze rfl rfl (Ze rfl rfl trivial)))))) (Zc rfl rfl (Zc rfl rfl trivial))
           ·refine Zpb 6 rfl ?_;cases h;exact Zh hG [] [(900000,(900000,1)),(900001,(900001,1))] rfl rfl (Ze rfl rfl (Ze rfl rfl (Ze rfl rfl (Ze rfl rfl (Ze rfl rfl (Ze rfl rfl trivial)))))) (Zc rfl rfl (Zc rfl rfl trivial))
     ·intro s270 r2 h hG;refine Zcb 5 rfl ?_;cases h;exact Zh hG [] [(900000,(900000,1)),(900001,(900001,1))] rfl rfl (Ze rfl rfl (Ze rfl rfl (Ze rfl rfl (Ze rfl rfl (Ze rfl rfl (Ze rfl rfl trivial)))))) (Zc rfl rfl (Zc rfl rfl trivial))
    ·refine Zcb 2 rfl ?_;refine headK.e ?_;refine Zob 2 rfl ?_;cases h;exact Zh hG [] [(900000,(900000,1))] rfl rfl (Ze rfl rfl (Ze rfl rfl (Ze rfl rfl trivial))) (Zc rfl rfl trivial)
   ·intro s251 r2 h hG;refine Zcb 5 rfl ?_;cases h;exact Zh hG [] [(900000,(900000,1))] rfl rfl (Ze rfl rfl (Ze rfl rfl (Ze rfl rfl trivial))) (Zc rfl rfl trivial)
  ·refine Zcb 2 rfl ?_;refine headK.e ?_;refine Zob 1 rfl ?_;cases h;exact Zh hG [] [] rfl rfl trivial trivial
 ·intro s137 r2 h hG;refine Zcb 6 rfl ?_;cases h;cases hG;exact ⟨rfl,trivial⟩
noncomputable def ref48_in (n_:Int) (from_:Int) (to_:Int):Option (Bool):=
 (bif (decide (from_≤n_)) then
  some (decide (n_≤to_))
 else
  some false)
theorem ref48_in_fn {dr:Prop} {n_:Int} {from_:Int} {to_:Int} {r:Bool} (h:ref48_in n_ from_ to_=some r):Fn dr Tryz.prog 206 [VI n_,VI from_,VI to_] (VB r):=by
 refine Fn.of_AW (dr:=dr) (F:=FnX dr Tryz.prog) (base:=0) (js:= []) mixed tok noeqs (fun _ _ _ h=> h) Tryz.call206 Tryz.func206 rfl Tryz.ntmps206 (by rw [Tryz.results206]) (by simp) ?_;have hG:(fun x=> x=r) r:=rfl;unfold ref48_in at h;refine Zap 11 rfl ?_;refine YT rfl rfl rfl h (fun _ h=> ?_) (fun _ h=> ?_)
 ·refine Zwb 8 rfl ?_;cases h;cases hG;exact ⟨rfl,trivial⟩
 ·refine Zpb 7 rfl ?_;cases h;cases hG;exact ⟨rfl,trivial⟩
structure api_Raw where
 Account:Int
 Seq:Int
 Kind:Int
 Group:Int
 On:Int
 Quote:Int
 Who:Int
 N:Int
 Text:ByteArray
 Files:(List Int)
def api_Raw.enc (x:api_Raw):List D:= [.v (.int .i64 x.Account),.v (.int .i64 x.Seq),.v (.int .i64 x.Kind),.v (.int .i64 x.Group),.v (.int .i64 x.On),.v (.int .i64 x.Quote),.v (.int .i64 x.Who),.v (.int .i64 x.N),.v (.string x.Text),.fz (List.map (encI .i64) x.Files)]
abbrev api_Raw.av (x:api_Raw):List AV:= [VI x.Account,VI x.Seq,VI x.Kind,VI x.Group,VI x.On,VI x.Quote,VI x.Who,VI x.N,VS x.Text,VF (List.map (encI .i64) x.Files)]
structure api_Input where
 Kind:Int
 Net:Int
 Event:Int
 Local:Int
 N:Int
 Raw:api_Raw
 Note:api_Note
 Proof:api_Proof
 Verdict:api_Verdict
 Hold:api_Hold
 Order:api_Order
 Up:(List Bool)
def api_Input.enc (x:api_Input):List D:= [.v (.int .i64 x.Kind),.v (.int .i64 x.Net),.v (.int .i64 x.Event),.v (.int .i64 x.Local),.v (.int .i64 x.N),.v (.int .i64 x.Raw.Account),.v (.int .i64 x.Raw.Seq),.v (.int .i64 x.Raw.Kind),.v (.int .i64 x.Raw.Group),.v (.int .i64 x.Raw.On),.v (.int .i64 x.Raw.Quote),.v (.int .i64 x.Raw.Who),.v (.int .i64 x.Raw.N),.v (.string x.Raw.Text),.fz (List.map (encI .i64) x.Raw.Files),.v (.int .i64 x.Note.Message),.v (.int .i64 x.Note.Who),.v (.int .i64 x.Note.Level),.v (.int .i64 x.Note.Step),.v (.bool x.Note.Not),.v (.int .i64 x.Proof.Kind),.v (.int .i64 x.Proof.A),.v (.int .i64 x.Proof.B),.v (.int .i64 x.Verdict.Name),.v (.int .i64 x.Verdict.Step),.v (.bool x.Verdict.Bad),.v (.int .i64 x.Hold.Id),.v (.int .i64 x.Hold.Event),.v (.int .i64 x.Hold.From),.v (.int .i64 x.Hold.To),.v (.int .i64 x.Order.Kind),.v (.int .i64 x.Order.Event),.v (.int .i64 x.Order.By),.v (.int .i64 x.Order.Step),.fz (List.map encB x.Up)]
abbrev api_Input.av (x:api_Input):List AV:= [VI x.Kind,VI x.Net,VI x.Event,VI x.Local,VI x.N,VI x.Raw.Account,VI x.Raw.Seq,VI x.Raw.Kind,VI x.Raw.Group,VI x.Raw.On,VI x.Raw.Quote,VI x.Raw.Who,VI x.Raw.N,VS x.Raw.Text,VF (List.map (encI .i64) x.Raw.Files),VI x.Note.Message,VI x.Note.Who,VI x.Note.Level,VI x.Note.Step,VB x.Note.Not,VI x.Proof.Kind,VI x.Proof.A,VI x.Proof.B,VI x.Verdict.Name,VI x.Verdict.Step,VB x.Verdict.Bad,VI x.Hold.Id,VI x.Hold.Event,VI x.Hold.From,VI x.Hold.To,VI x.Order.Kind,VI x.Order.Event,VI x.Order.By,VI x.Order.Step,VF (List.map encB x.Up)]
noncomputable def ref48_own (x_:api_Input):Option (api_Input×Bool):=
 (ref48_in x_.Net (0:Int) (11:Int)).bind fun y1=>
 (ref48_in x_.Event (0:Int) (99999:Int)).bind fun y2=>
 (bif (x_.Kind==(0:Int)) then
  none
 else
  (bif (x_.Kind==(1:Int)) then
   none
  else
   (bif (x_.Kind==(2:Int)) then
    none
   else
    (bif (x_.Kind==(3:Int)) then
     none
    else
     (bif (x_.Kind==(4:Int)) then
      none
     else
      (bif (x_.Kind==(5:Int)) then
       none
      else
       (bif (x_.Kind==(6:Int)) then
        none
       else
        (bif (x_.Kind==(7:Int)) then
         none
        else
         (bif (x_.Kind==(8:Int)) then
          (bif y1 then
           some ((api_Input.mk x_.Kind x_.Net x_.Event (0:Int) (0:Int) (api_Raw.mk (0:Int) (0:Int) (0:Int) (0:Int) (0:Int) (0:Int) (0:Int) (0:Int) (ByteArray.mk #[]) ([]:List Int)) (api_Note.mk (0:Int) (0:Int) (0:Int) (0:Int) false) (api_Proof.mk (0:Int) (0:Int) (0:Int)) (api_Verdict.mk (0:Int) (0:Int) false) (api_Hold.mk (0:Int) (0:Int) (0:Int) (0:Int)) (api_Order.mk (0:Int) (0:Int) (0:Int) (0:Int)) ([]:List Bool)),y2)
          else
           some ((api_Input.mk x_.Kind x_.Net x_.Event (0:Int) (0:Int) (api_Raw.mk (0:Int) (0:Int) (0:Int) (0:Int) (0:Int) (0:Int) (0:Int) (0:Int) (ByteArray.mk #[]) ([]:List Int)) (api_Note.mk (0:Int) (0:Int) (0:Int) (0:Int) false) (api_Proof.mk (0:Int) (0:Int) (0:Int)) (api_Verdict.mk (0:Int) (0:Int) false) (api_Hold.mk (0:Int) (0:Int) (0:Int) (0:Int)) (api_Order.mk (0:Int) (0:Int) (0:Int) (0:Int)) ([]:List Bool)),false))
         else
          none)))))))))
theorem ref48_own_fn {dr:Prop} {x_:api_Input} {r:api_Input×Bool} (h:ref48_own x_=some r):Fn dr Tryz.prog 123 [.agg (api_Input.av x_)] (.tup [.agg (api_Input.av r.1),VB r.2]):=by
 refine Fn.of_AW (dr:=dr) (F:=FnX dr Tryz.prog) (base:=0) (js:= []) mixed tok noeqs (fun _ _ _ h=> h) Tryz.call123 Tryz.func123 rfl Tryz.ntmps123 (by rw [Tryz.results123]) (by simp) ?_;have hG:(fun x=> x=r) r:=rfl;unfold ref48_own at h;refine Zap 2 rfl ?_;refine Zm (.lp 1 1 0) (Mem.add _ 1 (.box (api_Input.av x_))) rfl rfl ?_;refine Zm (.lp 2 1 0) (Mem.add (Mem.add (Mem.add _ 983042 (.rows 1 (List.map (encI .i64) ([]:List Int)) false)) 2293762 (.rows 1 (List.map encB ([]:List Bool)) false)) 2 (.box [VI 0,VI 0,VI 0,VI 0,VI 0,VI 0,VI 0,VI 0,VI 0,VI 0,VI 0,VI 0,VI 0,VS (ByteArray.mk #[]),.row 983042 1 0,VI 0,VI 0,VI 0,VI 0,VB false,VI 0,VI 0,VI 0,VI 0,VI 0,VB false,VI 0,VI 0,VI 0,VI 0,VI 0,VI 0,VI 0,VI 0,.row 2293762 1 0])) rfl rfl ?_;refine Zpp 7 rfl ?_;refine Zo (.agg [VI x_.Kind,VI 0,VI 0,VI 0,VI 0,VI 0,VI 0,VI 0,VI 0,VI 0,VI 0,VI 0,VI 0,VS (ByteArray.mk #[]),.nl,VI 0,VI 0,VI 0,VI 0,VB false,VI 0,VI 0,VI 0,VI 0,VI 0,VB false,VI 0,VI 0,VI 0,VI 0,VI 0,VI 0,VI 0,VI 0,.nl]) rfl rfl ?_;refine Zm (.lp 4 1 0) (Mem.add (Mem.add (Mem.add _ 983044 (.rows 1 (List.map (encI .i64) ([]:List Int)) false)) 2293764 (.rows 1 (List.map encB ([]:List Bool)) false)) 4 (.box [VI 0,VI 0,VI 0,VI 0,VI 0,VI 0,VI 0,VI 0,VI 0,VI 0,VI 0,VI 0,VI 0,VS (ByteArray.mk #[]),.row 983044 1 0,VI 0,VI 0,VI 0,VI 0,VB false,VI 0,VI 0,VI 0,VI 0,VI 0,VB false,VI 0,VI 0,VI 0,VI 0,VI 0,VI 0,VI 0,VI 0,.row 2293764 1 0])) rfl rfl ?_;refine Zm (.tup []) (Mem.set (Mem.add (Mem.add _ 2031620 (.rows 1 (List.map (encI .i64) ([]:List Int)) false)) 3342340 (.rows 1 (List.map encB ([]:List Bool)) false)) 4 1 (some (.box [VI x_.Kind,VI 0,VI 0,VI 0,VI 0,VI 0,VI 0,VI 0,VI 0,VI 0,VI 0,VI 0,VI 0,VS (ByteArray.mk #[]),.row 2031620 1 0,VI 0,VI 0,VI 0,VI 0,VB false,VI 0,VI 0,VI 0,VI 0,VI 0,VB false,VI 0,VI 0,VI 0,VI 0,VI 0,VI 0,VI 0,VI 0,.row 3342340 1 0]))) rfl rfl ?_;refine Zpp 6 rfl ?_;refine Y1 rfl ?_;refine bindK h fun y1 hy1 h=> ?_;refine W.call rfl (ref48_in_fn hy1) ?_;refine Zwp 8 rfl ?_;refine Y1 rfl ?_;refine bindK h fun y2 hy2 h=> ?_;refine W.call rfl (ref48_in_fn hy2) ?_;refine Zwc 18 rfl ?_;refine A.condB rfl h (fun _ h=> ?_) (fun _ h=> ?_)
 ·cases h
 ·refine Zcc 6 rfl ?_;refine A.condB rfl h (fun _ h=> ?_) (fun _ h=> ?_)
  ·cases h
  ·refine Zcc 6 rfl ?_;refine A.condB rfl h (fun _ h=> ?_) (fun _ h=> ?_)
   ·cases h
   ·refine Zcc 6 rfl ?_;refine A.condB rfl h (fun _ h=> ?_) (fun _ h=> ?_)
    ·cases h
    ·refine Zcc 6 rfl ?_;refine A.condB rfl h (fun _ h=> ?_) (fun _ h=> ?_)
     ·cases h
     ·refine Zcc 6 rfl ?_;refine A.condB rfl h (fun _ h=> ?_) (fun _ h=> ?_)
      ·cases h
      ·refine Zcc 6 rfl ?_;refine A.condB rfl h (fun _ h=> ?_) (fun _ h=> ?_)
       ·cases h
       ·refine Zcc 6 rfl ?_;refine A.condB rfl h (fun _ h=> ?_) (fun _ h=> ?_)
        ·cases h
        ·refine Zcc 6 rfl ?_;refine A.condB rfl h (fun _ h=> ?_) (fun _ h=> ?_)
         ·refine Zcp 5 rfl ?_;refine Zm (.tup []) (Mem.set _ 4 1 (some (.box [VI x_.Kind,VI x_.Net,VI 0,VI 0,VI 0,VI 0,VI 0,VI 0,VI 0,VI 0,VI 0,VI 0,VI 0,VS (ByteArray.mk #[]),.row 2031620 1 0,VI 0,VI 0,VI 0,VI 0,VB false,VI 0,VI 0,VI 0,VI 0,VI 0,VB false,VI 0,VI 0,VI 0,VI 0,VI 0,VI 0,VI 0,VI 0,.row 3342340 1 0]))) rfl rfl ?_;refine Zpp 7 rfl ?_;refine Zm (.tup []) (Mem.set _ 4 1 (some (.box [VI x_.Kind,VI x_.Net,VI x_.Event,VI 0,VI 0,VI 0,VI 0,VI 0,VI 0,VI 0,VI 0,VI 0,VI 0,VS (ByteArray.mk #[]),.row 2031620 1 0,VI 0,VI 0,VI 0,VI 0,VB false,VI 0,VI 0,VI 0,VI 0,VI 0,VB false,VI 0,VI 0,VI 0,VI 0,VI 0,VI 0,VI 0,VI 0,.row 3342340 1 0]))) rfl rfl ?_;refine Zpp 4 rfl ?_;refine Zo (.agg [VI x_.Kind,VI x_.Net,VI x_.Event,VI 0,VI 0,VI 0,VI 0,VI 0,VI 0,VI 0,VI 0,VI 0,VI 0,VS (ByteArray.mk #[]),.row 2031620 1 0,VI 0,VI 0,VI 0,VI 0,VB false,VI 0,VI 0,VI 0,VI 0,VI 0,VB false,VI 0,VI 0,VI 0,VI 0,VI 0,VI 0,VI 0,VI 0,.row 3342340 1 0]) rfl rfl ?_;refine Zpp 2 rfl ?_;refine YT rfl rfl rfl h (fun _ h=> ?_) (fun _ h=> ?_)
          ·refine Zwp 2 rfl ?_;refine Zm (.tup []) (Mem.set _ 2 1 (some (.box [VI x_.Kind,VI x_.Net,VI x_.Event,VI 0,VI 0,VI 0,VI 0,VI 0,VI 0,VI 0,VI 0,VI 0,VI 0,VS (ByteArray.mk #[]),.row 2031620 1 0,VI 0,VI 0,VI 0,VI 0,VB false,VI 0,VI 0,VI 0,VI 0,VI 0,VB false,VI 0,VI 0,VI 0,VI 0,VI 0,VI 0,VI 0,VI 0,.row 3342340 1 0]))) rfl rfl ?_;refine Zpb 6 rfl ?_;cases h;cases hG;exact ⟨rfl,rfl,rfl,rfl,rfl,rfl,rfl,rfl,rfl,rfl,rfl,rfl,rfl,rfl,rfl,rfl,rfl,rfl,rfl,rfl,rfl,rfl,rfl,rfl,rfl,rfl,rfl,rfl,rfl,rfl,rfl,rfl,rfl,rfl,rfl,rfl,trivial⟩
          ·refine Zpp 1 rfl ?_;refine Zm (.tup []) (Mem.set _ 2 1 (some (.box [VI x_.Kind,VI x_.Net,VI x_.Event,VI 0,VI 0,VI 0,VI 0,VI 0,VI 0,VI 0,VI 0,VI 0,VI 0,VS (ByteArray.mk #[]),.row 2031620 1 0,VI 0,VI 0,VI 0,VI 0,VB false,VI 0,VI 0,VI 0,VI 0,VI 0,VB false,VI 0,VI 0,VI 0,VI 0,VI 0,VI 0,VI 0,VI 0,.row 3342340 1 0]))) rfl rfl ?_;refine Zpb 6 rfl ?_;cases h;cases hG;exact ⟨rfl,rfl,rfl,rfl,rfl,rfl,rfl,rfl,rfl,rfl,rfl,rfl,rfl,rfl,rfl,rfl,rfl,rfl,rfl,rfl,rfl,rfl,rfl,rfl,rfl,rfl,rfl,rfl,rfl,rfl,rfl,rfl,rfl,rfl,rfl,rfl,trivial⟩
         ·cases h
noncomputable def ref48_ints_L1 (a_:(List Int)) (b_:(List Int)) (s3:Int):Option ((Int)⊕((Unit)⊕(Bool))):=
 (bif (decide (s3 < (a_.length:Int))) then
  (getI a_ s3).bind fun x23=>
  (getI b_ s3).bind fun x24=>
  (bif (x23 !=x24) then
   some (.inr (.inr false))
  else
   some (.inl (IntKind.i64.wrap (s3 + (1:Int)))))
 else
  some (.inr (.inl ())))
noncomputable def ref48_ints (a_:(List Int)) (b_:(List Int)):Option (Bool):=
 (bif ((a_.length:Int) !=(b_.length:Int)) then
  some false
 else
  (seqF (A:=Unit) (
   loopF (ref48_ints_L1 a_ b_) (0:Int))
  fun s2=>
   some true))
theorem ref48_ints_fn {dr:Prop} {a_:(List Int)} {b_:(List Int)} {r:Bool} (h:ref48_ints a_ b_=some r):Fn dr Tryz.prog 208 [VF (List.map (encI .i64) a_),VF (List.map (encI .i64) b_)] (VB r):=by
 refine Fn.of_AW (dr:=dr) (F:=FnX dr Tryz.prog) (base:=0) (js:= [8]) mixed tok noeqs (fun _ _ _ h=> h) Tryz.call208 Tryz.func208 rfl Tryz.ntmps208 (by rw [Tryz.results208]) (by simp) ?_;have hG:(fun x=> x=r) r:=rfl;unfold ref48_ints at h;refine Zap 9 rfl ?_;refine Y1 rfl ?_;refine W.len rfl ?_;refine Zpp 1 rfl ?_;refine Y1 rfl ?_;refine W.len rfl ?_;refine Zpc 3 rfl ?_;refine A.condB rfl h (fun _ h=> ?_) (fun _ h=> ?_)
 ·refine Zcb 7 rfl ?_;cases h;cases hG;exact ⟨rfl,trivial⟩
 ·refine Zcc 2 rfl ?_;refine A.join (fun (s2:Unit)=> []) (fun s2=> []) _ h hG rfl ?_ ?_
  ·intro J f h hG;refine Zac 6 rfl ?_;refine A.loop (fun (s3:Int)=> [(0,VF (List.map (encI .i64) a_)),(1,VF (List.map (encI .i64) b_)),(5,VI s3)]) (fun s3=> []) _ h hG (Zf [] [] rfl rfl (Ze rfl rfl (Ze rfl rfl (Ze rfl rfl trivial))) trivial) ?_;intro J s3 f h hG;unfold ref48_ints_L1 at h;refine Zap 5 rfl ?_;refine Y1 rfl ?_;refine W.len rfl ?_;refine Zpc 3 rfl ?_;refine A.condB rfl h (fun _ h=> ?_) (fun _ h=> ?_)
   ·refine Zcc 5 rfl ?_;refine A.regionD (by kernel_rfl) ?_;refine Zpp 2 rfl ?_;refine Y1 rfl ?_;refine bindK h fun x23 hx23 h=> ?_;refine W.chk rfl (elemB hx23) ?_;refine W.elem rfl (elemG hx23) ?_;refine W.chk rfl rfl ?_;refine W.det (.fp [.v (.int .i64 x23)]) _ rfl ?_;refine Zpp 3 rfl ?_;refine Y1 rfl ?_;refine bindK h fun x24 hx24 h=> ?_;refine W.chk rfl (elemB hx24) ?_;refine W.elem rfl (elemG hx24) ?_;refine W.chk rfl rfl ?_;refine W.det (.fp [.v (.int .i64 x24)]) _ rfl ?_;refine Zpc 4 rfl ?_;refine A.condB rfl h (fun _ h=> ?_) (fun _ h=> ?_)
    ·refine Zcb 8 rfl ?_;refine headK.r ?_;refine Zob 1 rfl ?_;refine headK.r ?_;cases h;cases hG;exact ⟨rfl,trivial⟩
    ·refine Zcb 8 rfl ?_;cases h;exact Zh hG [] [] rfl rfl (Ze rfl rfl (Ze rfl rfl (Ze rfl rfl trivial))) trivial
   ·refine Zcb 2 rfl ?_;refine headK.e ?_;refine Zob 1 rfl ?_;cases h;exact Zh hG [] [] rfl rfl trivial trivial
  ·intro s2 r2 h hG;refine Zcb 6 rfl ?_;cases h;cases hG;exact ⟨rfl,trivial⟩
end Go.Proofs.YtiklglcjecopcaaGreatDoor

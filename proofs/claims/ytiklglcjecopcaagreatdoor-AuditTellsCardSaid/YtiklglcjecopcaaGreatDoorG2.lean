/-
  Plain programs of functions, and that the functions do what they say. Printed by wip/tools/gen.py.
-/
import Derived.Test.YtiklglcjecopcaaGreatDoorG1
namespace Go.Proofs.YtiklglcjecopcaaGreatDoor
open Go.RowKit
attribute [local irreducible] IntKind.wrap AW runL Step.wp
set_option linter.unusedVariables false
set_option maxHeartbeats 4000000
set_option maxRecDepth 100000
noncomputable def ref48_Same_L1 (a_:api_Input) (b_:api_Input) (s3:Int):Option ((Int)⊕((Unit)⊕(Bool))):=
 (bif (decide (s3 < (a_.Up.length:Int))) then
  (getI a_.Up s3).bind fun x27=>
  (getI b_.Up s3).bind fun x28=>
  (bif (!(x27==x28)) then
   some (.inr (.inr false))
  else
   some (.inl (IntKind.i64.wrap (s3 + (1:Int)))))
 else
  some (.inr (.inl ())))
noncomputable def ref48_Same (a_:api_Input) (b_:api_Input):Option (Bool):=
 (bif (a_.Raw.Account !=b_.Raw.Account) then
  some false
 else
  (bif (a_.Raw.Seq !=b_.Raw.Seq) then
   some false
  else
   (bif (a_.Raw.Kind !=b_.Raw.Kind) then
    some false
   else
    (bif (a_.Raw.Group !=b_.Raw.Group) then
     some false
    else
     (bif (a_.Raw.On !=b_.Raw.On) then
      some false
     else
      (bif (a_.Raw.Quote !=b_.Raw.Quote) then
       some false
      else
       (bif (a_.Raw.Who !=b_.Raw.Who) then
        some false
       else
        (bif (a_.Raw.N !=b_.Raw.N) then
         some false
        else
         (bif (!(a_.Raw.Text.toList==b_.Raw.Text.toList)) then
          some false
         else
          (ref48_ints a_.Raw.Files b_.Raw.Files).bind fun y4=>
          (bif (!y4) then
           some false
          else
           (bif ((a_.Up.length:Int) !=(b_.Up.length:Int)) then
            some false
           else
            (bif (a_.Kind !=b_.Kind) then
             some false
            else
             (bif (a_.Net !=b_.Net) then
              some false
             else
              (bif (a_.Event !=b_.Event) then
               some false
              else
               (bif (a_.Local !=b_.Local) then
                some false
               else
                (bif (a_.N !=b_.N) then
                 some false
                else
                 (seqF (A:=Unit) (
                  loopF (ref48_Same_L1 a_ b_) (0:Int))
                 fun s2=>
                  (bif ((a_.Note.Message==b_.Note.Message) && ((a_.Note.Who==b_.Note.Who) && ((a_.Note.Level==b_.Note.Level) && ((a_.Note.Step==b_.Note.Step) && ((a_.Note.Not==b_.Note.Not) && true))))) then
                   (bif ((a_.Proof.Kind==b_.Proof.Kind) && ((a_.Proof.A==b_.Proof.A) && ((a_.Proof.B==b_.Proof.B) && true))) then
                    (bif ((a_.Verdict.Name==b_.Verdict.Name) && ((a_.Verdict.Step==b_.Verdict.Step) && ((a_.Verdict.Bad==b_.Verdict.Bad) && true))) then
                     (bif ((a_.Hold.Id==b_.Hold.Id) && ((a_.Hold.Event==b_.Hold.Event) && ((a_.Hold.From==b_.Hold.From) && ((a_.Hold.To==b_.Hold.To) && true)))) then
                      some ((a_.Order.Kind==b_.Order.Kind) && ((a_.Order.Event==b_.Order.Event) && ((a_.Order.By==b_.Order.By) && ((a_.Order.Step==b_.Order.Step) && true))))
                     else
                      some false)
                    else
                     some false)
                   else
                    some false)
                  else
                   some false))))))))))))))))))
theorem ref48_Same_fn {dr:Prop} {a_:api_Input} {b_:api_Input} {r:Bool} (h:ref48_Same a_ b_=some r):Fn dr Tryz.prog 124 [.agg (api_Input.av a_),.agg (api_Input.av b_)] (VB r):=by
 refine Fn.of_AW (dr:=dr) (F:=FnX dr Tryz.prog) (base:=0) (js:= [12]) mixed tok noeqs (fun _ _ _ h=> h) Tryz.call124 Tryz.func124 rfl Tryz.ntmps124 (by rw [Tryz.results124]) (by simp) ?_;have hG:(fun x=> x=r) r:=rfl;unfold ref48_Same at h;refine Zap 2 rfl ?_;refine Zm (.lp 2 1 0) (Mem.add _ 2 (.box (api_Input.av a_))) rfl rfl ?_;refine Zm (.lp 3 1 0) (Mem.add _ 3 (.box (api_Input.av b_))) rfl rfl ?_;refine Zpp 6 rfl ?_;refine Zo (.agg (api_Raw.av a_.Raw)) rfl rfl ?_;refine Zm (.lp 5 1 0) (Mem.add (Mem.add _ 655365 (.rows 1 (List.map (encI .i64) ([]:List Int)) false)) 5 (.box [VI 0,VI 0,VI 0,VI 0,VI 0,VI 0,VI 0,VI 0,VS (ByteArray.mk #[]),.row 655365 1 0])) rfl rfl ?_;refine Zm (.tup []) (Mem.set _ 5 1 (some (.box (api_Raw.av a_.Raw)))) rfl rfl ?_;refine Zpp 5 rfl ?_;refine Zo (.agg (api_Raw.av b_.Raw)) rfl rfl ?_;refine Zm (.lp 6 1 0) (Mem.add (Mem.add _ 655366 (.rows 1 (List.map (encI .i64) ([]:List Int)) false)) 6 (.box [VI 0,VI 0,VI 0,VI 0,VI 0,VI 0,VI 0,VI 0,VS (ByteArray.mk #[]),.row 655366 1 0])) rfl rfl ?_;refine Zm (.tup []) (Mem.set _ 6 1 (some (.box (api_Raw.av b_.Raw)))) rfl rfl ?_;refine Zpp 11 rfl ?_;refine YF rfl rfl rfl h (fun _ h=> ?_) (fun _ h=> ?_)
 ·refine Zpb 72 rfl ?_;cases h;cases hG;exact ⟨rfl,trivial⟩
 ·refine Zwp 7 rfl ?_;refine YF rfl rfl rfl h (fun _ h=> ?_) (fun _ h=> ?_)
  ·refine Zpb 65 rfl ?_;cases h;cases hG;exact ⟨rfl,trivial⟩
  ·refine Zwp 7 rfl ?_;refine YF rfl rfl rfl h (fun _ h=> ?_) (fun _ h=> ?_)
   ·refine Zpb 58 rfl ?_;cases h;cases hG;exact ⟨rfl,trivial⟩
   ·refine Zwp 7 rfl ?_;refine YF rfl rfl rfl h (fun _ h=> ?_) (fun _ h=> ?_)
    ·refine Zpb 51 rfl ?_;cases h;cases hG;exact ⟨rfl,trivial⟩
    ·refine Zwp 7 rfl ?_;refine YF rfl rfl rfl h (fun _ h=> ?_) (fun _ h=> ?_)
     ·refine Zpb 44 rfl ?_;cases h;cases hG;exact ⟨rfl,trivial⟩
     ·refine Zwp 7 rfl ?_;refine YF rfl rfl rfl h (fun _ h=> ?_) (fun _ h=> ?_)
      ·refine Zpb 37 rfl ?_;cases h;cases hG;exact ⟨rfl,trivial⟩
      ·refine Zwp 7 rfl ?_;refine YF rfl rfl rfl h (fun _ h=> ?_) (fun _ h=> ?_)
       ·refine Zpb 30 rfl ?_;cases h;cases hG;exact ⟨rfl,trivial⟩
       ·refine Zwp 7 rfl ?_;refine YF rfl rfl rfl h (fun _ h=> ?_) (fun _ h=> ?_)
        ·refine Zpb 23 rfl ?_;cases h;cases hG;exact ⟨rfl,trivial⟩
        ·refine Zwp 7 rfl ?_;refine YF rfl rfl rfl h (fun _ h=> ?_) (fun _ h=> ?_)
         ·refine Zpb 16 rfl ?_;cases h;cases hG;exact ⟨rfl,trivial⟩
         ·refine Zwp 4 rfl ?_;refine Y2 rfl rfl rfl ?_;refine bindK h fun y4 hy4 h=> ?_;refine W.call rfl (ref48_ints_fn hy4) ?_;refine Zwc 5 rfl ?_;refine A.condB rfl h (fun _ h=> ?_) (fun _ h=> ?_)
          ·refine Zcb 7 rfl ?_;cases h;cases hG;exact ⟨rfl,trivial⟩
          ·refine Zcp 7 rfl ?_;refine Y1 rfl ?_;refine W.len rfl ?_;refine Zpp 2 rfl ?_;refine Y1 rfl ?_;refine W.len rfl ?_;refine Zpp 2 rfl ?_;refine YF rfl rfl rfl h (fun _ h=> ?_) (fun _ h=> ?_)
           ·refine Zpb 43 rfl ?_;cases h;cases hG;exact ⟨rfl,trivial⟩
           ·refine Zwp 7 rfl ?_;refine YF rfl rfl rfl h (fun _ h=> ?_) (fun _ h=> ?_)
            ·refine Zpb 36 rfl ?_;cases h;cases hG;exact ⟨rfl,trivial⟩
            ·refine Zwp 7 rfl ?_;refine YF rfl rfl rfl h (fun _ h=> ?_) (fun _ h=> ?_)
             ·refine Zpb 29 rfl ?_;cases h;cases hG;exact ⟨rfl,trivial⟩
             ·refine Zwp 7 rfl ?_;refine YF rfl rfl rfl h (fun _ h=> ?_) (fun _ h=> ?_)
              ·refine Zpb 22 rfl ?_;cases h;cases hG;exact ⟨rfl,trivial⟩
              ·refine Zwp 7 rfl ?_;refine YF rfl rfl rfl h (fun _ h=> ?_) (fun _ h=> ?_)
               ·refine Zpb 15 rfl ?_;cases h;cases hG;exact ⟨rfl,trivial⟩
               ·refine Zwc 8 rfl ?_;refine A.condB rfl h (fun _ h=> ?_) (fun _ h=> ?_)
                ·refine Zcb 7 rfl ?_;cases h;cases hG;exact ⟨rfl,trivial⟩
                ·refine Zcc 2 rfl ?_;refine A.join (fun (s2:Unit)=> [(2,.lp 900000 1 0),(3,.lp 900001 1 0)]) (fun s2=> [(900000,.box (api_Input.av a_)),(900001,.box (api_Input.av b_))]) _ h hG rfl ?_ ?_
                 ·intro J f h hG;refine Zac 6 rfl ?_;refine A.loop (fun (s3:Int)=> [(2,.lp 900000 1 0),(3,.lp 900001 1 0),(7,VI s3)]) (fun s3=> [(900000,.box (api_Input.av a_)),(900001,.box (api_Input.av b_))]) _ h hG (Zf [] [(900000,(2,1)),(900001,(3,1))] rfl rfl (Ze rfl rfl (Ze rfl rfl (Ze rfl rfl trivial))) (Zc rfl rfl (Zc rfl rfl trivial))) ?_;intro J s3 f h hG;unfold ref48_Same_L1 at h;refine Zap 6 rfl ?_;refine Y1 rfl ?_;refine W.len rfl ?_;refine Zpc 3 rfl ?_;refine A.condB rfl h (fun _ h=> ?_) (fun _ h=> ?_)
                  ·refine Zcc 5 rfl ?_;refine A.regionD (by kernel_rfl) ?_;refine Zpp 3 rfl ?_;refine Y1 rfl ?_;refine bindK h fun x27 hx27 h=> ?_;refine W.chk rfl (elemB hx27) ?_;refine W.elem rfl (elemG hx27) ?_;refine W.chk rfl rfl ?_;refine W.det (.fp [.v (.bool x27)]) _ rfl ?_;refine Zpp 4 rfl ?_;refine Y1 rfl ?_;refine bindK h fun x28 hx28 h=> ?_;refine W.chk rfl (elemB hx28) ?_;refine W.elem rfl (elemG hx28) ?_;refine W.chk rfl rfl ?_;refine W.det (.fp [.v (.bool x28)]) _ rfl ?_;refine Zpc 4 rfl ?_;refine A.condB rfl h (fun _ h=> ?_) (fun _ h=> ?_)
                   ·refine Zcb 8 rfl ?_;refine headK.r ?_;refine Zob 1 rfl ?_;refine headK.r ?_;cases h;cases hG;exact ⟨rfl,trivial⟩
                   ·refine Zcb 8 rfl ?_;cases h;exact Zh hG [] [(900000,(900000,1)),(900001,(900001,1))] rfl rfl (Ze rfl rfl (Ze rfl rfl (Ze rfl rfl trivial))) (Zc rfl rfl (Zc rfl rfl trivial))
                  ·refine Zcb 2 rfl ?_;refine headK.e ?_;refine Zob 1 rfl ?_;cases h;exact Zh hG [] [(900000,(900000,1)),(900001,(900001,1))] rfl rfl (Ze rfl rfl (Ze rfl rfl trivial)) (Zc rfl rfl (Zc rfl rfl trivial))
                 ·intro s2 r2 h hG;refine Zcp 3 rfl ?_;refine Zo (.agg (api_Note.av a_.Note)) rfl rfl ?_;refine Zpp 1 rfl ?_;refine Zo (.agg (api_Note.av b_.Note)) rfl rfl ?_;refine Zpp 2 rfl ?_;refine YT rfl rfl rfl h (fun _ h=> ?_) (fun _ h=> ?_)
                  ·refine Zwp 1 rfl ?_;refine Zu (.agg (api_Proof.av a_.Proof)) rfl rfl rfl rfl ?_;refine Zpp 1 rfl ?_;refine Zu (.agg (api_Proof.av b_.Proof)) rfl rfl rfl rfl ?_;refine Zpp 3 rfl ?_;refine YT rfl rfl rfl h (fun _ h=> ?_) (fun _ h=> ?_)
                   ·refine Zwp 1 rfl ?_;refine Zu (.agg (api_Verdict.av a_.Verdict)) rfl rfl rfl rfl ?_;refine Zpp 1 rfl ?_;refine Zu (.agg (api_Verdict.av b_.Verdict)) rfl rfl rfl rfl ?_;refine Zpp 3 rfl ?_;refine YT rfl rfl rfl h (fun _ h=> ?_) (fun _ h=> ?_)
                    ·refine Zwp 1 rfl ?_;refine Zu (.agg (api_Hold.av a_.Hold)) rfl rfl rfl rfl ?_;refine Zpp 1 rfl ?_;refine Zu (.agg (api_Hold.av b_.Hold)) rfl rfl rfl rfl ?_;refine Zpp 3 rfl ?_;refine YT rfl rfl rfl h (fun _ h=> ?_) (fun _ h=> ?_)
                     ·refine Zwp 1 rfl ?_;refine Zu (.agg (api_Order.av a_.Order)) rfl rfl rfl rfl ?_;refine Zpp 1 rfl ?_;refine Zu (.agg (api_Order.av b_.Order)) rfl rfl rfl rfl ?_;refine Zpb 6 rfl ?_;cases h;cases hG;exact ⟨rfl,trivial⟩
                     ·refine Zpb 9 rfl ?_;cases h;cases hG;exact ⟨rfl,trivial⟩
                    ·refine Zpb 16 rfl ?_;cases h;cases hG;exact ⟨rfl,trivial⟩
                   ·refine Zpb 23 rfl ?_;cases h;cases hG;exact ⟨rfl,trivial⟩
                  ·refine Zpb 30 rfl ?_;cases h;cases hG;exact ⟨rfl,trivial⟩
noncomputable def ref48_Right (x_:api_Input):Option (Bool):=
 (ref48_own (api_Input.mk x_.Kind x_.Net x_.Event x_.Local x_.N (api_Raw.mk x_.Raw.Account x_.Raw.Seq x_.Raw.Kind x_.Raw.Group x_.Raw.On x_.Raw.Quote x_.Raw.Who x_.Raw.N x_.Raw.Text x_.Raw.Files) (api_Note.mk x_.Note.Message x_.Note.Who x_.Note.Level x_.Note.Step x_.Note.Not) (api_Proof.mk x_.Proof.Kind x_.Proof.A x_.Proof.B) (api_Verdict.mk x_.Verdict.Name x_.Verdict.Step x_.Verdict.Bad) (api_Hold.mk x_.Hold.Id x_.Hold.Event x_.Hold.From x_.Hold.To) (api_Order.mk x_.Order.Kind x_.Order.Event x_.Order.By x_.Order.Step) x_.Up)).bind fun y1=>
 (bif y1.2 then
  (ref48_Same (api_Input.mk x_.Kind x_.Net x_.Event x_.Local x_.N (api_Raw.mk x_.Raw.Account x_.Raw.Seq x_.Raw.Kind x_.Raw.Group x_.Raw.On x_.Raw.Quote x_.Raw.Who x_.Raw.N x_.Raw.Text x_.Raw.Files) (api_Note.mk x_.Note.Message x_.Note.Who x_.Note.Level x_.Note.Step x_.Note.Not) (api_Proof.mk x_.Proof.Kind x_.Proof.A x_.Proof.B) (api_Verdict.mk x_.Verdict.Name x_.Verdict.Step x_.Verdict.Bad) (api_Hold.mk x_.Hold.Id x_.Hold.Event x_.Hold.From x_.Hold.To) (api_Order.mk x_.Order.Kind x_.Order.Event x_.Order.By x_.Order.Step) x_.Up) (api_Input.mk y1.1.Kind y1.1.Net y1.1.Event y1.1.Local y1.1.N (api_Raw.mk y1.1.Raw.Account y1.1.Raw.Seq y1.1.Raw.Kind y1.1.Raw.Group y1.1.Raw.On y1.1.Raw.Quote y1.1.Raw.Who y1.1.Raw.N y1.1.Raw.Text y1.1.Raw.Files) (api_Note.mk y1.1.Note.Message y1.1.Note.Who y1.1.Note.Level y1.1.Note.Step y1.1.Note.Not) (api_Proof.mk y1.1.Proof.Kind y1.1.Proof.A y1.1.Proof.B) (api_Verdict.mk y1.1.Verdict.Name y1.1.Verdict.Step y1.1.Verdict.Bad) (api_Hold.mk y1.1.Hold.Id y1.1.Hold.Event y1.1.Hold.From y1.1.Hold.To) (api_Order.mk y1.1.Order.Kind y1.1.Order.Event y1.1.Order.By y1.1.Order.Step) y1.1.Up)).bind fun y2=>
  some y2
 else
  some false)
theorem ref48_Right_fn {dr:Prop} {x_:api_Input} {r:Bool} (h:ref48_Right x_=some r):Fn dr Tryz.prog 80 [.agg (api_Input.av x_)] (VB r):=by
 refine Fn.of_AW (dr:=dr) (F:=FnX dr Tryz.prog) (base:=0) (js:= []) mixed tok noeqs (fun _ _ _ h=> h) Tryz.call80 Tryz.func80 rfl Tryz.ntmps80 (by rw [Tryz.results80]) (by simp) ?_;have hG:(fun x=> x=r) r:=rfl;unfold ref48_Right at h;refine Zap 2 rfl ?_;refine Zm (.lp 1 1 0) (Mem.add _ 1 (.box (api_Input.av x_))) rfl rfl ?_;refine Zpp 5 rfl ?_;refine Zo (.agg (api_Input.av x_)) rfl rfl ?_;refine Y1 rfl ?_;refine bindK h fun y1 hy1 h=> ?_;refine W.call rfl (ref48_own_fn hy1) ?_;refine W.det (.tup [.agg (api_Input.av y1.1),VB y1.2]) _ rfl ?_;refine Zo (.tup [.agg (api_Input.av y1.1),VB y1.2]) rfl rfl ?_;refine Zo (.agg (api_Input.av y1.1)) rfl rfl ?_;refine Zpp 1 rfl ?_;refine Zm (.lp 3 1 0) (Mem.add (Mem.add (Mem.add _ 983043 (.rows 1 (List.map (encI .i64) ([]:List Int)) false)) 2293763 (.rows 1 (List.map encB ([]:List Bool)) false)) 3 (.box [VI 0,VI 0,VI 0,VI 0,VI 0,VI 0,VI 0,VI 0,VI 0,VI 0,VI 0,VI 0,VI 0,VS (ByteArray.mk #[]),.row 983043 1 0,VI 0,VI 0,VI 0,VI 0,VB false,VI 0,VI 0,VI 0,VI 0,VI 0,VB false,VI 0,VI 0,VI 0,VI 0,VI 0,VI 0,VI 0,VI 0,.row 2293763 1 0])) rfl rfl ?_;refine Zm (.tup []) (Mem.set _ 3 1 (some (.box (api_Input.av y1.1)))) rfl rfl ?_;refine Zpp 7 rfl ?_;refine YT rfl rfl rfl h (fun _ h=> ?_) (fun _ h=> ?_)
 ·refine W.det (.agg (api_Input.av x_)) _ rfl ?_;refine Zu (.agg (api_Input.av y1.1)) rfl rfl rfl rfl ?_;refine Y2 rfl rfl rfl ?_;refine bindK h fun y2 hy2 h=> ?_;refine W.call rfl (ref48_Same_fn hy2) ?_;refine Zwb 6 rfl ?_;cases h;cases hG;exact ⟨rfl,trivial⟩
 ·refine Zpb 7 rfl ?_;cases h;cases hG;exact ⟨rfl,trivial⟩
noncomputable def ref49_due_L1 (outs_:(List (List api_Out))) (s12:(Int×Int)) (event_:Int) (net_:Int) (s21:Int×Int):Option ((Int×Int)⊕((Int)⊕((Int×Int)⊕((Int)⊕(Bool))))):=
 (getI outs_ s12.2).bind fun x142=>
 (bif (decide (s21.2 < (x142.length:Int))) then
  (getI x142 s21.2).bind fun x144=>
  (bif (x144.Kind==(2:Int)) then
   (bif (x144.Event==event_) then
    (bif (x144.Net==net_) then
     some (.inl (s12.2,(IntKind.i64.wrap (s21.2 + (1:Int)))))
    else
     some (.inl (s21.1,(IntKind.i64.wrap (s21.2 + (1:Int))))))
   else
    some (.inl (s21.1,(IntKind.i64.wrap (s21.2 + (1:Int))))))
  else
   some (.inl (s21.1,(IntKind.i64.wrap (s21.2 + (1:Int))))))
 else
  some (.inr (.inl s21.1)))
noncomputable def ref49_due_L2 (outs_:(List (List api_Out))) (event_:Int) (net_:Int) (s12:Int×Int):Option ((Int×Int)⊕((Int)⊕(Bool))):=
 (bif (decide (s12.2 < (outs_.length:Int))) then
  (seqF (A:=Int) (
   loopF (ref49_due_L1 outs_ s12 event_ net_) (s12.1,(0:Int)))
  fun s20=>
   some (.inl (s20,(IntKind.i64.wrap (s12.2 + (1:Int))))))
 else
  some (.inr (.inl s12.1)))
noncomputable def ref49_due_L3 (inputs_:(List api_Input)) (event_:Int) (net_:Int) (s24:Int):Option ((Int)⊕((Unit)⊕(Bool))):=
 (bif (decide (s24 < (inputs_.length:Int))) then
  (getI inputs_ s24).bind fun x178=>
  (bif (x178.Kind==(8:Int)) then
   (bif (x178.Event==event_) then
    (bif (x178.Net==net_) then
     (ref48_Right (api_Input.mk x178.Kind x178.Net x178.Event x178.Local x178.N (api_Raw.mk x178.Raw.Account x178.Raw.Seq x178.Raw.Kind x178.Raw.Group x178.Raw.On x178.Raw.Quote x178.Raw.Who x178.Raw.N x178.Raw.Text x178.Raw.Files) (api_Note.mk x178.Note.Message x178.Note.Who x178.Note.Level x178.Note.Step x178.Note.Not) (api_Proof.mk x178.Proof.Kind x178.Proof.A x178.Proof.B) (api_Verdict.mk x178.Verdict.Name x178.Verdict.Step x178.Verdict.Bad) (api_Hold.mk x178.Hold.Id x178.Hold.Event x178.Hold.From x178.Hold.To) (api_Order.mk x178.Order.Kind x178.Order.Event x178.Order.By x178.Order.Step) x178.Up)).bind fun y180=>
     (bif y180 then
      some (.inr (.inr false))
     else
      some (.inl (IntKind.i64.wrap (s24 + (1:Int)))))
    else
     some (.inl (IntKind.i64.wrap (s24 + (1:Int)))))
   else
    some (.inl (IntKind.i64.wrap (s24 + (1:Int)))))
  else
   some (.inl (IntKind.i64.wrap (s24 + (1:Int)))))
 else
  some (.inr (.inl ())))
noncomputable def ref49_due (inputs_:(List api_Input)) (outs_:(List (List api_Out))) (event_:Int) (net_:Int):Option (Bool):=
 (seqF (A:=Int) (
  loopF (ref49_due_L2 outs_ event_ net_) ((-1:Int),(0:Int)))
 fun s11=>
  (bif (decide (s11 < (0:Int))) then
   some false
  else
   (seqF (A:=Unit) (
    loopF (ref49_due_L3 inputs_ event_ net_) (IntKind.i64.wrap (s11 + (1:Int))))
   fun s23=>
    some true)))
theorem ref49_due_fn {dr:Prop} {inputs_:(List api_Input)} {outs_:(List (List api_Out))} {event_:Int} {net_:Int} {r:Bool} (h:ref49_due inputs_ outs_ event_ net_=some r):Fn dr Tryz.prog 31 [VF (List.map api_Input.enc inputs_),VF (List.map (encL api_Out.enc) outs_),VI event_,VI net_] (VB r):=by
 refine Fn.of_AW (dr:=dr) (F:=FnX dr Tryz.prog) (base:=0) (js:= [4,11,19]) mixed tok noeqs (fun _ _ _ h=> h) Tryz.call31 Tryz.func31 rfl Tryz.ntmps31 (by rw [Tryz.results31]) (by simp) ?_;have hG:(fun x=> x=r) r:=rfl;unfold ref49_due at h;refine Zac 10 rfl ?_;refine A.join (fun (s11:Int)=> [(0,VF (List.map api_Input.enc inputs_)),(2,VI event_),(3,VI net_),(9,VI s11)]) (fun s11=> []) _ h hG rfl ?_ ?_
 ·intro J f h hG;refine Zac 6 rfl ?_;refine A.loop (fun (s12:Int×Int)=> [(0,VF (List.map api_Input.enc inputs_)),(1,VF (List.map (encL api_Out.enc) outs_)),(2,VI event_),(3,VI net_),(9,VI s12.1),(10,VI s12.2)]) (fun s12=> []) _ h hG (Zf [] [] rfl rfl (Ze rfl rfl (Ze rfl rfl (Ze rfl rfl (Ze rfl rfl (Ze rfl rfl (Ze rfl rfl trivial)))))) trivial) ?_;intro J s12 f h hG;unfold ref49_due_L2 at h;refine Zap 5 rfl ?_;refine Y1 rfl ?_;refine W.len rfl ?_;refine Zpc 3 rfl ?_;refine A.condB rfl h (fun _ h=> ?_) (fun _ h=> ?_)
  ·refine Zcc 2 rfl ?_;refine A.join (fun (s20:Int)=> [(0,VF (List.map api_Input.enc inputs_)),(1,VF (List.map (encL api_Out.enc) outs_)),(2,VI event_),(3,VI net_),(9,VI s20),(10,VI s12.2)]) (fun s20=> []) _ h hG rfl ?_ ?_
   ·intro J f h hG;refine Zac 7 rfl ?_;refine A.loop (fun (s21:Int×Int)=> [(0,VF (List.map api_Input.enc inputs_)),(1,VF (List.map (encL api_Out.enc) outs_)),(2,VI event_),(3,VI net_),(9,VI s21.1),(10,VI s12.2),(11,VI s21.2)]) (fun s21=> []) _ h hG (Zf [] [] rfl rfl (Ze rfl rfl (Ze rfl rfl (Ze rfl rfl (Ze rfl rfl (Ze rfl rfl (Ze rfl rfl (Ze rfl rfl trivial))))))) trivial) ?_;intro J s21 f h hG;unfold ref49_due_L1 at h;refine Zap 6 rfl ?_;refine Y1 rfl ?_;refine bindK h fun x142 hx142 h=> ?_;refine W.chk rfl (elemB hx142) ?_;refine W.elem rfl (elemG hx142) ?_;refine W.chk rfl rfl ?_;refine W.det (.fp [.fz (List.map api_Out.enc x142)]) _ rfl ?_;refine Zpp 1 rfl ?_;refine Y1 rfl ?_;refine W.len rfl ?_;refine Zpc 3 rfl ?_;refine A.condB rfl h (fun _ h=> ?_) (fun _ h=> ?_)
    ·refine Zcp 8 rfl ?_;refine Y1 rfl ?_;refine W.chk rfl (elemB hx142) ?_;refine W.elem rfl (elemG hx142) ?_;refine W.chk rfl rfl ?_;refine W.det (.fp [.fz (List.map api_Out.enc x142)]) _ rfl ?_;refine Zpp 2 rfl ?_;refine Y1 rfl ?_;refine bindK h fun x144 hx144 h=> ?_;refine W.chk rfl (elemB hx144) ?_;refine W.elem rfl (elemG hx144) ?_;refine W.chk rfl rfl ?_;refine W.det (.fp [.v (.int .i64 x144.Kind),.v (.int .i64 x144.Net),.v (.int .i64 x144.Event),.v (.int .i64 x144.Item.Event),.v (.int .i64 x144.Item.Part),.v (.int .i64 x144.Item.Of),.v (.int .i64 x144.Item.Kind),.v (.int .i64 x144.Item.On),.v (.int .i64 x144.Item.OnPart),.v (.int .i64 x144.Item.Quote),.v (.int .i64 x144.Item.Who),.v (.int .i64 x144.Item.N),.v (.string x144.Item.Text),.fz (List.map (encI .i64) x144.Item.Files)]) _ rfl ?_;refine Zo (.agg (api_Out.av x144)) rfl rfl ?_;refine Zm (.lp 12 2 0) (Mem.add (Mem.add _ 917516 (.rows 1 (List.map (encI .i64) ([]:List Int)) false)) 12 (.box [VI 0,VI 0,VI 0,VI 0,VI 0,VI 0,VI 0,VI 0,VI 0,VI 0,VI 0,VI 0,VS (ByteArray.mk #[]),.row 917516 2 0])) rfl rfl ?_;refine Zm (.tup []) (Mem.set _ 12 2 (some (.box (api_Out.av x144)))) rfl rfl ?_;refine Zpp 8 rfl ?_;refine YT rfl rfl rfl h (fun _ h=> ?_) (fun _ h=> ?_)
     ·refine Zwp 6 rfl ?_;refine YT rfl rfl rfl h (fun _ h=> ?_) (fun _ h=> ?_)
      ·refine Zwc 7 rfl ?_;refine A.condB rfl h (fun _ h=> ?_) (fun _ h=> ?_)
       ·refine Zcb 11 rfl ?_;cases h;exact Zh hG [] [] rfl rfl (Ze rfl rfl (Ze rfl rfl (Ze rfl rfl (Ze rfl rfl (Ze rfl rfl (Ze rfl rfl (Ze rfl rfl trivial))))))) trivial
       ·refine Zcb 8 rfl ?_;cases h;exact Zh hG [] [] rfl rfl (Ze rfl rfl (Ze rfl rfl (Ze rfl rfl (Ze rfl rfl (Ze rfl rfl (Ze rfl rfl (Ze rfl rfl trivial))))))) trivial
      ·refine Zpb 15 rfl ?_;cases h;exact Zh hG [] [] rfl rfl (Ze rfl rfl (Ze rfl rfl (Ze rfl rfl (Ze rfl rfl (Ze rfl rfl (Ze rfl rfl (Ze rfl rfl trivial))))))) trivial
     ·refine Zpb 21 rfl ?_;cases h;exact Zh hG [] [] rfl rfl (Ze rfl rfl (Ze rfl rfl (Ze rfl rfl (Ze rfl rfl (Ze rfl rfl (Ze rfl rfl (Ze rfl rfl trivial))))))) trivial
    ·refine Zcb 2 rfl ?_;refine headK.e ?_;refine Zob 2 rfl ?_;cases h;exact Zh hG [] [] rfl rfl (Ze rfl rfl (Ze rfl rfl (Ze rfl rfl (Ze rfl rfl (Ze rfl rfl (Ze rfl rfl trivial)))))) trivial
   ·intro s20 r2 h hG;refine Zcb 5 rfl ?_;cases h;exact Zh hG [] [] rfl rfl (Ze rfl rfl (Ze rfl rfl (Ze rfl rfl (Ze rfl rfl (Ze rfl rfl (Ze rfl rfl trivial)))))) trivial
  ·refine Zcb 2 rfl ?_;refine headK.e ?_;refine Zob 1 rfl ?_;cases h;exact Zh hG [] [] rfl rfl (Ze rfl rfl (Ze rfl rfl (Ze rfl rfl (Ze rfl rfl trivial)))) trivial
 ·intro s11 r2 h hG;refine Zcc 7 rfl ?_;refine A.condB rfl h (fun _ h=> ?_) (fun _ h=> ?_)
  ·refine Zcb 7 rfl ?_;cases h;cases hG;exact ⟨rfl,trivial⟩
  ·refine Zcc 2 rfl ?_;refine A.join (fun (s23:Unit)=> []) (fun s23=> []) _ h hG rfl ?_ ?_
   ·intro J f h hG;refine Zac 8 rfl ?_;refine A.loop (fun (s24:Int)=> [(0,VF (List.map api_Input.enc inputs_)),(2,VI event_),(3,VI net_),(13,VI s24)]) (fun s24=> []) _ h hG (Zf [] [] rfl rfl (Ze rfl rfl (Ze rfl rfl (Ze rfl rfl (Ze rfl rfl trivial)))) trivial) ?_;intro J s24 f h hG;unfold ref49_due_L3 at h;refine Zap 5 rfl ?_;refine Y1 rfl ?_;refine W.len rfl ?_;refine Zpc 3 rfl ?_;refine A.condB rfl h (fun _ h=> ?_) (fun _ h=> ?_)
    ·refine Zcp 8 rfl ?_;refine Y1 rfl ?_;refine bindK h fun x178 hx178 h=> ?_;refine W.chk rfl (elemB hx178) ?_;refine W.elem rfl (elemG hx178) ?_;refine W.chk rfl rfl ?_;refine W.det (.fp [.v (.int .i64 x178.Kind),.v (.int .i64 x178.Net),.v (.int .i64 x178.Event),.v (.int .i64 x178.Local),.v (.int .i64 x178.N),.v (.int .i64 x178.Raw.Account),.v (.int .i64 x178.Raw.Seq),.v (.int .i64 x178.Raw.Kind),.v (.int .i64 x178.Raw.Group),.v (.int .i64 x178.Raw.On),.v (.int .i64 x178.Raw.Quote),.v (.int .i64 x178.Raw.Who),.v (.int .i64 x178.Raw.N),.v (.string x178.Raw.Text),.fz (List.map (encI .i64) x178.Raw.Files),.v (.int .i64 x178.Note.Message),.v (.int .i64 x178.Note.Who),.v (.int .i64 x178.Note.Level),.v (.int .i64 x178.Note.Step),.v (.bool x178.Note.Not),.v (.int .i64 x178.Proof.Kind),.v (.int .i64 x178.Proof.A),.v (.int .i64 x178.Proof.B),.v (.int .i64 x178.Verdict.Name),.v (.int .i64 x178.Verdict.Step),.v (.bool x178.Verdict.Bad),.v (.int .i64 x178.Hold.Id),.v (.int .i64 x178.Hold.Event),.v (.int .i64 x178.Hold.From),.v (.int .i64 x178.Hold.To),.v (.int .i64 x178.Order.Kind),.v (.int .i64 x178.Order.Event),.v (.int .i64 x178.Order.By),.v (.int .i64 x178.Order.Step),.fz (List.map encB x178.Up)]) _ rfl ?_;refine Zo (.agg (api_Input.av x178)) rfl rfl ?_;refine Zm (.lp 14 2 0) (Mem.add (Mem.add (Mem.add _ 983054 (.rows 1 (List.map (encI .i64) ([]:List Int)) false)) 2293774 (.rows 1 (List.map encB ([]:List Bool)) false)) 14 (.box [VI 0,VI 0,VI 0,VI 0,VI 0,VI 0,VI 0,VI 0,VI 0,VI 0,VI 0,VI 0,VI 0,VS (ByteArray.mk #[]),.row 983054 2 0,VI 0,VI 0,VI 0,VI 0,VB false,VI 0,VI 0,VI 0,VI 0,VI 0,VB false,VI 0,VI 0,VI 0,VI 0,VI 0,VI 0,VI 0,VI 0,.row 2293774 2 0])) rfl rfl ?_;refine Zm (.tup []) (Mem.set _ 14 2 (some (.box (api_Input.av x178)))) rfl rfl ?_;refine Zpp 8 rfl ?_;refine YT rfl rfl rfl h (fun _ h=> ?_) (fun _ h=> ?_)
     ·refine Zwp 6 rfl ?_;refine YT rfl rfl rfl h (fun _ h=> ?_) (fun _ h=> ?_)
      ·refine Zwp 6 rfl ?_;refine YT rfl rfl rfl h (fun _ h=> ?_) (fun _ h=> ?_)
       ·refine W.det (.agg (api_Input.av x178)) _ rfl ?_;refine Y2 rfl rfl rfl ?_;refine bindK h fun y180 hy180 h=> ?_;refine W.call rfl (ref48_Right_fn hy180) ?_;refine Zwc 4 rfl ?_;refine A.condB rfl h (fun _ h=> ?_) (fun _ h=> ?_)
        ·refine Zcb 8 rfl ?_;refine headK.r ?_;refine Zob 1 rfl ?_;refine headK.r ?_;cases h;cases hG;exact ⟨rfl,trivial⟩
        ·refine Zcb 8 rfl ?_;cases h;exact Zh hG [] [] rfl rfl (Ze rfl rfl (Ze rfl rfl (Ze rfl rfl (Ze rfl rfl trivial)))) trivial
       ·refine Zpb 13 rfl ?_;cases h;exact Zh hG [] [] rfl rfl (Ze rfl rfl (Ze rfl rfl (Ze rfl rfl (Ze rfl rfl trivial)))) trivial
      ·refine Zpb 19 rfl ?_;cases h;exact Zh hG [] [] rfl rfl (Ze rfl rfl (Ze rfl rfl (Ze rfl rfl (Ze rfl rfl trivial)))) trivial
     ·refine Zpb 25 rfl ?_;cases h;exact Zh hG [] [] rfl rfl (Ze rfl rfl (Ze rfl rfl (Ze rfl rfl (Ze rfl rfl trivial)))) trivial
    ·refine Zcb 2 rfl ?_;refine headK.e ?_;refine Zob 1 rfl ?_;cases h;exact Zh hG [] [] rfl rfl trivial trivial
   ·intro s23 r2 h hG;refine Zcb 6 rfl ?_;cases h;cases hG;exact ⟨rfl,trivial⟩
noncomputable def ref49_Debts_L1 (debts_:(List api_Debt)) (inputs_:(List api_Input)) (outs_:(List (List api_Out))) (s3:Int):Option ((Int)⊕((Unit)⊕(Bool))):=
 (bif (decide (s3 < (debts_.length:Int))) then
  (getI debts_ s3).bind fun x70=>
  (ref49_due inputs_ outs_ x70.Event x70.Net).bind fun y71=>
  (bif (!y71) then
   some (.inr (.inr false))
  else
   (bif (decide ((0:Int) < s3)) then
    (getI debts_ (IntKind.i64.wrap (s3 - (1:Int)))).bind fun x72=>
    (bif (decide (x70.Event < x72.Event)) then
     some (.inr (.inr false))
    else
     (bif (x72.Event==x70.Event) then
      (bif (decide (x70.Net≤x72.Net)) then
       some (.inr (.inr false))
      else
       some (.inl (IntKind.i64.wrap (s3 + (1:Int)))))
     else
      some (.inl (IntKind.i64.wrap (s3 + (1:Int))))))
   else
    some (.inl (IntKind.i64.wrap (s3 + (1:Int))))))
 else
  some (.inr (.inl ())))
noncomputable def ref49_Debts_L2 (debts_:(List api_Debt)) (x1210:api_Out) (s276:Bool×Int):Option ((Bool×Int)⊕((Bool)⊕((Unit)⊕((Int)⊕((Unit)⊕((Int)⊕((Unit)⊕(Bool)))))))):=
 (bif (decide (s276.2 < (debts_.length:Int))) then
  (bif s276.1 then
   some (.inl (true,(IntKind.i64.wrap (s276.2 + (1:Int)))))
  else
   (getI debts_ s276.2).bind fun x1222=>
   (bif (x1222.Event==x1210.Event) then
    some (.inl ((x1222.Net==x1210.Net),(IntKind.i64.wrap (s276.2 + (1:Int)))))
   else
    some (.inl (false,(IntKind.i64.wrap (s276.2 + (1:Int)))))))
 else
  some (.inr (.inl s276.1)))
noncomputable def ref49_Debts_L3 (outs_:(List (List api_Out))) (s141:(Int)) (debts_:(List api_Debt)) (inputs_:(List api_Input)) (s255:Int):Option ((Int)⊕((Unit)⊕((Int)⊕((Unit)⊕(Bool))))):=
 (getI outs_ s141).bind fun x1194=>
 (bif (decide (s255 < (x1194.length:Int))) then
  (seqF (A:=Unit) (
   (getI x1194 s255).bind fun x1210=>
   (seqF (A:=Bool) (
    loopF (ref49_Debts_L2 debts_ x1210) (false,(0:Int)))
   fun s275=>
    (bif (x1210.Kind==(2:Int)) then
     (bif (!s275) then
      (ref49_due inputs_ outs_ x1210.Event x1210.Net).bind fun y1224=>
      (bif y1224 then
       some (.inr (.inr (.inr (.inr (.inr false)))))
      else
       some (.inl ()))
     else
      some (.inl ()))
    else
     some (.inl ()))))
  fun s273=>
   some (.inl (IntKind.i64.wrap (s255 + (1:Int)))))
 else
  some (.inr (.inl ())))
noncomputable def ref49_Debts_L4 (outs_:(List (List api_Out))) (debts_:(List api_Debt)) (inputs_:(List api_Input)) (s141:Int):Option ((Int)⊕((Unit)⊕(Bool))):=
 (bif (decide (s141 < (outs_.length:Int))) then
  (seqF (A:=Unit) (
   loopF (ref49_Debts_L3 outs_ s141 debts_ inputs_) (0:Int))
  fun s254=>
   some (.inl (IntKind.i64.wrap (s141 + (1:Int)))))
 else
  some (.inr (.inl ())))
noncomputable def ref49_Debts (inputs_:(List api_Input)) (outs_:(List (List api_Out))) (debts_:(List api_Debt)):Option (Bool):=
 (bif ((inputs_.length:Int) !=(outs_.length:Int)) then
  some false
 else
  (seqF (A:=Unit) (
   loopF (ref49_Debts_L1 debts_ inputs_ outs_) (0:Int))
  fun s2=>
   (seqF (A:=Unit) (
    loopF (ref49_Debts_L4 outs_ debts_ inputs_) (0:Int))
   fun s140=>
    some true)))
theorem ref49_Debts_fn {dr:Prop} {inputs_:(List api_Input)} {outs_:(List (List api_Out))} {debts_:(List api_Debt)} {r:Bool} (h:ref49_Debts inputs_ outs_ debts_=some r):Fn dr Tryz.prog 13 [VF (List.map api_Input.enc inputs_),VF (List.map (encL api_Out.enc) outs_),VF (List.map api_Debt.enc debts_)] (VB r):=by
 refine Fn.of_AW (dr:=dr) (F:=FnX dr Tryz.prog) (base:=0) (js:= [8,10,13,20,22]) mixed tok noeqs (fun _ _ _ h=> h) Tryz.call13 Tryz.func13 rfl Tryz.ntmps13 (by rw [Tryz.results13]) (by simp) ?_;have hG:(fun x=> x=r) r:=rfl;unfold ref49_Debts at h;refine Zap 9 rfl ?_;refine Y1 rfl ?_;refine W.len rfl ?_;refine Zpp 1 rfl ?_;refine Y1 rfl ?_;refine W.len rfl ?_;refine Zpc 3 rfl ?_;refine A.condB rfl h (fun _ h=> ?_) (fun _ h=> ?_)
 ·refine Zcb 7 rfl ?_;cases h;cases hG;exact ⟨rfl,trivial⟩
 ·refine Zcc 2 rfl ?_;refine A.join (fun (s2:Unit)=> [(0,VF (List.map api_Input.enc inputs_)),(1,VF (List.map (encL api_Out.enc) outs_)),(2,VF (List.map api_Debt.enc debts_))]) (fun s2=> []) _ h hG rfl ?_ ?_
  ·intro J f h hG;refine Zac 6 rfl ?_;refine A.loop (fun (s3:Int)=> [(0,VF (List.map api_Input.enc inputs_)),(1,VF (List.map (encL api_Out.enc) outs_)),(2,VF (List.map api_Debt.enc debts_)),(7,VI s3)]) (fun s3=> []) _ h hG (Zf [] [] rfl rfl (Ze rfl rfl (Ze rfl rfl (Ze rfl rfl (Ze rfl rfl trivial)))) trivial) ?_;intro J s3 f h hG;unfold ref49_Debts_L1 at h;refine Zap 5 rfl ?_;refine Y1 rfl ?_;refine W.len rfl ?_;refine Zpc 3 rfl ?_;refine A.condB rfl h (fun _ h=> ?_) (fun _ h=> ?_)
   ·refine Zcc 5 rfl ?_;refine A.regionD (by kernel_rfl) ?_;refine Zpp 4 rfl ?_;refine Y1 rfl ?_;refine bindK h fun x70 hx70 h=> ?_;refine W.chk rfl (elemB hx70) ?_;refine W.elem rfl (elemG hx70) ?_;refine W.chk rfl rfl ?_;refine W.det (.fp [.v (.int .i64 x70.Event),.v (.int .i64 x70.Net)]) _ rfl ?_;refine Zo (.fp [.v (.int .i64 x70.Event),.v (.int .i64 x70.Net)]) rfl rfl ?_;refine Zpp 3 rfl ?_;refine Y1 rfl ?_;refine W.chk rfl (elemB hx70) ?_;refine W.elem rfl (elemG hx70) ?_;refine W.chk rfl rfl ?_;refine W.det (.fp [.v (.int .i64 x70.Event),.v (.int .i64 x70.Net)]) _ rfl ?_;refine Zo (.fp [.v (.int .i64 x70.Net)]) rfl rfl ?_;refine Zpp 1 rfl ?_;refine Y1 rfl ?_;refine bindK h fun y71 hy71 h=> ?_;refine W.call rfl (ref49_due_fn hy71) ?_;refine Zwp 3 rfl ?_;refine YF rfl rfl rfl h (fun _ h=> ?_) (fun _ h=> ?_)
    ·refine Zpb 55 rfl ?_;refine headK.r ?_;refine Zob 1 rfl ?_;refine headK.r ?_;cases h;cases hG;exact ⟨rfl,trivial⟩
    ·refine Zwp 3 rfl ?_;refine YT rfl rfl rfl h (fun _ h=> ?_) (fun _ h=> ?_)
     ·refine Zwp 3 rfl ?_;refine Y2 rfl rfl rfl ?_;refine bindK h fun x72 hx72 h=> ?_;refine W.chk rfl (elemB hx72) ?_;refine W.elem rfl (elemG hx72) ?_;refine W.chk rfl rfl ?_;refine W.det (.fp [.v (.int .i64 x72.Event),.v (.int .i64 x72.Net)]) _ rfl ?_;refine Zu (.fp [.v (.int .i64 x72.Event),.v (.int .i64 x72.Net)]) rfl rfl rfl rfl ?_;refine Zpp 3 rfl ?_;refine Y2 rfl rfl rfl ?_;refine W.chk rfl (elemB hx70) ?_;refine W.elem rfl (elemG hx70) ?_;refine W.chk rfl rfl ?_;refine W.det (.fp [.v (.int .i64 x70.Event),.v (.int .i64 x70.Net)]) _ rfl ?_;refine Zu (.fp [.v (.int .i64 x70.Event),.v (.int .i64 x70.Net)]) rfl rfl rfl rfl ?_;refine Zpp 3 rfl ?_;refine YF rfl rfl rfl h (fun _ h=> ?_) (fun _ h=> ?_)
      ·refine Zpb 39 rfl ?_;refine headK.r ?_;refine Zob 1 rfl ?_;refine headK.r ?_;cases h;cases hG;exact ⟨rfl,trivial⟩
      ·refine Zwp 3 rfl ?_;refine Y2 rfl rfl rfl ?_;refine W.chk rfl (elemB hx72) ?_;refine W.elem rfl (elemG hx72) ?_;refine W.chk rfl rfl ?_;refine W.det (.fp [.v (.int .i64 x72.Event),.v (.int .i64 x72.Net)]) _ rfl ?_;refine Zu (.fp [.v (.int .i64 x72.Event),.v (.int .i64 x72.Net)]) rfl rfl rfl rfl ?_;refine Zpp 3 rfl ?_;refine Y2 rfl rfl rfl ?_;refine W.chk rfl (elemB hx70) ?_;refine W.elem rfl (elemG hx70) ?_;refine W.chk rfl rfl ?_;refine W.det (.fp [.v (.int .i64 x70.Event),.v (.int .i64 x70.Net)]) _ rfl ?_;refine Zu (.fp [.v (.int .i64 x70.Event),.v (.int .i64 x70.Net)]) rfl rfl rfl rfl ?_;refine Zpp 3 rfl ?_;refine YT rfl rfl rfl h (fun _ h=> ?_) (fun _ h=> ?_)
       ·refine Zwp 3 rfl ?_;refine Y2 rfl rfl rfl ?_;refine W.chk rfl (elemB hx72) ?_;refine W.elem rfl (elemG hx72) ?_;refine W.chk rfl rfl ?_;refine W.det (.fp [.v (.int .i64 x72.Event),.v (.int .i64 x72.Net)]) _ rfl ?_;refine Zu (.fp [.v (.int .i64 x72.Net)]) rfl rfl rfl rfl ?_;refine Zpp 3 rfl ?_;refine Y2 rfl rfl rfl ?_;refine W.chk rfl (elemB hx70) ?_;refine W.elem rfl (elemG hx70) ?_;refine W.chk rfl rfl ?_;refine W.det (.fp [.v (.int .i64 x70.Event),.v (.int .i64 x70.Net)]) _ rfl ?_;refine Zu (.fp [.v (.int .i64 x70.Net)]) rfl rfl rfl rfl ?_;refine Zpc 8 rfl ?_;refine A.condB rfl h (fun _ h=> ?_) (fun _ h=> ?_)
        ·refine Zcb 8 rfl ?_;refine headK.r ?_;refine Zob 1 rfl ?_;refine headK.r ?_;cases h;cases hG;exact ⟨rfl,trivial⟩
        ·refine Zcb 8 rfl ?_;cases h;exact Zh hG [] [] rfl rfl (Ze rfl rfl (Ze rfl rfl (Ze rfl rfl (Ze rfl rfl trivial)))) trivial
       ·refine Zpb 26 rfl ?_;cases h;exact Zh hG [] [] rfl rfl (Ze rfl rfl (Ze rfl rfl (Ze rfl rfl (Ze rfl rfl trivial)))) trivial
     ·refine Zpb 52 rfl ?_;cases h;exact Zh hG [] [] rfl rfl (Ze rfl rfl (Ze rfl rfl (Ze rfl rfl (Ze rfl rfl trivial)))) trivial
   ·refine Zcb 2 rfl ?_;refine headK.e ?_;refine Zob 1 rfl ?_;cases h;exact Zh hG [] [] rfl rfl (Ze rfl rfl (Ze rfl rfl (Ze rfl rfl trivial))) trivial
  ·intro s2 r2 h hG;refine A.join (fun (s140:Unit)=> []) (fun s140=> []) _ h hG rfl ?_ ?_
   ·intro J f h hG;refine Zac 6 rfl ?_;refine A.loop (fun (s141:Int)=> [(0,VF (List.map api_Input.enc inputs_)),(1,VF (List.map (encL api_Out.enc) outs_)),(2,VF (List.map api_Debt.enc debts_)),(8,VI s141)]) (fun s141=> []) _ h hG (Zf [] [] rfl rfl (Ze rfl rfl (Ze rfl rfl (Ze rfl rfl (Ze rfl rfl trivial)))) trivial) ?_;intro J s141 f h hG;unfold ref49_Debts_L4 at h;refine Zap 5 rfl ?_;refine Y1 rfl ?_;refine W.len rfl ?_;refine Zpc 3 rfl ?_;refine A.condB rfl h (fun _ h=> ?_) (fun _ h=> ?_)
    ·refine Zcc 2 rfl ?_;refine A.join (fun (s254:Unit)=> [(0,VF (List.map api_Input.enc inputs_)),(1,VF (List.map (encL api_Out.enc) outs_)),(2,VF (List.map api_Debt.enc debts_)),(8,VI s141)]) (fun s254=> []) _ h hG rfl ?_ ?_
     ·intro J f h hG;refine Zac 7 rfl ?_;refine A.loop (fun (s255:Int)=> [(0,VF (List.map api_Input.enc inputs_)),(1,VF (List.map (encL api_Out.enc) outs_)),(2,VF (List.map api_Debt.enc debts_)),(8,VI s141),(9,VI s255)]) (fun s255=> []) _ h hG (Zf [] [] rfl rfl (Ze rfl rfl (Ze rfl rfl (Ze rfl rfl (Ze rfl rfl (Ze rfl rfl trivial))))) trivial) ?_;intro J s255 f h hG;unfold ref49_Debts_L3 at h;refine Zap 6 rfl ?_;refine Y1 rfl ?_;refine bindK h fun x1194 hx1194 h=> ?_;refine W.chk rfl (elemB hx1194) ?_;refine W.elem rfl (elemG hx1194) ?_;refine W.chk rfl rfl ?_;refine W.det (.fp [.fz (List.map api_Out.enc x1194)]) _ rfl ?_;refine Zpp 1 rfl ?_;refine Y1 rfl ?_;refine W.len rfl ?_;refine Zpc 3 rfl ?_;refine A.condB rfl h (fun _ h=> ?_) (fun _ h=> ?_)
      ·refine Zcc 2 rfl ?_;refine A.join (fun (s273:Unit)=> [(0,VF (List.map api_Input.enc inputs_)),(1,VF (List.map (encL api_Out.enc) outs_)),(2,VF (List.map api_Debt.enc debts_)),(8,VI s141),(9,VI s255)]) (fun s273=> []) _ h hG rfl ?_ ?_
       ·intro J f h hG;refine Zap 5 rfl ?_;refine Y1 rfl ?_;refine W.chk rfl (elemB hx1194) ?_;refine W.elem rfl (elemG hx1194) ?_;refine W.chk rfl rfl ?_;refine W.det (.fp [.fz (List.map api_Out.enc x1194)]) _ rfl ?_;refine Zpp 2 rfl ?_;refine Y1 rfl ?_;refine bindK h fun x1210 hx1210 h=> ?_;refine W.chk rfl (elemB hx1210) ?_;refine W.elem rfl (elemG hx1210) ?_;refine W.chk rfl rfl ?_;refine W.det (.fp [.v (.int .i64 x1210.Kind),.v (.int .i64 x1210.Net),.v (.int .i64 x1210.Event),.v (.int .i64 x1210.Item.Event),.v (.int .i64 x1210.Item.Part),.v (.int .i64 x1210.Item.Of),.v (.int .i64 x1210.Item.Kind),.v (.int .i64 x1210.Item.On),.v (.int .i64 x1210.Item.OnPart),.v (.int .i64 x1210.Item.Quote),.v (.int .i64 x1210.Item.Who),.v (.int .i64 x1210.Item.N),.v (.string x1210.Item.Text),.fz (List.map (encI .i64) x1210.Item.Files)]) _ rfl ?_;refine Zo (.agg (api_Out.av x1210)) rfl rfl ?_;refine Zm (.lp 10 2 0) (Mem.add (Mem.add _ 917514 (.rows 1 (List.map (encI .i64) ([]:List Int)) false)) 10 (.box [VI 0,VI 0,VI 0,VI 0,VI 0,VI 0,VI 0,VI 0,VI 0,VI 0,VI 0,VI 0,VS (ByteArray.mk #[]),.row 917514 2 0])) rfl rfl ?_;refine Zm (.tup []) (Mem.set _ 10 2 (some (.box (api_Out.av x1210)))) rfl rfl ?_;refine Zpc 7 rfl ?_;refine A.join (fun (s275:Bool)=> [(0,VF (List.map api_Input.enc inputs_)),(1,VF (List.map (encL api_Out.enc) outs_)),(2,VF (List.map api_Debt.enc debts_)),(8,VI s141),(9,VI s255),(10,.lp 900000 1 0),(11,VB s275)]) (fun s275=> [(900000,.box (api_Out.av x1210))]) _ h hG rfl ?_ ?_
        ·intro J f h hG;refine Zac 6 rfl ?_;refine A.loop (fun (s276:Bool×Int)=> [(0,VF (List.map api_Input.enc inputs_)),(1,VF (List.map (encL api_Out.enc) outs_)),(2,VF (List.map api_Debt.enc debts_)),(8,VI s141),(9,VI s255),(10,.lp 900000 1 0),(11,VB s276.1),(12,VI s276.2)]) (fun s276=> [(900000,.box (api_Out.av x1210))]) _ h hG (Zf [] [(900000,(10,2))] rfl rfl (Ze rfl rfl (Ze rfl rfl (Ze rfl rfl (Ze rfl rfl (Ze rfl rfl (Ze rfl rfl (Ze rfl rfl (Ze rfl rfl trivial)))))))) (Zc rfl rfl trivial)) ?_;intro J s276 f h hG;unfold ref49_Debts_L2 at h;refine Zap 5 rfl ?_;refine Y1 rfl ?_;refine W.len rfl ?_;refine Zpc 3 rfl ?_;refine A.condB rfl h (fun _ h=> ?_) (fun _ h=> ?_)
         ·refine Zcc 4 rfl ?_;refine A.regionD (by kernel_rfl) ?_;refine Zpp 2 rfl ?_;refine YF rfl rfl rfl h (fun _ h=> ?_) (fun _ h=> ?_)
          ·refine Zpb 27 rfl ?_;cases h;exact Zh hG [] [(900000,(900000,1))] rfl rfl (Ze rfl rfl (Ze rfl rfl (Ze rfl rfl (Ze rfl rfl (Ze rfl rfl (Ze rfl rfl (Ze rfl rfl (Ze rfl rfl trivial)))))))) (Zc rfl rfl trivial)
          ·refine Zwp 2 rfl ?_;refine Y2 rfl rfl rfl ?_;refine bindK h fun x1222 hx1222 h=> ?_;refine W.chk rfl (elemB hx1222) ?_;refine W.elem rfl (elemG hx1222) ?_;refine W.chk rfl rfl ?_;refine W.det (.fp [.v (.int .i64 x1222.Event),.v (.int .i64 x1222.Net)]) _ rfl ?_;refine Zu (.fp [.v (.int .i64 x1222.Event),.v (.int .i64 x1222.Net)]) rfl rfl rfl rfl ?_;refine Zpp 5 rfl ?_;refine YT rfl rfl rfl h (fun _ h=> ?_) (fun _ h=> ?_)
           ·refine Zwp 2 rfl ?_;refine Y2 rfl rfl rfl ?_;refine W.chk rfl (elemB hx1222) ?_;refine W.elem rfl (elemG hx1222) ?_;refine W.chk rfl rfl ?_;refine W.det (.fp [.v (.int .i64 x1222.Event),.v (.int .i64 x1222.Net)]) _ rfl ?_;refine Zu (.fp [.v (.int .i64 x1222.Net)]) rfl rfl rfl rfl ?_;refine Zpb 15 rfl ?_;cases h;exact Zh hG [] [(900000,(900000,1))] rfl rfl (Ze rfl rfl (Ze rfl rfl (Ze rfl rfl (Ze rfl rfl (Ze rfl rfl (Ze rfl rfl (Ze rfl rfl (Ze rfl rfl trivial)))))))) (Zc rfl rfl trivial)
           ·refine Zpb 18 rfl ?_;cases h;exact Zh hG [] [(900000,(900000,1))] rfl rfl (Ze rfl rfl (Ze rfl rfl (Ze rfl rfl (Ze rfl rfl (Ze rfl rfl (Ze rfl rfl (Ze rfl rfl (Ze rfl rfl trivial)))))))) (Zc rfl rfl trivial)
         ·refine Zcb 2 rfl ?_;refine headK.e ?_;refine Zob 1 rfl ?_;cases h;exact Zh hG [] [(900000,(900000,1))] rfl rfl (Ze rfl rfl (Ze rfl rfl (Ze rfl rfl (Ze rfl rfl (Ze rfl rfl (Ze rfl rfl (Ze rfl rfl trivial))))))) (Zc rfl rfl trivial)
        ·intro s275 r2 h hG;refine Zcp 6 rfl ?_;refine YT rfl rfl rfl h (fun _ h=> ?_) (fun _ h=> ?_)
         ·refine Zwp 4 rfl ?_;refine YT rfl rfl rfl h (fun _ h=> ?_) (fun _ h=> ?_)
          ·refine Zwp 6 rfl ?_;refine Y2 rfl rfl rfl ?_;refine bindK h fun y1224 hy1224 h=> ?_;refine W.call rfl (ref49_due_fn hy1224) ?_;refine Zwc 4 rfl ?_;refine A.condB rfl h (fun _ h=> ?_) (fun _ h=> ?_)
           ·refine Zcb 7 rfl ?_;refine headK.r ?_;refine headK.r ?_;refine Zob 2 rfl ?_;refine headK.r ?_;refine headK.r ?_;refine Zob 1 rfl ?_;refine headK.r ?_;cases h;cases hG;exact ⟨rfl,trivial⟩
           ·refine Zcb 2 rfl ?_;cases h;exact Zh hG [] [] rfl rfl (Ze rfl rfl (Ze rfl rfl (Ze rfl rfl (Ze rfl rfl (Ze rfl rfl trivial))))) trivial
          ·refine Zpb 12 rfl ?_;cases h;exact Zh hG [] [] rfl rfl (Ze rfl rfl (Ze rfl rfl (Ze rfl rfl (Ze rfl rfl (Ze rfl rfl trivial))))) trivial
         ·refine Zpb 16 rfl ?_;cases h;exact Zh hG [] [] rfl rfl (Ze rfl rfl (Ze rfl rfl (Ze rfl rfl (Ze rfl rfl (Ze rfl rfl trivial))))) trivial
       ·intro s273 r2 h hG;refine Zcb 5 rfl ?_;cases h;exact Zh hG [] [] rfl rfl (Ze rfl rfl (Ze rfl rfl (Ze rfl rfl (Ze rfl rfl (Ze rfl rfl trivial))))) trivial
      ·refine Zcb 2 rfl ?_;refine headK.e ?_;refine Zob 2 rfl ?_;cases h;exact Zh hG [] [] rfl rfl (Ze rfl rfl (Ze rfl rfl (Ze rfl rfl (Ze rfl rfl trivial)))) trivial
     ·intro s254 r2 h hG;refine Zcb 5 rfl ?_;cases h;exact Zh hG [] [] rfl rfl (Ze rfl rfl (Ze rfl rfl (Ze rfl rfl (Ze rfl rfl trivial)))) trivial
    ·refine Zcb 2 rfl ?_;refine headK.e ?_;refine Zob 1 rfl ?_;cases h;exact Zh hG [] [] rfl rfl trivial trivial
   ·intro s140 r2 h hG;refine Zcb 6 rfl ?_;cases h;cases hG;exact ⟨rfl,trivial⟩
noncomputable def gate_within (n_:Int) (from_:Int) (to_:Int):Option (Bool):=
 (bif (decide (from_≤n_)) then
  some (decide (n_≤to_))
 else
  some false)
theorem gate_within_fn {dr:Prop} {n_:Int} {from_:Int} {to_:Int} {r:Bool} (h:gate_within n_ from_ to_=some r):Fn dr Tryz.prog 115 [VI n_,VI from_,VI to_] (VB r):=by
 refine Fn.of_AW (dr:=dr) (F:=FnX dr Tryz.prog) (base:=0) (js:= []) mixed tok noeqs (fun _ _ _ h=> h) Tryz.call115 Tryz.func115 rfl Tryz.ntmps115 (by rw [Tryz.results115]) (by simp) ?_;have hG:(fun x=> x=r) r:=rfl;unfold gate_within at h;refine Zap 11 rfl ?_;refine YT rfl rfl rfl h (fun _ h=> ?_) (fun _ h=> ?_)
 ·refine Zwb 8 rfl ?_;cases h;cases hG;exact ⟨rfl,trivial⟩
 ·refine Zpb 7 rfl ?_;cases h;cases hG;exact ⟨rfl,trivial⟩
noncomputable def gate_isNet (n_:Int):Option (Bool):=
 (gate_within n_ (0:Int) (11:Int)).bind fun y1=>
 some y1
theorem gate_isNet_fn {dr:Prop} {n_:Int} {r:Bool} (h:gate_isNet n_=some r):Fn dr Tryz.prog 113 [VI n_] (VB r):=by
 refine Fn.of_AW (dr:=dr) (F:=FnX dr Tryz.prog) (base:=0) (js:= []) mixed tok noeqs (fun _ _ _ h=> h) Tryz.call113 Tryz.func113 rfl Tryz.ntmps113 (by rw [Tryz.results113]) (by simp) ?_;have hG:(fun x=> x=r) r:=rfl;unfold gate_isNet at h;refine Zap 8 rfl ?_;refine Y1 rfl ?_;refine bindK h fun y1 hy1 h=> ?_;refine W.call rfl (gate_within_fn hy1) ?_;refine Zwb 5 rfl ?_;cases h;cases hG;exact ⟨rfl,trivial⟩
noncomputable def gate_isEvent (n_:Int):Option (Bool):=
 (gate_within n_ (0:Int) (99999:Int)).bind fun y1=>
 some y1
theorem gate_isEvent_fn {dr:Prop} {n_:Int} {r:Bool} (h:gate_isEvent n_=some r):Fn dr Tryz.prog 114 [VI n_] (VB r):=by
 refine Fn.of_AW (dr:=dr) (F:=FnX dr Tryz.prog) (base:=0) (js:= []) mixed tok noeqs (fun _ _ _ h=> h) Tryz.call114 Tryz.func114 rfl Tryz.ntmps114 (by rw [Tryz.results114]) (by simp) ?_;have hG:(fun x=> x=r) r:=rfl;unfold gate_isEvent at h;refine Zap 8 rfl ?_;refine Y1 rfl ?_;refine bindK h fun y1 hy1 h=> ?_;refine W.call rfl (gate_within_fn hy1) ?_;refine Zwb 5 rfl ?_;cases h;cases hG;exact ⟨rfl,trivial⟩
end Go.Proofs.YtiklglcjecopcaaGreatDoor

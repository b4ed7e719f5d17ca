/-
  Plain programs of functions, and that the functions do what they say. Printed by wip/tools/gen.py.
  Plain programs of functions, and that the functions do what they say. Printed by wip/tools/gen.py.
  maps.Keys at a map whose keys are debts.
-/
import Derived.Test.YtiklglcjecopcaaGreatDoorG2
import Derived.Test.YtiklglcjecopcaaGreatDoorQ17
import Derived.Test.YtiklglcjecopcaaGreatDoorQ18
import Derived.WalkKit
namespace Go.Proofs.YtiklglcjecopcaaGreatDoor
open Go.RowKit
attribute [local irreducible] IntKind.wrap AW runL Step.wp
set_option linter.unusedVariables false
set_option maxHeartbeats 4000000
set_option maxRecDepth 100000
noncomputable def gate_fields (in_:api_Input):Option (api_Input×Bool):=
 (bif (in_.Kind==(0:Int)) then
  none
 else
  (bif (in_.Kind==(1:Int)) then
   none
  else
   (bif (in_.Kind==(2:Int)) then
    none
   else
    (bif (in_.Kind==(3:Int)) then
     none
    else
     (bif (in_.Kind==(4:Int)) then
      none
     else
      (bif (in_.Kind==(5:Int)) then
       none
      else
       (bif (in_.Kind==(6:Int)) then
        none
       else
        (bif (in_.Kind==(7:Int)) then
         none
        else
         (bif (in_.Kind==(8:Int)) then
          (gate_isNet in_.Net).bind fun y41=>
          (bif y41 then
           (gate_isEvent in_.Event).bind fun y42=>
           some ((api_Input.mk in_.Kind in_.Net in_.Event (0:Int) (0:Int) (api_Raw.mk (0:Int) (0:Int) (0:Int) (0:Int) (0:Int) (0:Int) (0:Int) (0:Int) (ByteArray.mk #[]) ([]:List Int)) (api_Note.mk (0:Int) (0:Int) (0:Int) (0:Int) false) (api_Proof.mk (0:Int) (0:Int) (0:Int)) (api_Verdict.mk (0:Int) (0:Int) false) (api_Hold.mk (0:Int) (0:Int) (0:Int) (0:Int)) (api_Order.mk (0:Int) (0:Int) (0:Int) (0:Int)) ([]:List Bool)),y42)
          else
           some ((api_Input.mk in_.Kind in_.Net in_.Event (0:Int) (0:Int) (api_Raw.mk (0:Int) (0:Int) (0:Int) (0:Int) (0:Int) (0:Int) (0:Int) (0:Int) (ByteArray.mk #[]) ([]:List Int)) (api_Note.mk (0:Int) (0:Int) (0:Int) (0:Int) false) (api_Proof.mk (0:Int) (0:Int) (0:Int)) (api_Verdict.mk (0:Int) (0:Int) false) (api_Hold.mk (0:Int) (0:Int) (0:Int) (0:Int)) (api_Order.mk (0:Int) (0:Int) (0:Int) (0:Int)) ([]:List Bool)),false))
         else
          none)))))))))
theorem gate_fields_fn {dr:Prop} {in_:api_Input} {r:api_Input×Bool} (h:gate_fields in_=some r):Fn dr Tryz.prog 74 [.agg (api_Input.av in_)] (.tup [.agg (api_Input.av r.1),VB r.2]):=by
 refine Fn.of_AW (dr:=dr) (F:=FnX dr Tryz.prog) (base:=0) (js:= []) mixed tok noeqs (fun _ _ _ h=> h) Tryz.call74 Tryz.func74 rfl Tryz.ntmps74 (by rw [Tryz.results74]) (by simp) ?_;have hG:(fun x=> x=r) r:=rfl;unfold gate_fields at h;refine Zap 2 rfl ?_;refine Zm (.lp 1 1 0) (Mem.add _ 1 (.box (api_Input.av in_))) rfl rfl ?_;refine Zm (.lp 2 1 0) (Mem.add (Mem.add (Mem.add _ 983042 (.rows 1 (List.map (encI .i64) ([]:List Int)) false)) 2293762 (.rows 1 (List.map encB ([]:List Bool)) false)) 2 (.box [VI 0,VI 0,VI 0,VI 0,VI 0,VI 0,VI 0,VI 0,VI 0,VI 0,VI 0,VI 0,VI 0,VS (ByteArray.mk #[]),.row 983042 1 0,VI 0,VI 0,VI 0,VI 0,VB false,VI 0,VI 0,VI 0,VI 0,VI 0,VB false,VI 0,VI 0,VI 0,VI 0,VI 0,VI 0,VI 0,VI 0,.row 2293762 1 0])) rfl rfl ?_;refine Zpp 7 rfl ?_;refine Zo (.agg [VI in_.Kind,VI 0,VI 0,VI 0,VI 0,VI 0,VI 0,VI 0,VI 0,VI 0,VI 0,VI 0,VI 0,VS (ByteArray.mk #[]),.nl,VI 0,VI 0,VI 0,VI 0,VB false,VI 0,VI 0,VI 0,VI 0,VI 0,VB false,VI 0,VI 0,VI 0,VI 0,VI 0,VI 0,VI 0,VI 0,.nl]) rfl rfl ?_;refine Zm (.lp 4 1 0) (Mem.add (Mem.add (Mem.add _ 983044 (.rows 1 (List.map (encI .i64) ([]:List Int)) false)) 2293764 (.rows 1 (List.map encB ([]:List Bool)) false)) 4 (.box [VI 0,VI 0,VI 0,VI 0,VI 0,VI 0,VI 0,VI 0,VI 0,VI 0,VI 0,VI 0,VI 0,VS (ByteArray.mk #[]),.row 983044 1 0,VI 0,VI 0,VI 0,VI 0,VB false,VI 0,VI 0,VI 0,VI 0,VI 0,VB false,VI 0,VI 0,VI 0,VI 0,VI 0,VI 0,VI 0,VI 0,.row 2293764 1 0])) rfl rfl ?_;refine Zm (.tup []) (Mem.set (Mem.add (Mem.add _ 2031620 (.rows 1 (List.map (encI .i64) ([]:List Int)) false)) 3342340 (.rows 1 (List.map encB ([]:List Bool)) false)) 4 1 (some (.box [VI in_.Kind,VI 0,VI 0,VI 0,VI 0,VI 0,VI 0,VI 0,VI 0,VI 0,VI 0,VI 0,VI 0,VS (ByteArray.mk #[]),.row 2031620 1 0,VI 0,VI 0,VI 0,VI 0,VB false,VI 0,VI 0,VI 0,VI 0,VI 0,VB false,VI 0,VI 0,VI 0,VI 0,VI 0,VI 0,VI 0,VI 0,.row 3342340 1 0]))) rfl rfl ?_;refine Zpc 16 rfl ?_;refine A.condB rfl h (fun _ h=> ?_) (fun _ h=> ?_)
 ·cases h
 ·refine Zcc 6 rfl ?_;refine A.condB rfl h (fun _ h=> ?_) (fun _ h=> ?_)
  ·cases h
  ·refine Zcc 6 rfl ?_;refine A.condB rfl h (fun _ h=> ?_) (fun _ h=> ?_)
   ·cases h
   ·refine Zcc 6 rfl ?_;refine A.condB rfl h (fun _ h=> ?_) (fun _ h=> ?_)
    ·cases h
    ·refine Zcc 6 rfl ?_;refine A.condB rfl h (fun _ h=> ?_) (fun _ h=> ?_)
     ·cases h
     ·refine Zcc 6 rfl ?_;refine A.condB rfl h (fun _ h=> ?_) (fun _ h=> ?_)
      ·cases h
      ·refine Zcc 6 rfl ?_;refine A.condB rfl h (fun _ h=> ?_) (fun _ h=> ?_)
       ·cases h
       ·refine Zcc 6 rfl ?_;refine A.condB rfl h (fun _ h=> ?_) (fun _ h=> ?_)
        ·cases h
        ·refine Zcc 6 rfl ?_;refine A.condB rfl h (fun _ h=> ?_) (fun _ h=> ?_)
         ·refine Zcc 1 rfl ?_;refine A.regionC [0,1,4,5,2,3,6,7] (by kernel_rfl) ?_;refine R.at_ rfl rfl ?_;refine Zo (.lp 1 1 1) rfl rfl ?_;refine R.nil ?_;refine R.at_ rfl rfl ?_;refine Zo (VI in_.Net) rfl rfl ?_;refine R.nil ?_;refine R.at_ rfl rfl ?_;refine Zo (.lp 4 1 1) rfl rfl ?_;refine R.nil ?_;refine R.at_ rfl rfl ?_;refine Zm (.tup []) (Mem.set _ 4 1 (some (.box [VI in_.Kind,VI in_.Net,VI 0,VI 0,VI 0,VI 0,VI 0,VI 0,VI 0,VI 0,VI 0,VI 0,VI 0,VS (ByteArray.mk #[]),.row 2031620 1 0,VI 0,VI 0,VI 0,VI 0,VB false,VI 0,VI 0,VI 0,VI 0,VI 0,VB false,VI 0,VI 0,VI 0,VI 0,VI 0,VI 0,VI 0,VI 0,.row 3342340 1 0]))) rfl rfl ?_;refine R.nil ?_;refine R.at_ rfl rfl ?_;refine Zo (.lp 1 1 2) rfl rfl ?_;refine R.nil ?_;refine R.at_ rfl rfl ?_;refine Zo (VI in_.Event) rfl rfl ?_;refine R.nil ?_;refine R.at_ rfl rfl ?_;refine Zo (.lp 4 1 2) rfl rfl ?_;refine R.nil ?_;refine R.at_ rfl rfl ?_;refine Zm (.tup []) (Mem.set _ 4 1 (some (.box [VI in_.Kind,VI in_.Net,VI in_.Event,VI 0,VI 0,VI 0,VI 0,VI 0,VI 0,VI 0,VI 0,VI 0,VI 0,VS (ByteArray.mk #[]),.row 2031620 1 0,VI 0,VI 0,VI 0,VI 0,VB false,VI 0,VI 0,VI 0,VI 0,VI 0,VB false,VI 0,VI 0,VI 0,VI 0,VI 0,VI 0,VI 0,VI 0,.row 3342340 1 0]))) rfl rfl ?_;refine R.nil ?_;refine R.end_ ?_;refine Zoc 2 rfl ?_;refine A.regionD (by kernel_rfl) ?_;refine Zo (.agg [VI in_.Kind,VI in_.Net,VI in_.Event,VI 0,VI 0,VI 0,VI 0,VI 0,VI 0,VI 0,VI 0,VI 0,VI 0,VS (ByteArray.mk #[]),.row 2031620 1 0,VI 0,VI 0,VI 0,VI 0,VB false,VI 0,VI 0,VI 0,VI 0,VI 0,VB false,VI 0,VI 0,VI 0,VI 0,VI 0,VI 0,VI 0,VI 0,.row 3342340 1 0]) rfl rfl ?_;refine Zpp 2 rfl ?_;refine Y1 rfl ?_;refine bindK h fun y41 hy41 h=> ?_;refine W.call rfl (gate_isNet_fn hy41) ?_;refine Zwp 2 rfl ?_;refine YT rfl rfl rfl h (fun _ h=> ?_) (fun _ h=> ?_)
          ·refine Zwp 2 rfl ?_;refine Y2 rfl rfl rfl ?_;refine bindK h fun y42 hy42 h=> ?_;refine W.call rfl (gate_isEvent_fn hy42) ?_;refine Zwp 2 rfl ?_;refine Zm (.tup []) (Mem.set _ 2 1 (some (.box [VI in_.Kind,VI in_.Net,VI in_.Event,VI 0,VI 0,VI 0,VI 0,VI 0,VI 0,VI 0,VI 0,VI 0,VI 0,VS (ByteArray.mk #[]),.row 2031620 1 0,VI 0,VI 0,VI 0,VI 0,VB false,VI 0,VI 0,VI 0,VI 0,VI 0,VB false,VI 0,VI 0,VI 0,VI 0,VI 0,VI 0,VI 0,VI 0,.row 3342340 1 0]))) rfl rfl ?_;refine Zpb 6 rfl ?_;cases h;cases hG;exact ⟨rfl,rfl,rfl,rfl,rfl,rfl,rfl,rfl,rfl,rfl,rfl,rfl,rfl,rfl,rfl,rfl,rfl,rfl,rfl,rfl,rfl,rfl,rfl,rfl,rfl,rfl,rfl,rfl,rfl,rfl,rfl,rfl,rfl,rfl,rfl,rfl,trivial⟩
          ·refine Zpp 3 rfl ?_;refine Zm (.tup []) (Mem.set _ 2 1 (some (.box [VI in_.Kind,VI in_.Net,VI in_.Event,VI 0,VI 0,VI 0,VI 0,VI 0,VI 0,VI 0,VI 0,VI 0,VI 0,VS (ByteArray.mk #[]),.row 2031620 1 0,VI 0,VI 0,VI 0,VI 0,VB false,VI 0,VI 0,VI 0,VI 0,VI 0,VB false,VI 0,VI 0,VI 0,VI 0,VI 0,VI 0,VI 0,VI 0,.row 3342340 1 0]))) rfl rfl ?_;refine Zpb 6 rfl ?_;cases h;cases hG;exact ⟨rfl,rfl,rfl,rfl,rfl,rfl,rfl,rfl,rfl,rfl,rfl,rfl,rfl,rfl,rfl,rfl,rfl,rfl,rfl,rfl,rfl,rfl,rfl,rfl,rfl,rfl,rfl,rfl,rfl,rfl,rfl,rfl,rfl,rfl,rfl,rfl,trivial⟩
         ·cases h
noncomputable def slices_Equal_int_int_L1 (s1_:(List Int)) (s2_:(List Int)) (s3:Int):Option ((Int)⊕((Unit)⊕(Bool))):=
 (bif (decide (s3 < (s1_.length:Int))) then
  (getI s1_ s3).bind fun x23=>
  (getI s2_ s3).bind fun x24=>
  (bif (x23 !=x24) then
   some (.inr (.inr false))
  else
   some (.inl (IntKind.i64.wrap (s3 + (1:Int)))))
 else
  some (.inr (.inl ())))
noncomputable def slices_Equal_int_int (s1_:(List Int)) (s2_:(List Int)):Option (Bool):=
 (bif ((s1_.length:Int) !=(s2_.length:Int)) then
  some false
 else
  (seqF (A:=Unit) (
   loopF (slices_Equal_int_int_L1 s1_ s2_) (0:Int))
  fun s2=>
   some true))
theorem slices_Equal_int_int_fn {dr:Prop} {s1_:(List Int)} {s2_:(List Int)} {r:Bool} (h:slices_Equal_int_int s1_ s2_=some r):Fn dr Tryz.prog 195 [VF (List.map (encI .i64) s1_),VF (List.map (encI .i64) s2_)] (VB r):=by
 refine Fn.of_AW (dr:=dr) (F:=FnX dr Tryz.prog) (base:=0) (js:= [9]) mixed tok noeqs (fun _ _ _ h=> h) Tryz.call195 Tryz.func195 rfl Tryz.ntmps195 (by rw [Tryz.results195]) (by simp) ?_;have hG:(fun x=> x=r) r:=rfl;unfold slices_Equal_int_int at h;refine Zap 9 rfl ?_;refine Y1 rfl ?_;refine W.len rfl ?_;refine Zpp 1 rfl ?_;refine Y1 rfl ?_;refine W.len rfl ?_;refine Zpc 3 rfl ?_;refine A.condB rfl h (fun _ h=> ?_) (fun _ h=> ?_)
 ·refine Zcb 7 rfl ?_;cases h;cases hG;exact ⟨rfl,trivial⟩
 ·refine Zcc 2 rfl ?_;refine A.join (fun (s2:Unit)=> []) (fun s2=> []) _ h hG rfl ?_ ?_
  ·intro J f h hG;refine Zap 3 rfl ?_;refine Y1 rfl ?_;refine W.len rfl ?_;refine Zpc 4 rfl ?_;refine A.loop (fun (s3:Int)=> [(0,VF (List.map (encI .i64) s1_)),(1,VF (List.map (encI .i64) s2_)),(12,VI (s1_.length:Int)),(13,VI s3)]) (fun s3=> []) _ h hG (Zf [] [] rfl rfl (Ze rfl rfl (Ze rfl rfl (Ze rfl rfl (Ze rfl rfl trivial)))) trivial) ?_;intro J s3 f h hG;unfold slices_Equal_int_int_L1 at h;refine Zac 6 rfl ?_;refine A.condB rfl h (fun _ h=> ?_) (fun _ h=> ?_)
   ·refine Zcc 11 rfl ?_;refine A.regionD (by kernel_rfl) ?_;refine Zpp 2 rfl ?_;refine Y1 rfl ?_;refine bindK h fun x23 hx23 h=> ?_;refine W.chk rfl (elemB hx23) ?_;refine W.elem rfl (elemG hx23) ?_;refine W.chk rfl rfl ?_;refine W.det (.fp [.v (.int .i64 x23)]) _ rfl ?_;refine Zpp 3 rfl ?_;refine Y1 rfl ?_;refine bindK h fun x24 hx24 h=> ?_;refine W.chk rfl (elemB hx24) ?_;refine W.elem rfl (elemG hx24) ?_;refine W.chk rfl rfl ?_;refine W.det (.fp [.v (.int .i64 x24)]) _ rfl ?_;refine Zpc 4 rfl ?_;refine A.condB rfl h (fun _ h=> ?_) (fun _ h=> ?_)
    ·refine Zcb 8 rfl ?_;refine headK.r ?_;refine Zob 1 rfl ?_;refine headK.r ?_;cases h;cases hG;exact ⟨rfl,trivial⟩
    ·refine Zcb 7 rfl ?_;cases h;exact Zh hG [] [] rfl rfl (Ze rfl rfl (Ze rfl rfl (Ze rfl rfl (Ze rfl rfl trivial)))) trivial
   ·refine Zcb 2 rfl ?_;refine headK.e ?_;refine Zob 1 rfl ?_;cases h;exact Zh hG [] [] rfl rfl trivial trivial
  ·intro s2 r2 h hG;refine Zcb 6 rfl ?_;cases h;cases hG;exact ⟨rfl,trivial⟩
noncomputable def gate_sameRaw (a_:api_Raw) (b_:api_Raw):Option (Bool):=
 (seqF (A:=Bool) (
  (bif (a_.Account==b_.Account) then
   (bif (a_.Seq==b_.Seq) then
    (bif (a_.Kind==b_.Kind) then
     (bif (a_.Group==b_.Group) then
      (bif (a_.On==b_.On) then
       some (.inl (a_.Quote==b_.Quote))
      else
       some (.inl false))
     else
      some (.inl false))
    else
     some (.inl false))
   else
    some (.inl false))
  else
   some (.inl false)))
 fun s1=>
  (bif s1 then
   (bif (a_.Who==b_.Who) then
    (bif (a_.N==b_.N) then
     (bif (a_.Text.toList==b_.Text.toList) then
      (slices_Equal_int_int a_.Files b_.Files).bind fun y1=>
      some y1
     else
      some false)
    else
     some false)
   else
    some false)
  else
   some false))
theorem gate_sameRaw_fn {dr:Prop} {a_:api_Raw} {b_:api_Raw} {r:Bool} (h:gate_sameRaw a_ b_=some r):Fn dr Tryz.prog 118 [.agg (api_Raw.av a_),.agg (api_Raw.av b_)] (VB r):=by
 refine Fn.of_AW (dr:=dr) (F:=FnX dr Tryz.prog) (base:=0) (js:= [2]) mixed tok noeqs (fun _ _ _ h=> h) Tryz.call118 Tryz.func118 rfl Tryz.ntmps118 (by rw [Tryz.results118]) (by simp) ?_;have hG:(fun x=> x=r) r:=rfl;unfold gate_sameRaw at h;refine Zap 2 rfl ?_;refine Zm (.lp 2 1 0) (Mem.add _ 2 (.box (api_Raw.av a_))) rfl rfl ?_;refine Zm (.lp 3 1 0) (Mem.add _ 3 (.box (api_Raw.av b_))) rfl rfl ?_;refine Zpc 3 rfl ?_;refine A.join (fun (s1:Bool)=> [(2,.lp 900000 1 0),(3,.lp 900001 1 0),(5,VB s1)]) (fun s1=> [(900000,.box (api_Raw.av a_)),(900001,.box (api_Raw.av b_))]) _ h hG rfl ?_ ?_
 ·intro J f h hG;refine Zap 7 rfl ?_;refine YT rfl rfl rfl h (fun _ h=> ?_) (fun _ h=> ?_)
  ·refine Zwp 7 rfl ?_;refine YT rfl rfl rfl h (fun _ h=> ?_) (fun _ h=> ?_)
   ·refine Zwp 7 rfl ?_;refine YT rfl rfl rfl h (fun _ h=> ?_) (fun _ h=> ?_)
    ·refine Zwp 7 rfl ?_;refine YT rfl rfl rfl h (fun _ h=> ?_) (fun _ h=> ?_)
     ·refine Zwp 7 rfl ?_;refine YT rfl rfl rfl h (fun _ h=> ?_) (fun _ h=> ?_)
      ·refine Zwb 8 rfl ?_;cases h;exact Zh hG [] [(900000,(2,1)),(900001,(3,1))] rfl rfl (Ze rfl rfl (Ze rfl rfl (Ze rfl rfl trivial))) (Zc rfl rfl (Zc rfl rfl trivial))
      ·refine Zpb 7 rfl ?_;cases h;exact Zh hG [] [(900000,(2,1)),(900001,(3,1))] rfl rfl (Ze rfl rfl (Ze rfl rfl (Ze rfl rfl trivial))) (Zc rfl rfl (Zc rfl rfl trivial))
     ·refine Zpb 14 rfl ?_;cases h;exact Zh hG [] [(900000,(2,1)),(900001,(3,1))] rfl rfl (Ze rfl rfl (Ze rfl rfl (Ze rfl rfl trivial))) (Zc rfl rfl (Zc rfl rfl trivial))
    ·refine Zpb 21 rfl ?_;cases h;exact Zh hG [] [(900000,(2,1)),(900001,(3,1))] rfl rfl (Ze rfl rfl (Ze rfl rfl (Ze rfl rfl trivial))) (Zc rfl rfl (Zc rfl rfl trivial))
   ·refine Zpb 28 rfl ?_;cases h;exact Zh hG [] [(900000,(2,1)),(900001,(3,1))] rfl rfl (Ze rfl rfl (Ze rfl rfl (Ze rfl rfl trivial))) (Zc rfl rfl (Zc rfl rfl trivial))
  ·refine Zpb 35 rfl ?_;cases h;exact Zh hG [] [(900000,(2,1)),(900001,(3,1))] rfl rfl (Ze rfl rfl (Ze rfl rfl (Ze rfl rfl trivial))) (Zc rfl rfl (Zc rfl rfl trivial))
 ·intro s1 r2 h hG;refine Zcp 4 rfl ?_;refine YT rfl rfl rfl h (fun _ h=> ?_) (fun _ h=> ?_)
  ·refine Zwp 7 rfl ?_;refine YT rfl rfl rfl h (fun _ h=> ?_) (fun _ h=> ?_)
   ·refine Zwp 7 rfl ?_;refine YT rfl rfl rfl h (fun _ h=> ?_) (fun _ h=> ?_)
    ·refine Zwp 7 rfl ?_;refine YT rfl rfl rfl h (fun _ h=> ?_) (fun _ h=> ?_)
     ·refine Zwp 4 rfl ?_;refine Y2 rfl rfl rfl ?_;refine bindK h fun y1 hy1 h=> ?_;refine W.call rfl (slices_Equal_int_int_fn hy1) ?_;refine Zwb 6 rfl ?_;cases h;cases hG;exact ⟨rfl,trivial⟩
     ·refine Zpb 9 rfl ?_;cases h;cases hG;exact ⟨rfl,trivial⟩
    ·refine Zpb 16 rfl ?_;cases h;cases hG;exact ⟨rfl,trivial⟩
   ·refine Zpb 23 rfl ?_;cases h;cases hG;exact ⟨rfl,trivial⟩
  ·refine Zpb 30 rfl ?_;cases h;cases hG;exact ⟨rfl,trivial⟩
noncomputable def slices_Equal_bool_bool_L1 (s1_:(List Bool)) (s2_:(List Bool)) (s3:Int):Option ((Int)⊕((Unit)⊕(Bool))):=
 (bif (decide (s3 < (s1_.length:Int))) then
  (getI s1_ s3).bind fun x23=>
  (getI s2_ s3).bind fun x24=>
  (bif (!(x23==x24)) then
   some (.inr (.inr false))
  else
   some (.inl (IntKind.i64.wrap (s3 + (1:Int)))))
 else
  some (.inr (.inl ())))
noncomputable def slices_Equal_bool_bool (s1_:(List Bool)) (s2_:(List Bool)):Option (Bool):=
 (bif ((s1_.length:Int) !=(s2_.length:Int)) then
  some false
 else
  (seqF (A:=Unit) (
   loopF (slices_Equal_bool_bool_L1 s1_ s2_) (0:Int))
  fun s2=>
   some true))
theorem slices_Equal_bool_bool_fn {dr:Prop} {s1_:(List Bool)} {s2_:(List Bool)} {r:Bool} (h:slices_Equal_bool_bool s1_ s2_=some r):Fn dr Tryz.prog 119 [VF (List.map encB s1_),VF (List.map encB s2_)] (VB r):=by
 refine Fn.of_AW (dr:=dr) (F:=FnX dr Tryz.prog) (base:=0) (js:= [9]) mixed tok noeqs (fun _ _ _ h=> h) Tryz.call119 Tryz.func119 rfl Tryz.ntmps119 (by rw [Tryz.results119]) (by simp) ?_;have hG:(fun x=> x=r) r:=rfl;unfold slices_Equal_bool_bool at h;refine Zap 9 rfl ?_;refine Y1 rfl ?_;refine W.len rfl ?_;refine Zpp 1 rfl ?_;refine Y1 rfl ?_;refine W.len rfl ?_;refine Zpc 3 rfl ?_;refine A.condB rfl h (fun _ h=> ?_) (fun _ h=> ?_)
 ·refine Zcb 7 rfl ?_;cases h;cases hG;exact ⟨rfl,trivial⟩
 ·refine Zcc 2 rfl ?_;refine A.join (fun (s2:Unit)=> []) (fun s2=> []) _ h hG rfl ?_ ?_
  ·intro J f h hG;refine Zap 3 rfl ?_;refine Y1 rfl ?_;refine W.len rfl ?_;refine Zpc 4 rfl ?_;refine A.loop (fun (s3:Int)=> [(0,VF (List.map encB s1_)),(1,VF (List.map encB s2_)),(12,VI (s1_.length:Int)),(13,VI s3)]) (fun s3=> []) _ h hG (Zf [] [] rfl rfl (Ze rfl rfl (Ze rfl rfl (Ze rfl rfl (Ze rfl rfl trivial)))) trivial) ?_;intro J s3 f h hG;unfold slices_Equal_bool_bool_L1 at h;refine Zac 6 rfl ?_;refine A.condB rfl h (fun _ h=> ?_) (fun _ h=> ?_)
   ·refine Zcc 11 rfl ?_;refine A.regionD (by kernel_rfl) ?_;refine Zpp 2 rfl ?_;refine Y1 rfl ?_;refine bindK h fun x23 hx23 h=> ?_;refine W.chk rfl (elemB hx23) ?_;refine W.elem rfl (elemG hx23) ?_;refine W.chk rfl rfl ?_;refine W.det (.fp [.v (.bool x23)]) _ rfl ?_;refine Zpp 3 rfl ?_;refine Y1 rfl ?_;refine bindK h fun x24 hx24 h=> ?_;refine W.chk rfl (elemB hx24) ?_;refine W.elem rfl (elemG hx24) ?_;refine W.chk rfl rfl ?_;refine W.det (.fp [.v (.bool x24)]) _ rfl ?_;refine Zpc 4 rfl ?_;refine A.condB rfl h (fun _ h=> ?_) (fun _ h=> ?_)
    ·refine Zcb 8 rfl ?_;refine headK.r ?_;refine Zob 1 rfl ?_;refine headK.r ?_;cases h;cases hG;exact ⟨rfl,trivial⟩
    ·refine Zcb 7 rfl ?_;cases h;exact Zh hG [] [] rfl rfl (Ze rfl rfl (Ze rfl rfl (Ze rfl rfl (Ze rfl rfl trivial)))) trivial
   ·refine Zcb 2 rfl ?_;refine headK.e ?_;refine Zob 1 rfl ?_;cases h;exact Zh hG [] [] rfl rfl trivial trivial
  ·intro s2 r2 h hG;refine Zcb 6 rfl ?_;cases h;cases hG;exact ⟨rfl,trivial⟩
noncomputable def gate_same (a_:api_Input) (b_:api_Input):Option (Bool):=
 (seqF (A:=Bool) (
  (bif (a_.Kind==b_.Kind) then
   (bif (a_.Net==b_.Net) then
    (bif (a_.Event==b_.Event) then
     (bif (a_.Local==b_.Local) then
      (bif (a_.N==b_.N) then
       (gate_sameRaw (api_Raw.mk a_.Raw.Account a_.Raw.Seq a_.Raw.Kind a_.Raw.Group a_.Raw.On a_.Raw.Quote a_.Raw.Who a_.Raw.N a_.Raw.Text a_.Raw.Files) (api_Raw.mk b_.Raw.Account b_.Raw.Seq b_.Raw.Kind b_.Raw.Group b_.Raw.On b_.Raw.Quote b_.Raw.Who b_.Raw.N b_.Raw.Text b_.Raw.Files)).bind fun y2=>
       some (.inl y2)
      else
       some (.inl false))
     else
      some (.inl false))
    else
     some (.inl false))
   else
    some (.inl false))
  else
   some (.inl false)))
 fun s1=>
  (bif s1 then
   (bif ((a_.Note.Message==b_.Note.Message) && ((a_.Note.Who==b_.Note.Who) && ((a_.Note.Level==b_.Note.Level) && ((a_.Note.Step==b_.Note.Step) && ((a_.Note.Not==b_.Note.Not) && true))))) then
    (bif ((a_.Proof.Kind==b_.Proof.Kind) && ((a_.Proof.A==b_.Proof.A) && ((a_.Proof.B==b_.Proof.B) && true))) then
     (bif ((a_.Verdict.Name==b_.Verdict.Name) && ((a_.Verdict.Step==b_.Verdict.Step) && ((a_.Verdict.Bad==b_.Verdict.Bad) && true))) then
      (bif ((a_.Hold.Id==b_.Hold.Id) && ((a_.Hold.Event==b_.Hold.Event) && ((a_.Hold.From==b_.Hold.From) && ((a_.Hold.To==b_.Hold.To) && true)))) then
       (bif ((a_.Order.Kind==b_.Order.Kind) && ((a_.Order.Event==b_.Order.Event) && ((a_.Order.By==b_.Order.By) && ((a_.Order.Step==b_.Order.Step) && true)))) then
        (slices_Equal_bool_bool a_.Up b_.Up).bind fun y3=>
        some y3
       else
        some false)
      else
       some false)
     else
      some false)
    else
     some false)
   else
    some false)
  else
   some false))
theorem gate_same_fn {dr:Prop} {a_:api_Input} {b_:api_Input} {r:Bool} (h:gate_same a_ b_=some r):Fn dr Tryz.prog 75 [.agg (api_Input.av a_),.agg (api_Input.av b_)] (VB r):=by
 refine Fn.of_AW (dr:=dr) (F:=FnX dr Tryz.prog) (base:=0) (js:= [2]) mixed tok noeqs (fun _ _ _ h=> h) Tryz.call75 Tryz.func75 rfl Tryz.ntmps75 (by rw [Tryz.results75]) (by simp) ?_;have hG:(fun x=> x=r) r:=rfl;unfold gate_same at h;refine Zap 2 rfl ?_;refine Zm (.lp 2 1 0) (Mem.add _ 2 (.box (api_Input.av a_))) rfl rfl ?_;refine Zm (.lp 3 1 0) (Mem.add _ 3 (.box (api_Input.av b_))) rfl rfl ?_;refine Zpc 3 rfl ?_;refine A.join (fun (s1:Bool)=> [(2,.lp 900000 1 0),(3,.lp 900001 1 0),(5,VB s1)]) (fun s1=> [(900000,.box (api_Input.av a_)),(900001,.box (api_Input.av b_))]) _ h hG rfl ?_ ?_
 ·intro J f h hG;refine Zap 7 rfl ?_;refine YT rfl rfl rfl h (fun _ h=> ?_) (fun _ h=> ?_)
  ·refine Zwp 7 rfl ?_;refine YT rfl rfl rfl h (fun _ h=> ?_) (fun _ h=> ?_)
   ·refine Zwp 7 rfl ?_;refine YT rfl rfl rfl h (fun _ h=> ?_) (fun _ h=> ?_)
    ·refine Zwp 7 rfl ?_;refine YT rfl rfl rfl h (fun _ h=> ?_) (fun _ h=> ?_)
     ·refine Zwp 7 rfl ?_;refine YT rfl rfl rfl h (fun _ h=> ?_) (fun _ h=> ?_)
      ·refine Zwp 1 rfl ?_;refine Zu (.agg (api_Raw.av a_.Raw)) rfl rfl rfl rfl ?_;refine Zpp 1 rfl ?_;refine Zu (.agg (api_Raw.av b_.Raw)) rfl rfl rfl rfl ?_;refine Y2 rfl rfl rfl ?_;refine bindK h fun y2 hy2 h=> ?_;refine W.call rfl (gate_sameRaw_fn hy2) ?_;refine Zwb 4 rfl ?_;cases h;exact Zh hG [] [(900000,(2,1)),(900001,(3,1))] rfl rfl (Ze rfl rfl (Ze rfl rfl (Ze rfl rfl trivial))) (Zc rfl rfl (Zc rfl rfl trivial))
      ·refine Zpb 7 rfl ?_;cases h;exact Zh hG [] [(900000,(2,1)),(900001,(3,1))] rfl rfl (Ze rfl rfl (Ze rfl rfl (Ze rfl rfl trivial))) (Zc rfl rfl (Zc rfl rfl trivial))
     ·refine Zpb 14 rfl ?_;cases h;exact Zh hG [] [(900000,(2,1)),(900001,(3,1))] rfl rfl (Ze rfl rfl (Ze rfl rfl (Ze rfl rfl trivial))) (Zc rfl rfl (Zc rfl rfl trivial))
    ·refine Zpb 21 rfl ?_;cases h;exact Zh hG [] [(900000,(2,1)),(900001,(3,1))] rfl rfl (Ze rfl rfl (Ze rfl rfl (Ze rfl rfl trivial))) (Zc rfl rfl (Zc rfl rfl trivial))
   ·refine Zpb 28 rfl ?_;cases h;exact Zh hG [] [(900000,(2,1)),(900001,(3,1))] rfl rfl (Ze rfl rfl (Ze rfl rfl (Ze rfl rfl trivial))) (Zc rfl rfl (Zc rfl rfl trivial))
  ·refine Zpb 35 rfl ?_;cases h;exact Zh hG [] [(900000,(2,1)),(900001,(3,1))] rfl rfl (Ze rfl rfl (Ze rfl rfl (Ze rfl rfl trivial))) (Zc rfl rfl (Zc rfl rfl trivial))
 ·intro s1 r2 h hG;refine Zcp 4 rfl ?_;refine YT rfl rfl rfl h (fun _ h=> ?_) (fun _ h=> ?_)
  ·refine Zwp 1 rfl ?_;refine Zu (.agg (api_Note.av a_.Note)) rfl rfl rfl rfl ?_;refine Zpp 1 rfl ?_;refine Zu (.agg (api_Note.av b_.Note)) rfl rfl rfl rfl ?_;refine Zpp 3 rfl ?_;refine YT rfl rfl rfl h (fun _ h=> ?_) (fun _ h=> ?_)
   ·refine Zwp 1 rfl ?_;refine Zu (.agg (api_Proof.av a_.Proof)) rfl rfl rfl rfl ?_;refine Zpp 1 rfl ?_;refine Zu (.agg (api_Proof.av b_.Proof)) rfl rfl rfl rfl ?_;refine Zpp 3 rfl ?_;refine YT rfl rfl rfl h (fun _ h=> ?_) (fun _ h=> ?_)
    ·refine Zwp 1 rfl ?_;refine Zu (.agg (api_Verdict.av a_.Verdict)) rfl rfl rfl rfl ?_;refine Zpp 1 rfl ?_;refine Zu (.agg (api_Verdict.av b_.Verdict)) rfl rfl rfl rfl ?_;refine Zpp 3 rfl ?_;refine YT rfl rfl rfl h (fun _ h=> ?_) (fun _ h=> ?_)
     ·refine Zwp 1 rfl ?_;refine Zu (.agg (api_Hold.av a_.Hold)) rfl rfl rfl rfl ?_;refine Zpp 1 rfl ?_;refine Zu (.agg (api_Hold.av b_.Hold)) rfl rfl rfl rfl ?_;refine Zpp 3 rfl ?_;refine YT rfl rfl rfl h (fun _ h=> ?_) (fun _ h=> ?_)
      ·refine Zwp 1 rfl ?_;refine Zu (.agg (api_Order.av a_.Order)) rfl rfl rfl rfl ?_;refine Zpp 1 rfl ?_;refine Zu (.agg (api_Order.av b_.Order)) rfl rfl rfl rfl ?_;refine Zpp 3 rfl ?_;refine YT rfl rfl rfl h (fun _ h=> ?_) (fun _ h=> ?_)
       ·refine Zwp 4 rfl ?_;refine Y2 rfl rfl rfl ?_;refine bindK h fun y3 hy3 h=> ?_;refine W.call rfl (slices_Equal_bool_bool_fn hy3) ?_;refine Zwb 6 rfl ?_;cases h;cases hG;exact ⟨rfl,trivial⟩
       ·refine Zpb 9 rfl ?_;cases h;cases hG;exact ⟨rfl,trivial⟩
      ·refine Zpb 16 rfl ?_;cases h;cases hG;exact ⟨rfl,trivial⟩
     ·refine Zpb 23 rfl ?_;cases h;cases hG;exact ⟨rfl,trivial⟩
    ·refine Zpb 30 rfl ?_;cases h;cases hG;exact ⟨rfl,trivial⟩
   ·refine Zpb 37 rfl ?_;cases h;cases hG;exact ⟨rfl,trivial⟩
  ·refine Zpb 44 rfl ?_;cases h;cases hG;exact ⟨rfl,trivial⟩
noncomputable def gate_Right (in_:api_Input):Option (Bool):=
 (gate_fields (api_Input.mk in_.Kind in_.Net in_.Event in_.Local in_.N (api_Raw.mk in_.Raw.Account in_.Raw.Seq in_.Raw.Kind in_.Raw.Group in_.Raw.On in_.Raw.Quote in_.Raw.Who in_.Raw.N in_.Raw.Text in_.Raw.Files) (api_Note.mk in_.Note.Message in_.Note.Who in_.Note.Level in_.Note.Step in_.Note.Not) (api_Proof.mk in_.Proof.Kind in_.Proof.A in_.Proof.B) (api_Verdict.mk in_.Verdict.Name in_.Verdict.Step in_.Verdict.Bad) (api_Hold.mk in_.Hold.Id in_.Hold.Event in_.Hold.From in_.Hold.To) (api_Order.mk in_.Order.Kind in_.Order.Event in_.Order.By in_.Order.Step) in_.Up)).bind fun y1=>
 (bif y1.2 then
  (gate_same (api_Input.mk y1.1.Kind y1.1.Net y1.1.Event y1.1.Local y1.1.N (api_Raw.mk y1.1.Raw.Account y1.1.Raw.Seq y1.1.Raw.Kind y1.1.Raw.Group y1.1.Raw.On y1.1.Raw.Quote y1.1.Raw.Who y1.1.Raw.N y1.1.Raw.Text y1.1.Raw.Files) (api_Note.mk y1.1.Note.Message y1.1.Note.Who y1.1.Note.Level y1.1.Note.Step y1.1.Note.Not) (api_Proof.mk y1.1.Proof.Kind y1.1.Proof.A y1.1.Proof.B) (api_Verdict.mk y1.1.Verdict.Name y1.1.Verdict.Step y1.1.Verdict.Bad) (api_Hold.mk y1.1.Hold.Id y1.1.Hold.Event y1.1.Hold.From y1.1.Hold.To) (api_Order.mk y1.1.Order.Kind y1.1.Order.Event y1.1.Order.By y1.1.Order.Step) y1.1.Up) (api_Input.mk in_.Kind in_.Net in_.Event in_.Local in_.N (api_Raw.mk in_.Raw.Account in_.Raw.Seq in_.Raw.Kind in_.Raw.Group in_.Raw.On in_.Raw.Quote in_.Raw.Who in_.Raw.N in_.Raw.Text in_.Raw.Files) (api_Note.mk in_.Note.Message in_.Note.Who in_.Note.Level in_.Note.Step in_.Note.Not) (api_Proof.mk in_.Proof.Kind in_.Proof.A in_.Proof.B) (api_Verdict.mk in_.Verdict.Name in_.Verdict.Step in_.Verdict.Bad) (api_Hold.mk in_.Hold.Id in_.Hold.Event in_.Hold.From in_.Hold.To) (api_Order.mk in_.Order.Kind in_.Order.Event in_.Order.By in_.Order.Step) in_.Up)).bind fun y2=>
  some y2
 else
  some false)
theorem gate_Right_fn {dr:Prop} {in_:api_Input} {r:Bool} (h:gate_Right in_=some r):Fn dr Tryz.prog 24 [.agg (api_Input.av in_)] (VB r):=by
 refine Fn.of_AW (dr:=dr) (F:=FnX dr Tryz.prog) (base:=0) (js:= []) mixed tok noeqs (fun _ _ _ h=> h) Tryz.call24 Tryz.func24 rfl Tryz.ntmps24 (by rw [Tryz.results24]) (by simp) ?_;have hG:(fun x=> x=r) r:=rfl;unfold gate_Right at h;refine Zap 2 rfl ?_;refine Zm (.lp 1 1 0) (Mem.add _ 1 (.box (api_Input.av in_))) rfl rfl ?_;refine Zpp 5 rfl ?_;refine Zo (.agg (api_Input.av in_)) rfl rfl ?_;refine Y1 rfl ?_;refine bindK h fun y1 hy1 h=> ?_;refine W.call rfl (gate_fields_fn hy1) ?_;refine W.det (.tup [.agg (api_Input.av y1.1),VB y1.2]) _ rfl ?_;refine Zo (.tup [.agg (api_Input.av y1.1),VB y1.2]) rfl rfl ?_;refine Zo (.agg (api_Input.av y1.1)) rfl rfl ?_;refine Zpp 1 rfl ?_;refine Zm (.lp 3 1 0) (Mem.add (Mem.add (Mem.add _ 983043 (.rows 1 (List.map (encI .i64) ([]:List Int)) false)) 2293763 (.rows 1 (List.map encB ([]:List Bool)) false)) 3 (.box [VI 0,VI 0,VI 0,VI 0,VI 0,VI 0,VI 0,VI 0,VI 0,VI 0,VI 0,VI 0,VI 0,VS (ByteArray.mk #[]),.row 983043 1 0,VI 0,VI 0,VI 0,VI 0,VB false,VI 0,VI 0,VI 0,VI 0,VI 0,VB false,VI 0,VI 0,VI 0,VI 0,VI 0,VI 0,VI 0,VI 0,.row 2293763 1 0])) rfl rfl ?_;refine Zm (.tup []) (Mem.set _ 3 1 (some (.box (api_Input.av y1.1)))) rfl rfl ?_;refine Zpp 7 rfl ?_;refine YT rfl rfl rfl h (fun _ h=> ?_) (fun _ h=> ?_)
 ·refine W.det (.agg (api_Input.av y1.1)) _ rfl ?_;refine Zu (.agg (api_Input.av in_)) rfl rfl rfl rfl ?_;refine Y2 rfl rfl rfl ?_;refine bindK h fun y2 hy2 h=> ?_;refine W.call rfl (gate_same_fn hy2) ?_;refine Zwb 6 rfl ?_;cases h;cases hG;exact ⟨rfl,trivial⟩
 ·refine Zpb 7 rfl ?_;cases h;cases hG;exact ⟨rfl,trivial⟩
noncomputable def slices_Equal_api_Debt_api_Debt_L1 (s1_:(List api_Debt)) (s2_:(List api_Debt)) (s3:Int):Option ((Int)⊕((Unit)⊕(Bool))):=
 (bif (decide (s3 < (s1_.length:Int))) then
  (getI s1_ s3).bind fun x23=>
  (getI s2_ s3).bind fun x24=>
  (bif (!((x23.Event==x24.Event) && ((x23.Net==x24.Net) && true))) then
   some (.inr (.inr false))
  else
   some (.inl (IntKind.i64.wrap (s3 + (1:Int)))))
 else
  some (.inr (.inl ())))
noncomputable def slices_Equal_api_Debt_api_Debt (s1_:(List api_Debt)) (s2_:(List api_Debt)):Option (Bool):=
 (bif ((s1_.length:Int) !=(s2_.length:Int)) then
  some false
 else
  (seqF (A:=Unit) (
   loopF (slices_Equal_api_Debt_api_Debt_L1 s1_ s2_) (0:Int))
  fun s2=>
   some true))
theorem slices_Equal_api_Debt_api_Debt_fn {dr:Prop} {s1_:(List api_Debt)} {s2_:(List api_Debt)} {r:Bool} (h:slices_Equal_api_Debt_api_Debt s1_ s2_=some r):Fn dr Tryz.prog 30 [VF (List.map api_Debt.enc s1_),VF (List.map api_Debt.enc s2_)] (VB r):=by
 refine Fn.of_AW (dr:=dr) (F:=FnX dr Tryz.prog) (base:=0) (js:= [9]) mixed tok noeqs (fun _ _ _ h=> h) Tryz.call30 Tryz.func30 rfl Tryz.ntmps30 (by rw [Tryz.results30]) (by simp) ?_;have hG:(fun x=> x=r) r:=rfl;unfold slices_Equal_api_Debt_api_Debt at h;refine Zap 9 rfl ?_;refine Y1 rfl ?_;refine W.len rfl ?_;refine Zpp 1 rfl ?_;refine Y1 rfl ?_;refine W.len rfl ?_;refine Zpc 3 rfl ?_;refine A.condB rfl h (fun _ h=> ?_) (fun _ h=> ?_)
 ·refine Zcb 7 rfl ?_;cases h;cases hG;exact ⟨rfl,trivial⟩
 ·refine Zcc 2 rfl ?_;refine A.join (fun (s2:Unit)=> []) (fun s2=> []) _ h hG rfl ?_ ?_
  ·intro J f h hG;refine Zap 3 rfl ?_;refine Y1 rfl ?_;refine W.len rfl ?_;refine Zpc 4 rfl ?_;refine A.loop (fun (s3:Int)=> [(0,VF (List.map api_Debt.enc s1_)),(1,VF (List.map api_Debt.enc s2_)),(12,VI (s1_.length:Int)),(13,VI s3)]) (fun s3=> []) _ h hG (Zf [] [] rfl rfl (Ze rfl rfl (Ze rfl rfl (Ze rfl rfl (Ze rfl rfl trivial)))) trivial) ?_;intro J s3 f h hG;unfold slices_Equal_api_Debt_api_Debt_L1 at h;refine Zac 6 rfl ?_;refine A.condB rfl h (fun _ h=> ?_) (fun _ h=> ?_)
   ·refine Zcc 11 rfl ?_;refine A.regionD (by kernel_rfl) ?_;refine Zpp 2 rfl ?_;refine Y1 rfl ?_;refine bindK h fun x23 hx23 h=> ?_;refine W.chk rfl (elemB hx23) ?_;refine W.elem rfl (elemG hx23) ?_;refine W.chk rfl rfl ?_;refine W.det (.fp [.v (.int .i64 x23.Event),.v (.int .i64 x23.Net)]) _ rfl ?_;refine Zo (.agg (api_Debt.av x23)) rfl rfl ?_;refine Zpp 2 rfl ?_;refine Y1 rfl ?_;refine bindK h fun x24 hx24 h=> ?_;refine W.chk rfl (elemB hx24) ?_;refine W.elem rfl (elemG hx24) ?_;refine W.chk rfl rfl ?_;refine W.det (.fp [.v (.int .i64 x24.Event),.v (.int .i64 x24.Net)]) _ rfl ?_;refine Zo (.agg (api_Debt.av x24)) rfl rfl ?_;refine Zpc 3 rfl ?_;refine A.condB rfl h (fun _ h=> ?_) (fun _ h=> ?_)
    ·refine Zcb 8 rfl ?_;refine headK.r ?_;refine Zob 1 rfl ?_;refine headK.r ?_;cases h;cases hG;exact ⟨rfl,trivial⟩
    ·refine Zcb 7 rfl ?_;cases h;exact Zh hG [] [] rfl rfl (Ze rfl rfl (Ze rfl rfl (Ze rfl rfl (Ze rfl rfl trivial)))) trivial
   ·refine Zcb 2 rfl ?_;refine headK.e ?_;refine Zob 1 rfl ?_;cases h;exact Zh hG [] [] rfl rfl trivial trivial
  ·intro s2 r2 h hG;refine Zcb 6 rfl ?_;cases h;cases hG;exact ⟨rfl,trivial⟩
noncomputable def cmp_isNaN_int (x_:Int):Option (Bool):=
 some (x_ !=x_)
theorem cmp_isNaN_int_fn {dr:Prop} {x_:Int} {r:Bool} (h:cmp_isNaN_int x_=some r):Fn dr Tryz.prog 79 [VI x_] (VB r):=by
 refine Fn.of_AW (dr:=dr) (F:=FnX dr Tryz.prog) (base:=0) (js:= []) mixed tok noeqs (fun _ _ _ h=> h) Tryz.call79 Tryz.func79 rfl Tryz.ntmps79 (by rw [Tryz.results79]) (by simp) ?_;have hG:(fun x=> x=r) r:=rfl;unfold cmp_isNaN_int at h;refine Zab 14 rfl ?_;cases h;cases hG;exact ⟨rfl,trivial⟩
noncomputable def cmp_Compare_int (x_:Int) (y_:Int):Option (Int):=
 (cmp_isNaN_int x_).bind fun y1=>
 (cmp_isNaN_int y_).bind fun y2=>
 (bif y1 then
  (bif y2 then
   some (0:Int)
  else
   some (-1:Int))
 else
  (bif y2 then
   some (1:Int)
  else
   (bif (decide (x_ < y_)) then
    some (-1:Int)
   else
    (bif (decide (y_ < x_)) then
     some (1:Int)
    else
     some (0:Int)))))
theorem cmp_Compare_int_fn {dr:Prop} {x_:Int} {y_:Int} {r:Int} (h:cmp_Compare_int x_ y_=some r):Fn dr Tryz.prog 29 [VI x_,VI y_] (VI r):=by
 refine Fn.of_AW (dr:=dr) (F:=FnX dr Tryz.prog) (base:=0) (js:= []) mixed tok noeqs (fun _ _ _ h=> h) Tryz.call29 Tryz.func29 rfl Tryz.ntmps29 (by rw [Tryz.results29]) (by simp) ?_;have hG:(fun x=> x=r) r:=rfl;unfold cmp_Compare_int at h;refine Zap 8 rfl ?_;refine Y1 rfl ?_;refine bindK h fun y1 hy1 h=> ?_;refine W.call rfl (cmp_isNaN_int_fn hy1) ?_;refine Zwp 7 rfl ?_;refine Y1 rfl ?_;refine bindK h fun y2 hy2 h=> ?_;refine W.call rfl (cmp_isNaN_int_fn hy2) ?_;refine Zwc 10 rfl ?_;refine A.condB rfl h (fun _ h=> ?_) (fun _ h=> ?_)
 ·refine Zcc 6 rfl ?_;refine A.condB rfl h (fun _ h=> ?_) (fun _ h=> ?_)
  ·refine Zcb 8 rfl ?_;cases h;cases hG;exact ⟨rfl,trivial⟩
  ·refine Zcb 9 rfl ?_;cases h;cases hG;exact ⟨rfl,trivial⟩
 ·refine Zcc 8 rfl ?_;refine A.condB rfl h (fun _ h=> ?_) (fun _ h=> ?_)
  ·refine Zcb 7 rfl ?_;cases h;cases hG;exact ⟨rfl,trivial⟩
  ·refine Zcc 10 rfl ?_;refine A.condB rfl h (fun _ h=> ?_) (fun _ h=> ?_)
   ·refine Zcb 7 rfl ?_;cases h;cases hG;exact ⟨rfl,trivial⟩
   ·refine Zcc 10 rfl ?_;refine A.condB rfl h (fun _ h=> ?_) (fun _ h=> ?_)
    ·refine Zcb 7 rfl ?_;cases h;cases hG;exact ⟨rfl,trivial⟩
    ·refine Zcb 8 rfl ?_;cases h;cases hG;exact ⟨rfl,trivial⟩
noncomputable def cmp_Or_int_L1 (vals_:(List Int)) (s3:Int):Option ((Int)⊕((Unit)⊕(Int))):=
 (bif (decide (s3 < (vals_.length:Int))) then
  (getI vals_ s3).bind fun x12=>
  (bif (x12 !=(0:Int)) then
   some (.inr (.inr x12))
  else
   some (.inl (IntKind.i64.wrap (s3 + (1:Int)))))
 else
  some (.inr (.inl ())))
noncomputable def cmp_Or_int (vals_:(List Int)):Option (Int):=
 (seqF (A:=Unit) (
  loopF (cmp_Or_int_L1 vals_) (0:Int))
 fun s2=>
  some (0:Int))
theorem cmp_Or_int_fn {dr:Prop} {vals_:(List Int)} {r:Int} (h:cmp_Or_int vals_=some r):Fn dr Tryz.prog 28 [VF (List.map (encI .i64) vals_)] (VI r):=by
 refine Fn.of_AW (dr:=dr) (F:=FnX dr Tryz.prog) (base:=0) (js:= [8]) mixed tok noeqs (fun _ _ _ h=> h) Tryz.call28 Tryz.func28 rfl Tryz.ntmps28 (by rw [Tryz.results28]) (by simp) ?_;have hG:(fun x=> x=r) r:=rfl;unfold cmp_Or_int at h;refine Zac 10 rfl ?_;refine A.join (fun (s2:Unit)=> [(3,VI 0)]) (fun s2=> []) _ h hG rfl ?_ ?_
 ·intro J f h hG;refine Zap 3 rfl ?_;refine Y1 rfl ?_;refine W.len rfl ?_;refine Zpc 4 rfl ?_;refine A.loop (fun (s3:Int)=> [(3,VI 0),(6,VF (List.map (encI .i64) vals_)),(7,VI (vals_.length:Int)),(8,VI s3)]) (fun s3=> []) _ h hG (Zf [] [] rfl rfl (Ze rfl rfl (Ze rfl rfl (Ze rfl rfl (Ze rfl rfl trivial)))) trivial) ?_;intro J s3 f h hG;unfold cmp_Or_int_L1 at h;refine Zac 6 rfl ?_;refine A.condB rfl h (fun _ h=> ?_) (fun _ h=> ?_)
  ·refine Zcp 6 rfl ?_;refine Y1 rfl ?_;refine bindK h fun x12 hx12 h=> ?_;refine W.chk rfl (elemB hx12) ?_;refine W.elem rfl (elemG hx12) ?_;refine W.chk rfl rfl ?_;refine W.det (.fp [.v (.int .i64 x12)]) _ rfl ?_;refine Zpc 11 rfl ?_;refine A.condB rfl h (fun _ h=> ?_) (fun _ h=> ?_)
   ·refine Zcb 9 rfl ?_;refine headK.r ?_;refine Zob 1 rfl ?_;refine headK.r ?_;cases h;cases hG;exact ⟨rfl,trivial⟩
   ·refine Zcb 7 rfl ?_;cases h;exact Zh hG [] [] rfl rfl (Ze rfl rfl (Ze rfl rfl (Ze rfl rfl (Ze rfl rfl trivial)))) trivial
  ·refine Zcb 2 rfl ?_;refine headK.e ?_;refine Zob 1 rfl ?_;cases h;exact Zh hG [] [] rfl rfl (Ze rfl rfl trivial) trivial
 ·intro s2 r2 h hG;refine Zcb 7 rfl ?_;cases h;cases hG;exact ⟨rfl,trivial⟩
noncomputable def audit_Debts_1 (a_:api_Debt) (b_:api_Debt):Option (Int):=
 (cmp_Compare_int a_.Event b_.Event).bind fun y1=>
 (cmp_Compare_int a_.Net b_.Net).bind fun y2=>
 (cmp_Or_int [y1,y2]).bind fun y3=>
 some y3
theorem audit_Debts_1_fn {dr:Prop} {a_:api_Debt} {b_:api_Debt} {r:Int} (h:audit_Debts_1 a_ b_=some r):Fn dr Tryz.prog 27 [.agg (api_Debt.av a_),.agg (api_Debt.av b_)] (VI r):=by
 refine Fn.of_AW (dr:=dr) (F:=FnX dr Tryz.prog) (base:=0) (js:= []) mixed tok noeqs (fun _ _ _ h=> h) Tryz.call27 Tryz.func27 rfl Tryz.ntmps27 (by rw [Tryz.results27]) (by simp) ?_;have hG:(fun x=> x=r) r:=rfl;unfold audit_Debts_1 at h;refine Zap 2 rfl ?_;refine Zm (.lp 2 1 0) (Mem.add _ 2 (.box (api_Debt.av a_))) rfl rfl ?_;refine Zm (.lp 3 1 0) (Mem.add _ 3 (.box (api_Debt.av b_))) rfl rfl ?_;refine Zpc 4 rfl ?_;refine A.regionD (by kernel_rfl) ?_;refine Zpp 4 rfl ?_;refine Y1 rfl ?_;refine bindK h fun y1 hy1 h=> ?_;refine W.call rfl (cmp_Compare_int_fn hy1) ?_;refine Zwp 5 rfl ?_;refine Y1 rfl ?_;refine bindK h fun y2 hy2 h=> ?_;refine W.call rfl (cmp_Compare_int_fn hy2) ?_;refine Zwp 1 rfl ?_;refine Zm (.row 15 1 2) (Mem.add _ 15 (.rows 1 (List.map (encI .i64) [y1,y2]) false)) rfl rfl ?_;refine Y1 rfl ?_;refine bindK h fun y3 hy3 h=> ?_;refine W.call rfl (cmp_Or_int_fn hy3) ?_;refine Zwb 5 rfl ?_;cases h;cases hG;exact ⟨rfl,trivial⟩
end Go.Proofs.YtiklglcjecopcaaGreatDoor
namespace Go.Proofs.YtiklglcjecopcaaGreatDoor
open Go.RowKit
attribute [local irreducible] IntKind.wrap AW runL Step.wp
set_option linter.unusedVariables false
set_option maxHeartbeats 4000000
set_option maxRecDepth 100000
theorem slices_Grow_api_Out_api_Out_fn {dr:Prop} {n:Int} {r:List api_Out} (h:growL n=some r):FnX dr Tryz.prog 111 [.tup [.ow 0 []],VI n] (.ow 14 (List.map api_Out.enc r)):=
 (tok 48 rfl).info.elim fun _ q=> grow_fnx (sz:=14) Tryz.grow111 q.1 q.2.2.2 (by rw [q.2.1];decide) (by rw [q.2.2.1];decide) q.2.1 rfl Tryz.call111 api_Out.enc h
noncomputable def slices_Concat_api_Out_api_Out_L1 (slices_:(List (List api_Out))) (s3:Int×Int):Option ((Int×Int)⊕((Int)⊕((List api_Out)))):=
 (bif (decide (s3.2 < (slices_.length:Int))) then
  (getI slices_ s3.2).bind fun x12=>
  (bif (decide ((IntKind.i64.wrap (s3.1 + (x12.length:Int))) < (0:Int))) then
   none
  else
   some (.inl ((IntKind.i64.wrap (s3.1 + (x12.length:Int))),(IntKind.i64.wrap (s3.2 + (1:Int))))))
 else
  some (.inr (.inl s3.1)))
noncomputable def slices_Concat_api_Out_api_Out_L2 (slices_:(List (List api_Out))) (s6:Int×(List api_Out)):Option ((Int×(List api_Out))⊕(((List api_Out))⊕((List api_Out)))):=
 (bif (decide (s6.1 < (slices_.length:Int))) then
  (getI slices_ s6.1).bind fun x36=>
  (chkO (decide (s6.2.length + x36.length≤1000000))).bind fun _=>
  some (.inl ((IntKind.i64.wrap (s6.1 + (1:Int))),(s6.2 ++ x36)))
 else
  some (.inr (.inl s6.2)))
noncomputable def slices_Concat_api_Out_api_Out (slices_:(List (List api_Out))):Option ((List api_Out)):=
 (seqF (A:=Int) (
  loopF (slices_Concat_api_Out_api_Out_L1 slices_) ((0:Int),(0:Int)))
 fun s2=>
  (growL (A:=api_Out) s2).bind fun y13=>
  (seqF (A:=(List api_Out)) (
   loopF (slices_Concat_api_Out_api_Out_L2 slices_) ((0:Int),y13))
  fun s5=>
   some s5))
theorem slices_Concat_api_Out_api_Out_fn {dr:Prop} {slices_:(List (List api_Out))} {r:(List api_Out)} (h:slices_Concat_api_Out_api_Out slices_=some r):Fn dr Tryz.prog 70 [VF (List.map (encL api_Out.enc) slices_)] (.ow 14 (List.map api_Out.enc r)):=by
 refine Fn.of_AW (dr:=dr) (F:=FnX dr Tryz.prog) (base:=0) (js:= [9,15]) mixed tok noeqs (fun _ _ _ h=> h) Tryz.call70 Tryz.func70 rfl Tryz.ntmps70 (by rw [Tryz.results70]) (by simp) ?_;have hG:(fun x=> x=r) r:=rfl;unfold slices_Concat_api_Out_api_Out at h;refine Zap 2 rfl ?_;refine Zm (.row 2 1 0) (Mem.add _ 2 (.rows 14 (List.map api_Out.enc ([]:List api_Out)) false)) rfl rfl ?_;refine Zpc 7 rfl ?_;refine A.join (fun (s2:Int)=> [(0,VF (List.map (encL api_Out.enc) slices_)),(3,VI s2)]) (fun s2=> []) _ h hG rfl ?_ ?_
 ·intro J f h hG;refine Zap 3 rfl ?_;refine Y1 rfl ?_;refine W.len rfl ?_;refine Zpc 4 rfl ?_;refine A.loop (fun (s3:Int×Int)=> [(0,VF (List.map (encL api_Out.enc) slices_)),(3,VI s3.1),(9,VF (List.map (encL api_Out.enc) slices_)),(10,VI (slices_.length:Int)),(11,VI s3.2)]) (fun s3=> []) _ h hG (Zf [] [] rfl rfl (Ze rfl rfl (Ze rfl rfl (Ze rfl rfl (Ze rfl rfl (Ze rfl rfl trivial))))) trivial) ?_;intro J s3 f h hG;unfold slices_Concat_api_Out_api_Out_L1 at h;refine Zac 6 rfl ?_;refine A.condB rfl h (fun _ h=> ?_) (fun _ h=> ?_)
  ·refine Zcp 6 rfl ?_;refine Y1 rfl ?_;refine bindK h fun x12 hx12 h=> ?_;refine W.chk rfl (elemB hx12) ?_;refine W.elem rfl (elemG hx12) ?_;refine W.chk rfl rfl ?_;refine W.det (.fp [.fz (List.map api_Out.enc x12)]) _ rfl ?_;refine Zpp 8 rfl ?_;refine Y1 rfl ?_;refine W.len rfl ?_;refine Zpc 10 rfl ?_;refine A.condB rfl h (fun _ h=> ?_) (fun _ h=> ?_)
   ·cases h
   ·refine Zcb 7 rfl ?_;cases h;exact Zh hG [] [] rfl rfl (Ze rfl rfl (Ze rfl rfl (Ze rfl rfl (Ze rfl rfl (Ze rfl rfl trivial))))) trivial
  ·refine Zcb 2 rfl ?_;refine headK.e ?_;refine Zob 1 rfl ?_;cases h;exact Zh hG [] [] rfl rfl (Ze rfl rfl (Ze rfl rfl trivial)) trivial
 ·intro s2 r2 h hG;refine Zcp 3 rfl ?_;refine Y1 rfl ?_;refine bindK h fun y13 hy13 h=> ?_;refine W.call rfl (slices_Grow_api_Out_api_Out_fn hy13) ?_;refine W.v (.row 24 2 (List.map api_Out.enc y13).length) (.row 24 2 y13.length) (Mem.add _ 24 (.rows 14 (List.map api_Out.enc y13) false)) rfl (by simp only [List.length_map]) ?_;refine Zo (.row 24 2 y13.length) rfl rfl ?_;refine Zpc 2 rfl ?_;refine A.join (fun (s5:(List api_Out))=> [(6,.row 900000 1 s5.length)]) (fun s5=> [(900000,.rows 14 (List.map api_Out.enc s5) false)]) _ h hG rfl ?_ ?_
  ·intro J f h hG;refine Zap 3 rfl ?_;refine Y1 rfl ?_;refine W.len rfl ?_;refine Zpc 4 rfl ?_;refine A.loop (fun (s6:Int×(List api_Out))=> [(6,.row 900000 1 s6.2.length),(25,VF (List.map (encL api_Out.enc) slices_)),(26,VI (slices_.length:Int)),(27,VI s6.1)]) (fun s6=> [(900000,.rows 14 (List.map api_Out.enc s6.2) false)]) _ h hG (Zf [] [(900000,(24,2))] rfl rfl (Ze rfl rfl (Ze rfl rfl (Ze rfl rfl (Ze rfl rfl trivial)))) (Zc rfl rfl trivial)) ?_;intro J s6 f h hG;unfold slices_Concat_api_Out_api_Out_L2 at h;refine Zac 6 rfl ?_;refine A.condB rfl h (fun _ h=> ?_) (fun _ h=> ?_)
   ·refine Zcp 6 rfl ?_;refine Y1 rfl ?_;refine bindK h fun x36 hx36 h=> ?_;refine W.chk rfl (elemB hx36) ?_;refine W.elem rfl (elemG hx36) ?_;refine W.chk rfl rfl ?_;refine W.det (.fp [.fz (List.map api_Out.enc x36)]) _ rfl ?_;refine Zpp 5 rfl ?_;refine Zo (.row 900000 1 s6.2.length) rfl rfl ?_;refine Zpp 1 rfl ?_;refine Y1 rfl ?_;refine chkK h fun g37 h=> ?_;refine W.chk rfl (appChk (fun _=> rfl) g37) ?_;refine W.app rfl rfl ?_;refine Zo (.row 900000 2 (s6.2 ++ x36).length) rfl rfl ?_;refine Zpb 7 rfl ?_;cases h;exact Zh hG [] [(900000,(900000,2))] rfl rfl (Ze rfl rfl (Ze rfl rfl (Ze rfl rfl (Ze rfl rfl trivial)))) (Zc rfl rfl trivial)
   ·refine Zcb 2 rfl ?_;refine headK.e ?_;refine Zob 1 rfl ?_;cases h;exact Zh hG [] [(900000,(900000,1))] rfl rfl (Ze rfl rfl trivial) (Zc rfl rfl trivial)
  ·intro s5 r2 h hG;refine Zcp 2 rfl ?_;refine Zo (.row 900000 1 s5.length) rfl rfl ?_;refine Zo (.row 900000 1 s5.length) rfl rfl ?_;refine Zpb 3 rfl ?_;cases h;cases hG;exact ⟨rfl,rfl,trivial⟩
structure audit_given where
 net:Int
 event:Int
 part:Int
def audit_given.enc (x:audit_given):List D:= [.v (.int .i64 x.net),.v (.int .i64 x.event),.v (.int .i64 x.part)]
abbrev audit_given.av (x:audit_given):List AV:= [VI x.net,VI x.event,VI x.part]
noncomputable def audit_items_L1 (y20:(List api_Out)) (s3:Int×(List audit_given)):Option ((Int×(List audit_given))⊕(((List audit_given))⊕((List audit_given)))):=
 (bif (decide (s3.1 < ((y20.length:Nat):Int))) then
  (chkO (decide (0≤s3.1) && decide (s3.1 < ((y20.length:Nat):Int)))).bind fun _=>
  (getI y20 s3.1).bind fun x37=>
  (bif (x37.Kind==(0:Int)) then
   (chkO (decide (s3.2.length + [(audit_given.mk x37.Net x37.Item.Event x37.Item.Part)].length≤1000000))).bind fun _=>
   some (.inl ((IntKind.i64.wrap (s3.1 + (1:Int))),(s3.2 ++ [(audit_given.mk x37.Net x37.Item.Event x37.Item.Part)])))
  else
   some (.inl ((IntKind.i64.wrap (s3.1 + (1:Int))),s3.2)))
 else
  some (.inr (.inl s3.2)))
noncomputable def audit_items (outs_:(List (List api_Out))):Option ((List audit_given)):=
 (seqF (A:=(List audit_given)) (
  (slices_Concat_api_Out_api_Out outs_).bind fun y20=>
  loopF (audit_items_L1 y20) ((0:Int),([]:List audit_given)))
 fun s2=>
  some s2)
theorem audit_items_fn {dr:Prop} {outs_:(List (List api_Out))} {r:(List audit_given)} (h:audit_items outs_=some r):Fn dr Tryz.prog 20 [VF (List.map (encL api_Out.enc) outs_)] (.ow 3 (List.map audit_given.enc r)):=by
 refine Fn.of_AW (dr:=dr) (F:=FnX dr Tryz.prog) (base:=0) (js:= [8]) mixed tok noeqs (fun _ _ _ h=> h) Tryz.call20 Tryz.func20 rfl Tryz.ntmps20 (by rw [Tryz.results20]) (by simp) ?_;have hG:(fun x=> x=r) r:=rfl;unfold audit_items at h;refine Zap 2 rfl ?_;refine Zm (.row 2 1 0) (Mem.add _ 2 (.rows 3 (List.map audit_given.enc ([]:List audit_given)) false)) rfl rfl ?_;refine Zpp 4 rfl ?_;refine Zm (.row 3 1 0) (Mem.add _ 3 (.rows 3 (List.map audit_given.enc ([]:List audit_given)) false)) rfl rfl ?_;refine Zpc 2 rfl ?_;refine A.join (fun (s2:(List audit_given))=> [(3,.row 900000 1 s2.length)]) (fun s2=> [(900000,.rows 3 (List.map audit_given.enc s2) false)]) _ h hG rfl ?_ ?_
 ·intro J f h hG;refine Zap 3 rfl ?_;refine Y1 rfl ?_;refine bindK h fun y20 hy20 h=> ?_;refine W.call rfl (slices_Concat_api_Out_api_Out_fn hy20) ?_;refine W.v (.row 7 1 (List.map api_Out.enc y20).length) (.row 7 1 y20.length) (Mem.add _ 7 (.rows 14 (List.map api_Out.enc y20) false)) rfl (by simp only [List.length_map]) ?_;refine Zpc 5 rfl ?_;refine A.loop (fun (s3:Int×(List audit_given))=> [(3,.row 900000 1 s3.2.length),(7,.row 900001 1 y20.length),(8,VI ((y20.length:Nat):Int)),(9,VI s3.1)]) (fun s3=> [(900000,.rows 3 (List.map audit_given.enc s3.2) false),(900001,.rows 14 (List.map api_Out.enc y20) false)]) _ h hG (Zf [] [(900000,(3,1)),(900001,(7,1))] rfl rfl (Ze rfl rfl (Ze rfl rfl (Ze rfl rfl (Ze rfl rfl trivial)))) (Zc rfl rfl (Zc rfl rfl trivial))) ?_;intro J s3 f h hG;unfold audit_items_L1 at h;refine Zac 6 rfl ?_;refine A.condB rfl h (fun _ h=> ?_) (fun _ h=> ?_)
  ·refine Zcp 6 rfl ?_;refine Y1 rfl ?_;refine chkK h fun g36 h=> ?_;refine W.chk rfl (by simpa using g36) ?_;refine W.det (.rp 900001 1 s3.1.toNat 0) _ rfl ?_;refine Y1 rfl ?_;refine bindK h fun x37 hx37 h=> ?_;refine W.elem rfl (elemG hx37) ?_;refine W.det (.agg [VI x37.Kind,VI x37.Net,VI x37.Event,VI x37.Item.Event,VI x37.Item.Part,VI x37.Item.Of,VI x37.Item.Kind,VI x37.Item.On,VI x37.Item.OnPart,VI x37.Item.Quote,VI x37.Item.Who,VI x37.Item.N,VS x37.Item.Text,VF (List.map (encI .i64) x37.Item.Files)]) _ rfl ?_;refine Zm (.lp 5 2 0) (Mem.add (Mem.add _ 917509 (.rows 1 (List.map (encI .i64) ([]:List Int)) false)) 5 (.box [VI 0,VI 0,VI 0,VI 0,VI 0,VI 0,VI 0,VI 0,VI 0,VI 0,VI 0,VI 0,VS (ByteArray.mk #[]),.row 917509 2 0])) rfl rfl ?_;refine Zm (.tup []) (Mem.set _ 5 2 (some (.box [VI x37.Kind,VI x37.Net,VI x37.Event,VI x37.Item.Event,VI x37.Item.Part,VI x37.Item.Of,VI x37.Item.Kind,VI x37.Item.On,VI x37.Item.OnPart,VI x37.Item.Quote,VI x37.Item.Who,VI x37.Item.N,VS x37.Item.Text,VF (List.map (encI .i64) x37.Item.Files)]))) rfl rfl ?_;refine Zpc 9 rfl ?_;refine A.condB rfl h (fun _ h=> ?_) (fun _ h=> ?_)
   ·refine Zcp 1 rfl ?_;refine Zo (.row 900000 1 s3.2.length) rfl rfl ?_;refine Zpp 8 rfl ?_;refine Zo (.agg [VI x37.Net,VI x37.Item.Event,VI x37.Item.Part]) rfl rfl ?_;refine Zm (.row 26 2 1) (Mem.add _ 26 (.rows 3 (List.map audit_given.enc [(audit_given.mk x37.Net x37.Item.Event x37.Item.Part)]) false)) rfl rfl ?_;refine Y1 rfl ?_;refine chkK h fun g38 h=> ?_;refine W.chk rfl (appChk (fun _=> rfl) g38) ?_;refine W.app rfl rfl ?_;refine Zo (.row 900000 2 (s3.2 ++ [(audit_given.mk x37.Net x37.Item.Event x37.Item.Part)]).length) rfl rfl ?_;refine Zpb 7 rfl ?_;cases h;exact Zh hG [] [(900000,(900000,2)),(900001,(900001,1))] rfl rfl (Ze rfl rfl (Ze rfl rfl (Ze rfl rfl (Ze rfl rfl trivial)))) (Zc rfl rfl (Zc rfl rfl trivial))
   ·refine Zcb 7 rfl ?_;cases h;exact Zh hG [] [(900000,(900000,1)),(900001,(900001,1))] rfl rfl (Ze rfl rfl (Ze rfl rfl (Ze rfl rfl (Ze rfl rfl trivial)))) (Zc rfl rfl (Zc rfl rfl trivial))
  ·refine Zcb 2 rfl ?_;refine headK.e ?_;refine Zob 1 rfl ?_;cases h;exact Zh hG [] [(900000,(900000,1))] rfl rfl (Ze rfl rfl trivial) (Zc rfl rfl trivial)
 ·intro s2 r2 h hG;refine Zcp 2 rfl ?_;refine Zo (.row 900000 1 s2.length) rfl rfl ?_;refine Zo (.row 900000 1 s2.length) rfl rfl ?_;refine Zpb 3 rfl ?_;cases h;cases hG;exact ⟨rfl,rfl,trivial⟩
def audit_given.key (x:audit_given):Value:= .agg #[.int .i64 x.net,.int .i64 x.event,.int .i64 x.part]
instance:BEq audit_given:=⟨fun a b=> (a.net==b.net && (a.event==b.event && (a.part==b.part && true)))⟩
noncomputable def audit_Once_L1 (y14:(List audit_given)) (s3:Int×(List (audit_given×Bool))):Option ((Int×(List (audit_given×Bool)))⊕((Unit)⊕(Bool))):=
 (bif (decide (s3.1 < ((y14.length:Nat):Int))) then
  (chkO (decide (0≤s3.1) && decide (s3.1 < ((y14.length:Nat):Int)))).bind fun _=>
  (getI y14 s3.1).bind fun x26=>
  (bif (mgetT x26 s3.2 false) then
   some (.inr (.inr false))
  else
   some (.inl ((IntKind.i64.wrap (s3.1 + (1:Int))),(mputT x26 true s3.2))))
 else
  some (.inr (.inl ())))
noncomputable def audit_Once (outs_:(List (List api_Out))):Option (Bool):=
 (seqF (A:=Unit) (
  (audit_items outs_).bind fun y14=>
  loopF (audit_Once_L1 y14) ((0:Int),([]:List (audit_given×Bool))))
 fun s2=>
  some true)
theorem audit_Once_fn {dr:Prop} {outs_:(List (List api_Out))} {r:Bool} (h:audit_Once outs_=some r):Fn dr Tryz.prog 8 [VF (List.map (encL api_Out.enc) outs_)] (VB r):=by
 refine Fn.of_AW (dr:=dr) (F:=FnX dr Tryz.prog) (base:=0) (js:= [9]) mixed tok noeqs (fun _ _ _ h=> h) Tryz.call8 Tryz.func8 rfl Tryz.ntmps8 (by rw [Tryz.results8]) (by simp) ?_;have hG:(fun x=> x=r) r:=rfl;unfold audit_Once at h;refine Zap 7 rfl ?_;refine Zm (.mp 6 1) (Mem.add _ 6 (.mapi (.st 3) (mapE audit_given.key vB ([]:List (audit_given×Bool))))) rfl rfl ?_;refine Zo (.mp 6 1) rfl rfl ?_;refine Zpc 2 rfl ?_;refine A.join (fun (s2:Unit)=> []) (fun s2=> []) _ h hG rfl ?_ ?_
 ·intro J f h hG;refine Zap 3 rfl ?_;refine Y1 rfl ?_;refine bindK h fun y14 hy14 h=> ?_;refine W.call rfl (audit_items_fn hy14) ?_;refine W.v (.row 8 1 (List.map audit_given.enc y14).length) (.row 8 1 y14.length) (Mem.add _ 8 (.rows 3 (List.map audit_given.enc y14) false)) rfl (by simp only [List.length_map]) ?_;refine Zpc 5 rfl ?_;refine A.loop (fun (s3:Int×(List (audit_given×Bool)))=> [(3,.mp 900000 1),(8,.row 900001 1 y14.length),(9,VI ((y14.length:Nat):Int)),(10,VI s3.1)]) (fun s3=> [(900000,.mapi (.st 3) (mapE audit_given.key vB s3.2)),(900001,.rows 3 (List.map audit_given.enc y14) false)]) _ h hG (Zf [] [(900000,(6,1)),(900001,(8,1))] rfl rfl (Ze rfl rfl (Ze rfl rfl (Ze rfl rfl (Ze rfl rfl trivial)))) (Zc rfl rfl (Zc rfl rfl trivial))) ?_;intro J s3 f h hG;unfold audit_Once_L1 at h;refine Zac 6 rfl ?_;refine A.condB rfl h (fun _ h=> ?_) (fun _ h=> ?_)
  ·refine Zcp 6 rfl ?_;refine Y1 rfl ?_;refine chkK h fun g25 h=> ?_;refine W.chk rfl (by simpa using g25) ?_;refine W.det (.rp 900001 1 s3.1.toNat 0) _ rfl ?_;refine Y1 rfl ?_;refine bindK h fun x26 hx26 h=> ?_;refine W.elem rfl (elemG hx26) ?_;refine W.det (.agg (audit_given.av x26)) _ rfl ?_;refine Zm (.lp 5 2 0) (Mem.add _ 5 (.box [VI 0,VI 0,VI 0])) rfl rfl ?_;refine Zm (.tup []) (Mem.set _ 5 2 (some (.box (audit_given.av x26)))) rfl rfl ?_;refine Zpp 5 rfl ?_;refine Zo (.mp 900000 1) rfl rfl ?_;refine Zo (.agg (audit_given.av x26)) rfl rfl ?_;refine Y1 rfl ?_;refine W.look audit_given.key vB x26 s3.2 false (fun _ _=> rfl) rfl ?_;refine Zpc 2 rfl ?_;refine A.condB rfl h (fun _ h=> ?_) (fun _ h=> ?_)
   ·refine Zcb 9 rfl ?_;refine headK.r ?_;refine Zob 1 rfl ?_;refine headK.r ?_;cases h;cases hG;exact ⟨rfl,trivial⟩
   ·refine Zcp 3 rfl ?_;refine Zo (.mp 900000 1) rfl rfl ?_;refine Zo (.agg (audit_given.av x26)) rfl rfl ?_;refine Y1 rfl ?_;refine W.mput audit_given.key vB x26 true s3.2 (fun _ _=> rfl) rfl ?_;refine Zpb 7 rfl ?_;cases h;exact Zh hG [] [(900000,(900000,1)),(900001,(900001,1))] rfl rfl (Ze rfl rfl (Ze rfl rfl (Ze rfl rfl (Ze rfl rfl trivial)))) (Zc rfl rfl (Zc rfl rfl trivial))
  ·refine Zcb 2 rfl ?_;refine headK.e ?_;refine Zob 1 rfl ?_;cases h;exact Zh hG [] [] rfl rfl trivial trivial
 ·intro s2 r2 h hG;refine Zcb 6 rfl ?_;cases h;cases hG;exact ⟨rfl,trivial⟩
noncomputable def slices_Clone_int_int_a:Option ((List Int)):=
 some ([]:List Int)
theorem slices_Clone_int_int_a_fn {dr:Prop} {r:(List Int)} (h:slices_Clone_int_int_a=some r):Fn dr Tryz.prog 71 [.d (.v (.slice none 0 0))] (.ow 1 (List.map (encI .i64) r)):=by
 refine Fn.of_AW (dr:=dr) (F:=FnX dr Tryz.prog) (base:=0) (js:= []) mixed tok noeqs (fun _ _ _ h=> h) Tryz.call71 Tryz.func71 rfl Tryz.ntmps71 (by rw [Tryz.results71]) (by simp) ?_;have hG:(fun x=> x=r) r:=rfl;unfold slices_Clone_int_int_a at h;refine Zap 2 rfl ?_;refine Zm (.row 2 1 0) (Mem.add _ 2 (.rows 1 (List.map (encI .i64) ([]:List Int)) false)) rfl rfl ?_;refine Zpp 5 rfl ?_;refine Zo (.d (.v (.slice none 0 0))) rfl rfl ?_;refine Zpp 6 rfl ?_;refine Zm (.row 2 2 0) (Mem.add _ 2 (.rows 1 (List.map (encI .i64) ([]:List Int)) false)) rfl rfl ?_;refine Zpb 4 rfl ?_;cases h;cases hG;exact ⟨rfl,rfl,trivial⟩
noncomputable def slices_Clone_int_int_b (a_:Addr) (c_:Nat):Option ((List Int)):=
 (chkO (decide (0 + ([]:List Int).length≤1000000))).bind fun _=>
 some (([]:List Int) ++ ([]:List Int))
theorem slices_Clone_int_int_b_fn {dr:Prop} {a_:Addr} {c_:Nat} {r:(List Int)} (h:slices_Clone_int_int_b a_ c_=some r):Fn dr Tryz.prog 71 [.d (.v (.slice (some a_) 0 c_))] (.ow 1 (List.map (encI .i64) r)):=by
 refine Fn.of_AW (dr:=dr) (F:=FnX dr Tryz.prog) (base:=0) (js:= []) mixed tok noeqs (fun _ _ _ h=> h) Tryz.call71 Tryz.func71 rfl Tryz.ntmps71 (by rw [Tryz.results71]) (by simp) ?_;have hG:(fun x=> x=r) r:=rfl;unfold slices_Clone_int_int_b at h;refine Zap 2 rfl ?_;refine Zm (.row 2 1 0) (Mem.add _ 2 (.rows 1 (List.map (encI .i64) ([]:List Int)) false)) rfl rfl ?_;refine Zpp 5 rfl ?_;refine Zo (.d (.v (.slice (some a_) 0 c_))) rfl rfl ?_;refine Zpp 8 rfl ?_;refine Zm (.row 5 1 0) (Mem.add _ 5 (.rows 1 (List.map (encI .i64) ([]:List Int)) false)) rfl rfl ?_;refine Zo (.d (.v (.slice (some a_) 0 c_))) rfl rfl ?_;refine Y1 rfl ?_;refine chkK h fun g1 h=> ?_;refine W.chk rfl ⟨fun _ hc=> (by cases hc),of_decide_eq_true g1⟩ ?_;refine W.rows (0 + (List.map (encI .i64) ([]:List Int)).length) (([]:List Int) ++ ([]:List Int)).length ([] ++ (List.map (encI .i64) ([]:List Int))) (List.map (encI .i64) (([]:List Int) ++ ([]:List Int))) rfl (by first | rfl | (simp;done) | simp only [partMap,List.length_map,List.length_append,List.nil_append,Nat.zero_add,List.length_nil]) (by first | rfl | (simp;done) | simp only [partMap,List.map_append,List.nil_append,List.map_nil]) ?_;refine Zo (.row 5 2 (([]:List Int) ++ ([]:List Int)).length) rfl rfl ?_;refine Zpb 3 rfl ?_;cases h;cases hG;exact ⟨rfl,rfl,trivial⟩
noncomputable def slices_Clone_int_int_c (x_:Int) (s_:(List Int)):Option ((List Int)):=
 (chkO (decide (0 + (x_::s_).length≤1000000))).bind fun _=>
 some (([]:List Int) ++ (x_::s_))
theorem slices_Clone_int_int_c_fn {dr:Prop} {x_:Int} {s_:(List Int)} {r:(List Int)} (h:slices_Clone_int_int_c x_ s_=some r):Fn dr Tryz.prog 71 [VF (List.map (encI .i64) (x_::s_))] (.ow 1 (List.map (encI .i64) r)):=by
 refine Fn.of_AW (dr:=dr) (F:=FnX dr Tryz.prog) (base:=0) (js:= []) mixed tok noeqs (fun _ _ _ h=> h) Tryz.call71 Tryz.func71 rfl Tryz.ntmps71 (by rw [Tryz.results71]) (by simp) ?_;have hG:(fun x=> x=r) r:=rfl;unfold slices_Clone_int_int_c at h;refine Zap 2 rfl ?_;refine Zm (.row 2 1 0) (Mem.add _ 2 (.rows 1 (List.map (encI .i64) ([]:List Int)) false)) rfl rfl ?_;refine Zpp 14 rfl ?_;refine Zm (.row 5 1 0) (Mem.add _ 5 (.rows 1 (List.map (encI .i64) ([]:List Int)) false)) rfl rfl ?_;refine Zpp 1 rfl ?_;refine Y1 rfl ?_;refine chkK h fun g1 h=> ?_;refine W.chk rfl (appChk (fun _=> rfl) g1) ?_;refine W.rows (0 + (List.map (encI .i64) (x_::s_)).length) (([]:List Int) ++ (x_::s_)).length ([] ++ (List.map (encI .i64) (x_::s_))) (List.map (encI .i64) (([]:List Int) ++ (x_::s_))) rfl (by first | rfl | (simp;done) | simp only [partMap,List.length_map,List.length_append,List.nil_append,Nat.zero_add,List.length_nil]) (by first | rfl | (simp;done) | simp only [partMap,List.map_append,List.nil_append,List.map_nil]) ?_;refine Zo (.row 5 2 (([]:List Int) ++ (x_::s_)).length) rfl rfl ?_;refine Zpb 3 rfl ?_;cases h;cases hG;exact ⟨rfl,rfl,trivial⟩
noncomputable def slices_Clone_int_int (s_:List Int):Option (List Int):=(chkO (decide (s_.length≤1000000))).bind fun _=> some s_
theorem slices_Clone_int_int_fn {dr:Prop} {s_ r:List Int} (h:slices_Clone_int_int s_=some r):Fn dr Tryz.prog 71 [VF (List.map (encI .i64) s_)] (.ow 1 (List.map (encI .i64) r)):=by
 have e:s_=r:=cloneE h
 subst e
 cases s_ with
 | nil=> exact Fn.slice0 (slices_Clone_int_int_a_fn rfl) fun a c=> slices_Clone_int_int_b_fn (a_:=a) (c_:=c) rfl
 | cons x s=>
  refine slices_Clone_int_int_c_fn ?_;unfold slices_Clone_int_int at h;unfold slices_Clone_int_int_c
  simpa only [List.nil_append,Nat.zero_add] using h
end Go.Proofs.YtiklglcjecopcaaGreatDoor
namespace Go.Proofs.YtiklglcjecopcaaGreatDoor
open Go.RowKit Go.Shelf
theorem keysM_any (mb:Option Nat) (w:World):Calls Tryz.prog 26 #[.map mb] w fun e w'=> e= .returned (.func (.func 78) #[] #[.pointer (some ⟨w.heap.size,0,none⟩)])∧w'=w.alloc (.cells #[.map mb] 96):=by
 go_enter Tryz.func26,Tryz.ntmps26
 go_wp2_with fail
 go_ret
 exact ⟨rfl,rfl⟩
theorem maps_Keys_map_api_Debt_bool_api_Debt_bool_fnk:FnKeys Tryz.prog 26 (.fn 78 []):=
 ⟨78,rfl,Tryz.call26,96,fun mb w=> keysM_any (some mb) w⟩
end Go.Proofs.YtiklglcjecopcaaGreatDoor

/-
Plain programs of functions, and that the functions do what they say. Printed by wip/tools/gen.py.
-/
import Derived.Test.YtnegekppaoedgaaGreatDoorQ15
set_option linter.all false
noncomputable section
namespace Go.Proofs.YtnegekppaoedgaaGreatDoor
section
open Go.RowKit
attribute [local irreducible] IntKind.wrap AW bF Step.wp
set_option maxHeartbeats 4000000
set_option maxRecDepth 100000
def jU (b_:Bool):Option (Int):=
 (bif b_ then
  some (1:Int)
 else
  some (0:Int))
theorem qF {dr:Prop} {b_:Bool} {r:Int} (h:jU b_=some r):Fn dr Tryz.prog 22 [VB b_] (VI r):=by
 refine Fn.jZ (dr:=dr) (F:=vM dr Tryz.prog) (base:=0) (js:= []) mixed tok kC (fun _ _ _ h=> h) Tryz.call22 Tryz.func22 rfl Tryz.ntmps22 (by rw [Tryz.results22]) (by simp) ?_;have hG:(fun x=> x=r) r:=rfl;unfold jU at h;refine Zac 11 rfl ?_;refine A.gV rfl h (fun _ h=> ?_) (fun _ h=> ?_)
 ·refine vN 7 rfl ?_;cases h;cases hG;exact ⟨rfl,trivial⟩
 ·refine vN 8 rfl ?_;cases h;cases hG;exact ⟨rfl,trivial⟩
def iG (aT:ak) (s3:ByteArray×Int):Option ((ByteArray×Int)⊕((ByteArray)⊕(ByteArray))):=
 (bif (decide (s3.2 < (aT.Up.length:Int))) then
  (oV aT.Up s3.2).bind fun x94=>
  (jU x94).bind fun y95=>
  (sF y95).bind fun y96=>
  (uZ (decide (s3.1.size + y96.size≤1000000000))).bind fun _=>
  some (.inl ((s3.1 ++ y96),(IntKind.i64.wrap (s3.2 + (1:Int)))))
 else
  some (.inr (.inl s3.1)))
def cZ (aT:ak):Option (ByteArray):=
 (fO (ak.mk aT.Kind aT.Net aT.Event aT.Local aT.N (aQ.mk aT.Raw.Account aT.Raw.Seq aT.Raw.Kind aT.Raw.dN aT.Raw.On aT.Raw.Quote aT.Raw.Who aT.Raw.N aT.Raw.Text aT.Raw.Files) (dI.mk aT.Note.Message aT.Note.Who aT.Note.Level aT.Note.Step aT.Note.Not) (dh.mk aT.Proof.Kind aT.Proof.A aT.Proof.B) (bD.mk aT.aB.Name aT.aB.Step aT.aB.Bad) (dJ.mk aT.Hold.Id aT.Hold.Event aT.Hold.From aT.Hold.To) (dn.mk aT.Order.Kind aT.Order.Event aT.Order.By aT.Order.Step) aT.Up)).bind fun y2=>
 (bif (!y2) then
  some (ByteArray.mk #[])
 else
  (bif (aT.Kind==(0:Int)) then
   (bJ [aT.Kind,aT.Raw.Account,aT.Raw.Seq,aT.Raw.Kind,aT.Raw.dN]).bind fun y26=>
   (pK aT.Raw.On).bind fun y27=>
   (uZ (decide (y26.size + y27.size≤1000000000))).bind fun _=>
   (pK aT.Raw.Quote).bind fun y29=>
   (uZ (decide ((y26 ++ y27).size + y29.size≤1000000000))).bind fun _=>
   (pK aT.Raw.Who).bind fun y31=>
   (uZ (decide (((y26 ++ y27) ++ y29).size + y31.size≤1000000000))).bind fun _=>
   (sF aT.Raw.N).bind fun y33=>
   (uZ (decide ((((y26 ++ y27) ++ y29) ++ y31).size + y33.size≤1000000000))).bind fun _=>
   (ug aT.Raw.Files).bind fun y35=>
   (uZ (decide (((((y26 ++ y27) ++ y29) ++ y31) ++ y33).size + y35.size≤1000000000))).bind fun _=>
   (uf aT.Raw.Text).bind fun y37=>
   (uZ (decide ((((((y26 ++ y27) ++ y29) ++ y31) ++ y33) ++ y35).size + y37.size≤1000000000))).bind fun _=>
   some ((((((y26 ++ y27) ++ y29) ++ y31) ++ y33) ++ y35) ++ y37)
  else
   (bif (aT.Kind==(1:Int)) then
    (bJ [aT.Kind,aT.Net,aT.Event,aT.N,aT.Local]).bind fun y39=>
    some y39
   else
    (bif (aT.Kind==(2:Int)) then
     (jU aT.Note.Not).bind fun y40=>
     (bJ [aT.Kind,aT.Net,aT.Note.Message,aT.Note.Who,aT.Note.Level,y40]).bind fun y41=>
     some y41
    else
     (bif (aT.Kind==(3:Int)) then
      (bJ [aT.Kind,aT.Proof.Kind,aT.Proof.A,aT.Proof.B]).bind fun y42=>
      some y42
     else
      (bif (aT.Kind==(4:Int)) then
       (jU aT.aB.Bad).bind fun y43=>
       (bJ [aT.Kind,aT.aB.Name,y43]).bind fun y44=>
       some y44
      else
       (bif (aT.Kind==(5:Int)) then
        (bJ [aT.Kind,aT.Hold.Id,aT.Hold.Event]).bind fun y45=>
        some y45
       else
        (bif (aT.Kind==(6:Int)) then
         (bJ [aT.Kind,aT.N]).bind fun y46=>
         some y46
        else
         (bif (aT.Kind==(7:Int)) then
          (bJ [aT.Kind,aT.Order.Kind,aT.Order.Event,aT.Order.By]).bind fun y47=>
          some y47
         else
          (bif (aT.Kind==(8:Int)) then
           (bJ [aT.Kind,aT.Net,aT.Event]).bind fun y48=>
           some y48
          else
           (bJ [aT.Kind,(aT.Up.length:Int)]).bind fun y49=>
           (gq (A:=ByteArray) (
            iY (iG aT) (y49,(0:Int)))
           fun s2=>
            some s2)))))))))))
theorem NJ {aT:ak} {r:ByteArray} (h:cZ aT=some r):Fn False Tryz.prog 6 [.agg (ak.av aT)] (VS r):=by
 refine Fn.jZ (dr:=False) (F:=vM False Tryz.prog) (base:=0) (js:= [29]) mixed tok kC (fun _ _ _ h=> h) Tryz.call6 Tryz.func6 rfl Tryz.ntmps6 (by rw [Tryz.results6]) (by simp) ?_;have hG:(fun x=> x=r) r:=rfl;unfold cZ at h;refine zJ 2 rfl ?_;refine Zm (.lp 1 1 0) (Mem.add _ 1 (.box (ak.av aT))) rfl rfl ?_;refine lT 6 rfl ?_;refine Zo (.agg (ak.av aT)) rfl rfl ?_;refine Y1 rfl ?_;refine bP h fun y2 hy2 h=> ?_;refine W.call rfl (lD hy2) ?_;refine Zwc 4 rfl ?_;refine A.gV rfl h (fun _ h=> ?_) (fun _ h=> ?_)
 ·refine vN 7 rfl ?_;cases h;cases hG;exact ⟨rfl,trivial⟩
 ·refine I4 3 rfl ?_;refine A.ae7 [0,1,4,5,6,2,3,7] (by kernel_rfl) ?_;refine R.at_ rfl rfl ?_;refine Zo (.lp 1 1 5) rfl rfl ?_;refine R.nil ?_;refine R.at_ rfl rfl ?_;refine Zo (.agg (aQ.av aT.Raw)) rfl rfl ?_;refine R.nil ?_;refine R.at_ rfl rfl ?_;refine Zm (.lp 3 1 0) (Mem.add (Mem.add _ 655363 (.rows 1 (List.map (encI .i64) ([]:List Int)) false)) 3 (.box [VI 0,VI 0,VI 0,VI 0,VI 0,VI 0,VI 0,VI 0,VS (ByteArray.mk #[]),.row 655363 1 0])) rfl rfl ?_;refine R.nil ?_;refine R.at_ rfl rfl ?_;refine Zm (.lp 4 1 0) (Mem.add _ 4 (.box [VI 0,VI 0,VI 0,VI 0,VB false])) rfl rfl ?_;refine R.nil ?_;refine R.at_ rfl rfl ?_;refine Zm (.bH []) (Mem.set _ 3 1 (some (.box (aQ.av aT.Raw)))) rfl rfl ?_;refine R.nil ?_;refine R.at_ rfl rfl ?_;refine Zo (.lp 1 1 15) rfl rfl ?_;refine R.nil ?_;refine R.at_ rfl rfl ?_;refine Zo (.agg [VI aT.Note.Message,VI aT.Note.Who,VI aT.Note.Level,VI aT.Note.Step,VB aT.Note.Not]) rfl rfl ?_;refine R.nil ?_;refine R.at_ rfl rfl ?_;refine Zm (.bH []) (Mem.set _ 4 1 (some (.box [VI aT.Note.Message,VI aT.Note.Who,VI aT.Note.Level,VI aT.Note.Step,VB aT.Note.Not]))) rfl rfl ?_;refine R.nil ?_;refine R.end_ ?_;refine Zoc 15 rfl ?_;refine A.gV rfl h (fun _ h=> ?_) (fun _ h=> ?_)
  ·refine I4 1 rfl ?_;refine A.qh (by kernel_rfl) ?_;refine lT 10 rfl ?_;refine Zm (.row 29 1 5) (Mem.add _ 29 (.rows 1 (List.map (encI .i64) [aT.Kind,aT.Raw.Account,aT.Raw.Seq,aT.Raw.Kind,aT.Raw.dN]) false)) rfl rfl ?_;refine Y1 rfl ?_;refine bP h fun y26 asq h=> ?_;refine W.call rfl (dU asq) ?_;refine iZ 3 rfl ?_;refine Y1 rfl ?_;refine bP h fun y27 hy27 h=> ?_;refine W.call rfl (sG hy27) ?_;refine iZ 1 rfl ?_;refine Y1 rfl ?_;refine SV h fun g28 h=> ?_;refine W.chk rfl (of_decide_eq_true g28) ?_;refine iZ 3 rfl ?_;refine Y1 rfl ?_;refine bP h fun y29 hy29 h=> ?_;refine W.call rfl (sG hy29) ?_;refine iZ 1 rfl ?_;refine Y1 rfl ?_;refine SV h fun g30 h=> ?_;refine W.chk rfl (of_decide_eq_true g30) ?_;refine iZ 3 rfl ?_;refine Y1 rfl ?_;refine bP h fun y31 hy31 h=> ?_;refine W.call rfl (sG hy31) ?_;refine iZ 1 rfl ?_;refine Y1 rfl ?_;refine SV h fun g32 h=> ?_;refine W.chk rfl (of_decide_eq_true g32) ?_;refine iZ 3 rfl ?_;refine Y1 rfl ?_;refine bP h fun y33 asr h=> ?_;refine W.call rfl (zW asr) ?_;refine iZ 1 rfl ?_;refine Y1 rfl ?_;refine SV h fun g34 h=> ?_;refine W.chk rfl (of_decide_eq_true g34) ?_;refine iZ 3 rfl ?_;refine Y1 rfl ?_;refine bP h fun y35 asu h=> ?_;refine W.call rfl (NI asu) ?_;refine iZ 1 rfl ?_;refine Y1 rfl ?_;refine SV h fun g36 h=> ?_;refine W.chk rfl (of_decide_eq_true g36) ?_;refine iZ 3 rfl ?_;refine Y1 rfl ?_;refine bP h fun y37 asv h=> ?_;refine W.call rfl (NH asv) ?_;refine iZ 1 rfl ?_;refine Y1 rfl ?_;refine SV h fun g38 h=> ?_;refine W.chk rfl (of_decide_eq_true g38) ?_;refine AL 7 rfl ?_;cases h;cases hG;exact ⟨rfl,trivial⟩
  ·refine I4 6 rfl ?_;refine A.gV rfl h (fun _ h=> ?_) (fun _ h=> ?_)
   ·refine Tc 12 rfl ?_;refine Zm (.row 67 1 5) (Mem.add _ 67 (.rows 1 (List.map (encI .i64) [aT.Kind,aT.Net,aT.Event,aT.N,aT.Local]) false)) rfl rfl ?_;refine Y1 rfl ?_;refine bP h fun y39 hy39 h=> ?_;refine W.call rfl (dU hy39) ?_;refine AL 7 rfl ?_;cases h;cases hG;exact ⟨rfl,trivial⟩
   ·refine I4 6 rfl ?_;refine A.gV rfl h (fun _ h=> ?_) (fun _ h=> ?_)
    ·refine I4 1 rfl ?_;refine A.qh (by kernel_rfl) ?_;refine lT 12 rfl ?_;refine Y1 rfl ?_;refine bP h fun y40 asw h=> ?_;refine W.call rfl (qF asw) ?_;refine iZ 1 rfl ?_;refine Zm (.row 84 1 6) (Mem.add _ 84 (.rows 1 (List.map (encI .i64) [aT.Kind,aT.Net,aT.Note.Message,aT.Note.Who,aT.Note.Level,y40]) false)) rfl rfl ?_;refine Y1 rfl ?_;refine bP h fun y41 asx h=> ?_;refine W.call rfl (dU asx) ?_;refine AL 7 rfl ?_;cases h;cases hG;exact ⟨rfl,trivial⟩
    ·refine I4 6 rfl ?_;refine A.gV rfl h (fun _ h=> ?_) (fun _ h=> ?_)
     ·refine Tc 13 rfl ?_;refine Zm (.row 99 1 4) (Mem.add _ 99 (.rows 1 (List.map (encI .i64) [aT.Kind,aT.Proof.Kind,aT.Proof.A,aT.Proof.B]) false)) rfl rfl ?_;refine Y1 rfl ?_;refine bP h fun y42 asy h=> ?_;refine W.call rfl (dU asy) ?_;refine AL 7 rfl ?_;cases h;cases hG;exact ⟨rfl,trivial⟩
     ·refine I4 6 rfl ?_;refine A.gV rfl h (fun _ h=> ?_) (fun _ h=> ?_)
      ·refine I4 1 rfl ?_;refine A.qh (by kernel_rfl) ?_;refine lT 8 rfl ?_;refine Y1 rfl ?_;refine bP h fun y43 asz h=> ?_;refine W.call rfl (qF asz) ?_;refine iZ 1 rfl ?_;refine Zm (.row 112 1 3) (Mem.add _ 112 (.rows 1 (List.map (encI .i64) [aT.Kind,aT.aB.Name,y43]) false)) rfl rfl ?_;refine Y1 rfl ?_;refine bP h fun y44 asA h=> ?_;refine W.call rfl (dU asA) ?_;refine AL 7 rfl ?_;cases h;cases hG;exact ⟨rfl,trivial⟩
      ·refine I4 6 rfl ?_;refine A.gV rfl h (fun _ h=> ?_) (fun _ h=> ?_)
       ·refine Tc 10 rfl ?_;refine Zm (.row 124 1 3) (Mem.add _ 124 (.rows 1 (List.map (encI .i64) [aT.Kind,aT.Hold.Id,aT.Hold.Event]) false)) rfl rfl ?_;refine Y1 rfl ?_;refine bP h fun y45 asC h=> ?_;refine W.call rfl (dU asC) ?_;refine AL 7 rfl ?_;cases h;cases hG;exact ⟨rfl,trivial⟩
       ·refine I4 6 rfl ?_;refine A.gV rfl h (fun _ h=> ?_) (fun _ h=> ?_)
        ·refine Tc 6 rfl ?_;refine Zm (.row 132 1 2) (Mem.add _ 132 (.rows 1 (List.map (encI .i64) [aT.Kind,aT.N]) false)) rfl rfl ?_;refine Y1 rfl ?_;refine bP h fun y46 asD h=> ?_;refine W.call rfl (dU asD) ?_;refine AL 7 rfl ?_;cases h;cases hG;exact ⟨rfl,trivial⟩
        ·refine I4 6 rfl ?_;refine A.gV rfl h (fun _ h=> ?_) (fun _ h=> ?_)
         ·refine Tc 13 rfl ?_;refine Zm (.row 147 1 4) (Mem.add _ 147 (.rows 1 (List.map (encI .i64) [aT.Kind,aT.Order.Kind,aT.Order.Event,aT.Order.By]) false)) rfl rfl ?_;refine Y1 rfl ?_;refine bP h fun y47 hy47 h=> ?_;refine W.call rfl (dU hy47) ?_;refine AL 7 rfl ?_;cases h;cases hG;exact ⟨rfl,trivial⟩
         ·refine I4 6 rfl ?_;refine A.gV rfl h (fun _ h=> ?_) (fun _ h=> ?_)
          ·refine Tc 8 rfl ?_;refine Zm (.row 157 1 3) (Mem.add _ 157 (.rows 1 (List.map (encI .i64) [aT.Kind,aT.Net,aT.Event]) false)) rfl rfl ?_;refine Y1 rfl ?_;refine bP h fun y48 asE h=> ?_;refine W.call rfl (dU asE) ?_;refine AL 7 rfl ?_;cases h;cases hG;exact ⟨rfl,trivial⟩
          ·refine Tc 9 rfl ?_;refine Y1 rfl ?_;refine W.len rfl ?_;refine Zm (.row 164 1 2) (Mem.add _ 164 (.rows 1 (List.map (encI .i64) [aT.Kind,(aT.Up.length:Int)]) false)) rfl rfl ?_;refine Y1 rfl ?_;refine bP h fun y49 asF h=> ?_;refine W.call rfl (dU asF) ?_;refine Zwc 4 rfl ?_;refine A.join (fun (s2:ByteArray)=> [(5,VS s2)]) (fun s2=> []) _ h hG rfl ?_ ?_
           ·intro J f h hG;refine zJ 4 rfl ?_;refine Y1 rfl ?_;refine W.len rfl ?_;refine Rw 4 rfl ?_;refine A.loop (fun (s3:ByteArray×Int)=> [(5,VS s3.1),(167,VF (List.map jo aT.Up)),(168,VI (aT.Up.length:Int)),(169,VI s3.2)]) (fun s3=> []) _ h hG (Zf [] [] rfl rfl (Ze rfl rfl (Ze rfl rfl (Ze rfl rfl (Ze rfl rfl trivial)))) trivial) ?_;intro J s3 f h hG;unfold iG at h;refine Zac 6 rfl ?_;refine A.gV rfl h (fun _ h=> ?_) (fun _ h=> ?_)
            ·refine Tc 6 rfl ?_;refine Y1 rfl ?_;refine bP h fun x94 aoU h=> ?_;refine W.chk rfl (uF aoU) ?_;refine W.elem rfl (uG aoU) ?_;refine W.chk rfl rfl ?_;refine W.NR (.fp [.v (.bool x94)]) _ rfl ?_;refine lT 7 rfl ?_;refine Y1 rfl ?_;refine bP h fun y95 hy95 h=> ?_;refine W.call rfl (qF hy95) ?_;refine iZ 1 rfl ?_;refine Y1 rfl ?_;refine bP h fun y96 hy96 h=> ?_;refine W.call rfl (zW hy96) ?_;refine iZ 1 rfl ?_;refine Y1 rfl ?_;refine SV h fun g97 h=> ?_;refine W.chk rfl (of_decide_eq_true g97) ?_;refine AL 9 rfl ?_;cases h;exact Zh hG [] [] rfl rfl (Ze rfl rfl (Ze rfl rfl (Ze rfl rfl (Ze rfl rfl trivial)))) trivial
            ·refine vN 2 rfl ?_;refine iI.e ?_;refine Zob 1 rfl ?_;cases h;exact Zh hG [] [] rfl rfl (Ze rfl rfl trivial) trivial
           ·intro s2 r2 h hG;refine vN 7 rfl ?_;cases h;cases hG;exact ⟨rfl,trivial⟩
def pO (x_:ak):Option (Bool):=
 (bif (decide ((x_.Raw.Text.size:Int)≤(200:Int))) then
  (bif (decide ((x_.Raw.Files.length:Int)≤(6:Int))) then
   some (decide ((x_.Up.length:Int)≤(20:Int)))
  else
   some false)
 else
  some false)
theorem NK {dr:Prop} {x_:ak} {r:Bool} (h:pO x_=some r):Fn dr Tryz.prog 5 [.agg (ak.av x_)] (VB r):=by
 refine Fn.jZ (dr:=dr) (F:=vM dr Tryz.prog) (base:=0) (js:= []) mixed tok kC (fun _ _ _ h=> h) Tryz.call5 Tryz.func5 rfl Tryz.ntmps5 (by rw [Tryz.results5]) (by simp) ?_;have hG:(fun x=> x=r) r:=rfl;unfold pO at h;refine zJ 2 rfl ?_;refine Zm (.lp 1 1 0) (Mem.add _ 1 (.box (ak.av x_))) rfl rfl ?_;refine lT 11 rfl ?_;refine YT rfl rfl rfl h (fun _ h=> ?_) (fun _ h=> ?_)
 ·refine iZ 3 rfl ?_;refine Y2 rfl rfl rfl ?_;refine W.len rfl ?_;refine lT 3 rfl ?_;refine YT rfl rfl rfl h (fun _ h=> ?_) (fun _ h=> ?_)
  ·refine iZ 2 rfl ?_;refine Y2 rfl rfl rfl ?_;refine W.len rfl ?_;refine kS 6 rfl ?_;cases h;cases hG;exact ⟨rfl,trivial⟩
  ·refine kS 8 rfl ?_;cases h;cases hG;exact ⟨rfl,trivial⟩
 ·refine kS 15 rfl ?_;cases h;cases hG;exact ⟨rfl,trivial⟩
def lF (a_:(List Int)) (b_:(List Int)) (s3:Int):Option ((Int)⊕((Unit)⊕(Bool))):=
 (bif (decide (s3 < (a_.length:Int))) then
  (oV a_ s3).bind fun x23=>
  (oV b_ s3).bind fun x24=>
  (bif (x23 !=x24) then
   some (.inr (.inr false))
  else
   some (.inl (IntKind.i64.wrap (s3 + (1:Int)))))
 else
  some (.inr (.inl ())))
def nK (a_:(List Int)) (b_:(List Int)):Option (Bool):=
 (bif ((a_.length:Int) !=(b_.length:Int)) then
  some false
 else
  (gq (A:=Unit) (
   iY (lF a_ b_) (0:Int))
  fun s2=>
   some true))
theorem H9 {dr:Prop} {a_:(List Int)} {b_:(List Int)} {r:Bool} (h:nK a_ b_=some r):Fn dr Tryz.prog 32 [VF (List.map (encI .i64) a_),VF (List.map (encI .i64) b_)] (VB r):=by
 refine Fn.jZ (dr:=dr) (F:=vM dr Tryz.prog) (base:=0) (js:= [8]) mixed tok kC (fun _ _ _ h=> h) Tryz.call32 Tryz.func32 rfl Tryz.ntmps32 (by rw [Tryz.results32]) (by simp) ?_;have hG:(fun x=> x=r) r:=rfl;unfold nK at h;refine zJ 9 rfl ?_;refine Y1 rfl ?_;refine W.len rfl ?_;refine lT 1 rfl ?_;refine Y1 rfl ?_;refine W.len rfl ?_;refine Rw 3 rfl ?_;refine A.gV rfl h (fun _ h=> ?_) (fun _ h=> ?_)
 ·refine vN 7 rfl ?_;cases h;cases hG;exact ⟨rfl,trivial⟩
 ·refine I4 2 rfl ?_;refine A.join (fun (s2:Unit)=> []) (fun s2=> []) _ h hG rfl ?_ ?_
  ·intro J f h hG;refine Zac 6 rfl ?_;refine A.loop (fun (s3:Int)=> [(0,VF (List.map (encI .i64) a_)),(1,VF (List.map (encI .i64) b_)),(5,VI s3)]) (fun s3=> []) _ h hG (Zf [] [] rfl rfl (Ze rfl rfl (Ze rfl rfl (Ze rfl rfl trivial))) trivial) ?_;intro J s3 f h hG;unfold lF at h;refine zJ 5 rfl ?_;refine Y1 rfl ?_;refine W.len rfl ?_;refine Rw 3 rfl ?_;refine A.gV rfl h (fun _ h=> ?_) (fun _ h=> ?_)
   ·refine I4 5 rfl ?_;refine A.qh (by kernel_rfl) ?_;refine lT 2 rfl ?_;refine Y1 rfl ?_;refine bP h fun x23 Fh h=> ?_;refine W.chk rfl (uF Fh) ?_;refine W.elem rfl (uG Fh) ?_;refine W.chk rfl rfl ?_;refine W.NR (.fp [.v (.int .i64 x23)]) _ rfl ?_;refine lT 3 rfl ?_;refine Y1 rfl ?_;refine bP h fun x24 hx24 h=> ?_;refine W.chk rfl (uF hx24) ?_;refine W.elem rfl (uG hx24) ?_;refine W.chk rfl rfl ?_;refine W.NR (.fp [.v (.int .i64 x24)]) _ rfl ?_;refine Rw 4 rfl ?_;refine A.gV rfl h (fun _ h=> ?_) (fun _ h=> ?_)
    ·refine vN 8 rfl ?_;refine iI.r ?_;refine Zob 1 rfl ?_;refine iI.r ?_;cases h;cases hG;exact ⟨rfl,trivial⟩
    ·refine vN 8 rfl ?_;cases h;exact Zh hG [] [] rfl rfl (Ze rfl rfl (Ze rfl rfl (Ze rfl rfl trivial))) trivial
   ·refine vN 2 rfl ?_;refine iI.e ?_;refine Zob 1 rfl ?_;cases h;exact Zh hG [] [] rfl rfl trivial trivial
  ·intro s2 r2 h hG;refine vN 6 rfl ?_;cases h;cases hG;exact ⟨rfl,trivial⟩
def jD (a_:ak) (b_:ak) (s3:Int):Option ((Int)⊕((Unit)⊕(Bool))):=
 (bif (decide (s3 < (a_.Up.length:Int))) then
  (oV a_.Up s3).bind fun x27=>
  (oV b_.Up s3).bind fun x28=>
  (bif (!(x27==x28)) then
   some (.inr (.inr false))
  else
   some (.inl (IntKind.i64.wrap (s3 + (1:Int)))))
 else
  some (.inr (.inl ())))
def nM (a_:ak) (b_:ak):Option (Bool):=
 (bif (a_.Raw.Account !=b_.Raw.Account) then
  some false
 else
  (bif (a_.Raw.Seq !=b_.Raw.Seq) then
   some false
  else
   (bif (a_.Raw.Kind !=b_.Raw.Kind) then
    some false
   else
    (bif (a_.Raw.dN !=b_.Raw.dN) then
     some false
    else
     (bif (a_.Raw.On !=b_.Raw.On) then
      some false
     else
      (bif (a_.Raw.Quote !=b_.Raw.Quote) then
       some false
      else
       (bif (a_.Raw.Who !=b_.Raw.Who) then
        some false
       else
        (bif (a_.Raw.N !=b_.Raw.N) then
         some false
        else
         (bif (!(a_.Raw.Text.toList==b_.Raw.Text.toList)) then
          some false
         else
          (nK a_.Raw.Files b_.Raw.Files).bind fun y4=>
          (bif (!y4) then
           some false
          else
           (bif ((a_.Up.length:Int) !=(b_.Up.length:Int)) then
            some false
           else
            (bif (a_.Kind !=b_.Kind) then
             some false
            else
             (bif (a_.Net !=b_.Net) then
              some false
             else
              (bif (a_.Event !=b_.Event) then
               some false
              else
               (bif (a_.Local !=b_.Local) then
                some false
               else
                (bif (a_.N !=b_.N) then
                 some false
                else
                 (gq (A:=Unit) (
                  iY (jD a_ b_) (0:Int))
                 fun s2=>
                  (bif ((a_.Note.Message==b_.Note.Message) && ((a_.Note.Who==b_.Note.Who) && ((a_.Note.Level==b_.Note.Level) && ((a_.Note.Step==b_.Note.Step) && ((a_.Note.Not==b_.Note.Not) && true))))) then
                   (bif ((a_.Proof.Kind==b_.Proof.Kind) && ((a_.Proof.A==b_.Proof.A) && ((a_.Proof.B==b_.Proof.B) && true))) then
                    (bif ((a_.aB.Name==b_.aB.Name) && ((a_.aB.Step==b_.aB.Step) && ((a_.aB.Bad==b_.aB.Bad) && true))) then
                     (bif ((a_.Hold.Id==b_.Hold.Id) && ((a_.Hold.Event==b_.Hold.Event) && ((a_.Hold.From==b_.Hold.From) && ((a_.Hold.To==b_.Hold.To) && true)))) then
                      some ((a_.Order.Kind==b_.Order.Kind) && ((a_.Order.Event==b_.Order.Event) && ((a_.Order.By==b_.Order.By) && ((a_.Order.Step==b_.Order.Step) && true))))
                     else
                      some false)
                    else
                     some false)
                   else
                    some false)
                  else
                   some false))))))))))))))))))
theorem Ia {dr:Prop} {a_:ak} {b_:ak} {r:Bool} (h:nM a_ b_=some r):Fn dr Tryz.prog 9 [.agg (ak.av a_),.agg (ak.av b_)] (VB r):=by
 refine Fn.jZ (dr:=dr) (F:=vM dr Tryz.prog) (base:=0) (js:= [12]) mixed tok kC (fun _ _ _ h=> h) Tryz.call9 Tryz.func9 rfl Tryz.ntmps9 (by rw [Tryz.results9]) (by simp) ?_;have hG:(fun x=> x=r) r:=rfl;unfold nM at h;refine zJ 2 rfl ?_;refine Zm (.lp 2 1 0) (Mem.add _ 2 (.box (ak.av a_))) rfl rfl ?_;refine Zm (.lp 3 1 0) (Mem.add _ 3 (.box (ak.av b_))) rfl rfl ?_;refine lT 6 rfl ?_;refine Zo (.agg (aQ.av a_.Raw)) rfl rfl ?_;refine Zm (.lp 5 1 0) (Mem.add (Mem.add _ 655365 (.rows 1 (List.map (encI .i64) ([]:List Int)) false)) 5 (.box [VI 0,VI 0,VI 0,VI 0,VI 0,VI 0,VI 0,VI 0,VS (ByteArray.mk #[]),.row 655365 1 0])) rfl rfl ?_;refine Zm (.bH []) (Mem.set _ 5 1 (some (.box (aQ.av a_.Raw)))) rfl rfl ?_;refine lT 5 rfl ?_;refine Zo (.agg (aQ.av b_.Raw)) rfl rfl ?_;refine Zm (.lp 6 1 0) (Mem.add (Mem.add _ 655366 (.rows 1 (List.map (encI .i64) ([]:List Int)) false)) 6 (.box [VI 0,VI 0,VI 0,VI 0,VI 0,VI 0,VI 0,VI 0,VS (ByteArray.mk #[]),.row 655366 1 0])) rfl rfl ?_;refine Zm (.bH []) (Mem.set _ 6 1 (some (.box (aQ.av b_.Raw)))) rfl rfl ?_;refine lT 11 rfl ?_;refine YF rfl rfl rfl h (fun _ h=> ?_) (fun _ h=> ?_)
 ·refine kS 72 rfl ?_;cases h;cases hG;exact ⟨rfl,trivial⟩
 ·refine iZ 7 rfl ?_;refine YF rfl rfl rfl h (fun _ h=> ?_) (fun _ h=> ?_)
  ·refine kS 65 rfl ?_;cases h;cases hG;exact ⟨rfl,trivial⟩
  ·refine iZ 7 rfl ?_;refine YF rfl rfl rfl h (fun _ h=> ?_) (fun _ h=> ?_)
   ·refine kS 58 rfl ?_;cases h;cases hG;exact ⟨rfl,trivial⟩
   ·refine iZ 7 rfl ?_;refine YF rfl rfl rfl h (fun _ h=> ?_) (fun _ h=> ?_)
    ·refine kS 51 rfl ?_;cases h;cases hG;exact ⟨rfl,trivial⟩
    ·refine iZ 7 rfl ?_;refine YF rfl rfl rfl h (fun _ h=> ?_) (fun _ h=> ?_)
     ·refine kS 44 rfl ?_;cases h;cases hG;exact ⟨rfl,trivial⟩
     ·refine iZ 7 rfl ?_;refine YF rfl rfl rfl h (fun _ h=> ?_) (fun _ h=> ?_)
      ·refine kS 37 rfl ?_;cases h;cases hG;exact ⟨rfl,trivial⟩
      ·refine iZ 7 rfl ?_;refine YF rfl rfl rfl h (fun _ h=> ?_) (fun _ h=> ?_)
       ·refine kS 30 rfl ?_;cases h;cases hG;exact ⟨rfl,trivial⟩
       ·refine iZ 7 rfl ?_;refine YF rfl rfl rfl h (fun _ h=> ?_) (fun _ h=> ?_)
        ·refine kS 23 rfl ?_;cases h;cases hG;exact ⟨rfl,trivial⟩
        ·refine iZ 7 rfl ?_;refine YF rfl rfl rfl h (fun _ h=> ?_) (fun _ h=> ?_)
         ·refine kS 16 rfl ?_;cases h;cases hG;exact ⟨rfl,trivial⟩
         ·refine iZ 4 rfl ?_;refine Y2 rfl rfl rfl ?_;refine bP h fun y4 hy4 h=> ?_;refine W.call rfl (H9 hy4) ?_;refine Zwc 5 rfl ?_;refine A.gV rfl h (fun _ h=> ?_) (fun _ h=> ?_)
          ·refine vN 7 rfl ?_;cases h;cases hG;exact ⟨rfl,trivial⟩
          ·refine Tc 7 rfl ?_;refine Y1 rfl ?_;refine W.len rfl ?_;refine lT 2 rfl ?_;refine Y1 rfl ?_;refine W.len rfl ?_;refine lT 2 rfl ?_;refine YF rfl rfl rfl h (fun _ h=> ?_) (fun _ h=> ?_)
           ·refine kS 43 rfl ?_;cases h;cases hG;exact ⟨rfl,trivial⟩
           ·refine iZ 7 rfl ?_;refine YF rfl rfl rfl h (fun _ h=> ?_) (fun _ h=> ?_)
            ·refine kS 36 rfl ?_;cases h;cases hG;exact ⟨rfl,trivial⟩
            ·refine iZ 7 rfl ?_;refine YF rfl rfl rfl h (fun _ h=> ?_) (fun _ h=> ?_)
             ·refine kS 29 rfl ?_;cases h;cases hG;exact ⟨rfl,trivial⟩
             ·refine iZ 7 rfl ?_;refine YF rfl rfl rfl h (fun _ h=> ?_) (fun _ h=> ?_)
              ·refine kS 22 rfl ?_;cases h;cases hG;exact ⟨rfl,trivial⟩
              ·refine iZ 7 rfl ?_;refine YF rfl rfl rfl h (fun _ h=> ?_) (fun _ h=> ?_)
               ·refine kS 15 rfl ?_;cases h;cases hG;exact ⟨rfl,trivial⟩
               ·refine Zwc 8 rfl ?_;refine A.gV rfl h (fun _ h=> ?_) (fun _ h=> ?_)
                ·refine vN 7 rfl ?_;cases h;cases hG;exact ⟨rfl,trivial⟩
                ·refine I4 2 rfl ?_;refine A.join (fun (s2:Unit)=> [(2,.lp 900000 1 0),(3,.lp 900001 1 0)]) (fun s2=> [(900000,.box (ak.av a_)),(900001,.box (ak.av b_))]) _ h hG rfl ?_ ?_
                 ·intro J f h hG;refine Zac 6 rfl ?_;refine A.loop (fun (s3:Int)=> [(2,.lp 900000 1 0),(3,.lp 900001 1 0),(7,VI s3)]) (fun s3=> [(900000,.box (ak.av a_)),(900001,.box (ak.av b_))]) _ h hG (Zf [] [(900000,(2,1)),(900001,(3,1))] rfl rfl (Ze rfl rfl (Ze rfl rfl (Ze rfl rfl trivial))) (Zc rfl rfl (Zc rfl rfl trivial))) ?_;intro J s3 f h hG;unfold jD at h;refine zJ 6 rfl ?_;refine Y1 rfl ?_;refine W.len rfl ?_;refine Rw 3 rfl ?_;refine A.gV rfl h (fun _ h=> ?_) (fun _ h=> ?_)
                  ·refine I4 5 rfl ?_;refine A.qh (by kernel_rfl) ?_;refine lT 3 rfl ?_;refine Y1 rfl ?_;refine bP h fun x27 hx27 h=> ?_;refine W.chk rfl (uF hx27) ?_;refine W.elem rfl (uG hx27) ?_;refine W.chk rfl rfl ?_;refine W.NR (.fp [.v (.bool x27)]) _ rfl ?_;refine lT 4 rfl ?_;refine Y1 rfl ?_;refine bP h fun x28 hx28 h=> ?_;refine W.chk rfl (uF hx28) ?_;refine W.elem rfl (uG hx28) ?_;refine W.chk rfl rfl ?_;refine W.NR (.fp [.v (.bool x28)]) _ rfl ?_;refine Rw 4 rfl ?_;refine A.gV rfl h (fun _ h=> ?_) (fun _ h=> ?_)
                   ·refine vN 8 rfl ?_;refine iI.r ?_;refine Zob 1 rfl ?_;refine iI.r ?_;cases h;cases hG;exact ⟨rfl,trivial⟩
                   ·refine vN 8 rfl ?_;cases h;exact Zh hG [] [(900000,(900000,1)),(900001,(900001,1))] rfl rfl (Ze rfl rfl (Ze rfl rfl (Ze rfl rfl trivial))) (Zc rfl rfl (Zc rfl rfl trivial))
                  ·refine vN 2 rfl ?_;refine iI.e ?_;refine Zob 1 rfl ?_;cases h;exact Zh hG [] [(900000,(900000,1)),(900001,(900001,1))] rfl rfl (Ze rfl rfl (Ze rfl rfl trivial)) (Zc rfl rfl (Zc rfl rfl trivial))
                 ·intro s2 r2 h hG;refine Tc 3 rfl ?_;refine Zo (.agg [VI a_.Note.Message,VI a_.Note.Who,VI a_.Note.Level,VI a_.Note.Step,VB a_.Note.Not]) rfl rfl ?_;refine lT 1 rfl ?_;refine Zo (.agg [VI b_.Note.Message,VI b_.Note.Who,VI b_.Note.Level,VI b_.Note.Step,VB b_.Note.Not]) rfl rfl ?_;refine lT 2 rfl ?_;refine YT rfl rfl rfl h (fun _ h=> ?_) (fun _ h=> ?_)
                  ·refine iZ 1 rfl ?_;refine Zu (.agg [VI a_.Proof.Kind,VI a_.Proof.A,VI a_.Proof.B]) rfl rfl rfl rfl ?_;refine lT 1 rfl ?_;refine Zu (.agg [VI b_.Proof.Kind,VI b_.Proof.A,VI b_.Proof.B]) rfl rfl rfl rfl ?_;refine lT 3 rfl ?_;refine YT rfl rfl rfl h (fun _ h=> ?_) (fun _ h=> ?_)
                   ·refine iZ 1 rfl ?_;refine Zu (.agg [VI a_.aB.Name,VI a_.aB.Step,VB a_.aB.Bad]) rfl rfl rfl rfl ?_;refine lT 1 rfl ?_;refine Zu (.agg [VI b_.aB.Name,VI b_.aB.Step,VB b_.aB.Bad]) rfl rfl rfl rfl ?_;refine lT 3 rfl ?_;refine YT rfl rfl rfl h (fun _ h=> ?_) (fun _ h=> ?_)
                    ·refine iZ 1 rfl ?_;refine Zu (.agg [VI a_.Hold.Id,VI a_.Hold.Event,VI a_.Hold.From,VI a_.Hold.To]) rfl rfl rfl rfl ?_;refine lT 1 rfl ?_;refine Zu (.agg [VI b_.Hold.Id,VI b_.Hold.Event,VI b_.Hold.From,VI b_.Hold.To]) rfl rfl rfl rfl ?_;refine lT 3 rfl ?_;refine YT rfl rfl rfl h (fun _ h=> ?_) (fun _ h=> ?_)
                     ·refine iZ 1 rfl ?_;refine Zu (.agg [VI a_.Order.Kind,VI a_.Order.Event,VI a_.Order.By,VI a_.Order.Step]) rfl rfl rfl rfl ?_;refine lT 1 rfl ?_;refine Zu (.agg [VI b_.Order.Kind,VI b_.Order.Event,VI b_.Order.By,VI b_.Order.Step]) rfl rfl rfl rfl ?_;refine kS 6 rfl ?_;cases h;cases hG;exact ⟨rfl,trivial⟩
                     ·refine kS 9 rfl ?_;cases h;cases hG;exact ⟨rfl,trivial⟩
                    ·refine kS 16 rfl ?_;cases h;cases hG;exact ⟨rfl,trivial⟩
                   ·refine kS 23 rfl ?_;cases h;cases hG;exact ⟨rfl,trivial⟩
                  ·refine kS 30 rfl ?_;cases h;cases hG;exact ⟨rfl,trivial⟩
def oH (n_:Int) (end_:Int):Option (Bool):=
 (bif (decide ((0:Int)≤n_)) then
  some (decide (n_ < end_))
 else
  some false)
theorem GI {dr:Prop} {n_:Int} {end_:Int} {r:Bool} (h:oH n_ end_=some r):Fn dr Tryz.prog 36 [VI n_,VI end_] (VB r):=by
 refine Fn.jZ (dr:=dr) (F:=vM dr Tryz.prog) (base:=0) (js:= []) mixed tok kC (fun _ _ _ h=> h) Tryz.call36 Tryz.func36 rfl Tryz.ntmps36 (by rw [Tryz.results36]) (by simp) ?_;have hG:(fun x=> x=r) r:=rfl;unfold oH at h;refine zJ 10 rfl ?_;refine YT rfl rfl rfl h (fun _ h=> ?_) (fun _ h=> ?_)
 ·refine AL 8 rfl ?_;cases h;cases hG;exact ⟨rfl,trivial⟩
 ·refine kS 7 rfl ?_;cases h;cases hG;exact ⟨rfl,trivial⟩
def pR (sH:Int):Option (Int):=
 (oH sH (2000:Int)).bind fun y2=>
 (bif (!y2) then
  some (-1:Int)
 else
  some (Int.tmod sH (12:Int)))
theorem NM {dr:Prop} {sH:Int} {r:Int} (h:pR sH=some r):Fn dr Tryz.prog 13 [VI sH] (VI r):=by
 refine Fn.jZ (dr:=dr) (F:=vM dr Tryz.prog) (base:=0) (js:= []) mixed tok kC (fun _ _ _ h=> h) Tryz.call13 Tryz.func13 rfl Tryz.ntmps13 (by rw [Tryz.results13]) (by simp) ?_;have hG:(fun x=> x=r) r:=rfl;unfold pR at h;refine zJ 9 rfl ?_;refine Y1 rfl ?_;refine bP h fun y2 hy2 h=> ?_;refine W.call rfl (GI hy2) ?_;refine Zwc 4 rfl ?_;refine A.gV rfl h (fun _ h=> ?_) (fun _ h=> ?_)
 ·refine vN 7 rfl ?_;cases h;cases hG;exact ⟨rfl,trivial⟩
 ·refine Tc 5 rfl ?_;refine Y1 rfl ?_;refine W.chk rfl (by decide) ?_;refine AL 5 rfl ?_;cases h;cases hG;exact ⟨rfl,trivial⟩
end
section
open Go.RowKit
theorem vI {p:Prop} [Decidable p] (h:p):uZ (decide p)=some ():=by rw [decide_eq_true h];rfl
theorem bsz (l:List UInt8):(⟨l.toArray⟩:ByteArray).size=l.length:=by simp [ByteArray.size]
theorem lG {l:List Int} (h:∀n∈l,0≤n∧n≤9223372036854775807) (h1:l≠ []) (h2:l.length≤1000000):bJ l=some ⟨(l.flatMap aA).toArray⟩:=by
 unfold bJ
 rw [show (decide (∀n∈l,0≤n∧n≤9223372036854775807) && (decide (l≠ []) && decide (l.length≤1000000)))=true by simp [h1,h2];exact h]
 rfl
theorem int_eq {n:Int} (h: -9223372036854775808≤n∧n≤9223372036854775807):pK n=some ⟨(aA n).toArray⟩:=by
 unfold pK
 rw [show (decide (-9223372036854775808≤n) && decide (n≤9223372036854775807))=true by simp [h.1,h.2]]
 rfl
theorem adP {n:Int} (h:0≤n∧n≤9223372036854775807):sF n=some ⟨(aA n).toArray⟩:=by
 unfold sF
 rw [show (decide (0≤n) && decide (n≤9223372036854775807))=true by simp [h.1,h.2]]
 rfl
theorem adQ {s:ByteArray} (h:s.size≤1000000):uf s=some ⟨(wText s.toList).toArray⟩:=by
 unfold uf
 rw [decide_eq_true (by rw [sN];exact h)]
 rfl
theorem adR {l:List Int} (h:∀n∈l,-9223372036854775808≤n∧n≤9223372036854775807) (h2:l.length≤1000000):ug l=some ⟨(lH l).toArray⟩:=by
 unfold ug
 rw [show (decide (∀n∈l,-9223372036854775808≤n∧n≤9223372036854775807) && decide (l.length≤1000000))=true by simp [h2];exact h]
 rfl
theorem jr {n:Int} (h: -9223372036854775808≤n∧n≤9223372036854775807):(aA n).length≤21:=by
 have:=gY n h.1 h.2
 simp only [aA,List.length_append,List.length_singleton]
 omega
theorem GK (b:Bool):jU b=some (gX b):=by cases b <;> rfl
theorem sK (b:Bool):0≤gX b∧gX b≤9223372036854775807:=by cases b <;> decide
theorem yh:∀(l:List Bool),(l.flatMap fun b=> aA (gX b)).length≤21 * l.length
 | []=> Nat.zero_le _
 | b::l=> by
  have h1:=jr (n:=gX b) (by have:=sK b;omega)
  have ih:=yh l
  rw [List.flatMap_cons,List.length_append,List.length_cons]
  omega
theorem ahy (a:ak) (pre:List UInt8) (hp:pre.length≤1000) (hu:a.Up.length≤1000):iY (iG a) ((⟨pre.toArray⟩:ByteArray),(0:Int))=some (.inl ⟨(pre ++ a.Up.flatMap fun b=> aA (gX b)).toArray⟩):=by
 refine Yp (body:=iG a) a.Up.length (fun i s=> s=((⟨(pre ++ (a.Up.take i).flatMap fun b=> aA (gX b)).toArray⟩:ByteArray),(i:Int))) (fun o=> o=some (.inl ⟨(pre ++ a.Up.flatMap fun b=> aA (gX b)).toArray⟩)) (fun i s hi hs=> .inl ?_) (fun s hs=> ?_) (by simp)
 ·subst hs
  have hx:a.Up[i]? =some a.Up[i]:=List.getElem?_eq_getElem hi
  have e:a.Up.take (i + 1)=a.Up.take i ++ [a.Up[i]]:=by rw [List.take_add_one,hx];rfl
  have hw:IntKind.i64.wrap ((i:Int) + 1)=(i:Int) + 1:=wrap64 (by omega) (by omega)
  have h1:=yh (a.Up.take i)
  have h2:(a.Up.take i).length≤i:=List.length_take_le _ _
  have h3:=jr (n:=gX a.Up[i]) (by have:=sK a.Up[i];omega)
  refine ⟨_,?_,rfl⟩
  unfold iG
  simp only []
  rw [decide_eq_true (show (i:Int) < (a.Up.length:Int) by omega),cond_true,ac3,hx,Option.bind_some,GK,Option.bind_some,adP (sK _),Option.bind_some]
  rw [vI (by rw [bsz,bsz,List.length_append];omega),Option.bind_some,hw,ahv,e,List.flatMap_append]
  simp
 ·subst hs
  refine ⟨_,?_,rfl⟩
  unfold iG
  simp only []
  rw [decide_eq_false (show ¬((a.Up.length:Int) < (a.Up.length:Int)) by omega),cond_false,List.take_length]
theorem text_eq (a:ak) (hin:inR a) (hl:a.Raw.Files.length≤maxLen) (hu:a.Up.length≤maxLen):(gK a→cZ a=some ⟨(iH a).toArray⟩)∧(¬gK a→cZ a=some ⟨#[]⟩):=by
 obtain ⟨c,hc,hcr⟩:=right_eq a hin hl hu
 have hc':fO (ak.mk a.Kind a.Net a.Event a.Local a.N (aQ.mk a.Raw.Account a.Raw.Seq a.Raw.Kind a.Raw.dN a.Raw.On a.Raw.Quote a.Raw.Who a.Raw.N a.Raw.Text a.Raw.Files) (dI.mk a.Note.Message a.Note.Who a.Note.Level a.Note.Step a.Note.Not) (dh.mk a.Proof.Kind a.Proof.A a.Proof.B) (bD.mk a.aB.Name a.aB.Step a.aB.Bad) (dJ.mk a.Hold.Id a.Hold.Event a.Hold.From a.Hold.To) (dn.mk a.Order.Kind a.Order.Event a.Order.By a.Order.Step) a.Up)=some c:=hc
 refine ⟨fun hr=> ?_,fun hr=> ?_⟩
 ·rw [hcr.2 hr] at hc'
  clear hc hcr hin hl hu
  revert hr hc'
  refine kinds (P:=fun a=> fO (ak.mk a.Kind a.Net a.Event a.Local a.N (aQ.mk a.Raw.Account a.Raw.Seq a.Raw.Kind a.Raw.dN a.Raw.On a.Raw.Quote a.Raw.Who a.Raw.N a.Raw.Text a.Raw.Files) (dI.mk a.Note.Message a.Note.Who a.Note.Level a.Note.Step a.Note.Not) (dh.mk a.Proof.Kind a.Proof.A a.Proof.B) (bD.mk a.aB.Name a.aB.Step a.aB.Bad) (dJ.mk a.Hold.Id a.Hold.Event a.Hold.From a.Hold.To) (dn.mk a.Order.Kind a.Order.Event a.Order.By a.Order.Step) a.Up)=some true→gK a→cZ a=some ⟨(iH a).toArray⟩) ?_ ?_ ?_ ?_ ?_ ?_ ?_ ?_ ?_ ?_ ?_ a
  ·rintro n e l m r o p v q w u hc ⟨h1,h2⟩
   have hr:vO r=true:=by
    have h1:dH r=some true:=h1
    rw [iw] at h1
    exact Option.some.inj h1
   obtain ⟨r1,r2,r3,r4,r5,r6,r7,r8,r9,r10⟩:=r
   unfold vO at hr
   rw [Bool.and_eq_true,decide_eq_true_eq,List.all_eq_true] at hr
   obtain ⟨⟨q1,q2,q3,q4,q5,q6,q7,q8,q9,q10⟩,q11⟩:=hr
   simp only at q1 q2 q3 q4 q5 q6 q7 q8 q9 q10 q11
   have hf:∀z∈r10,-9223372036854775808≤z∧z≤9223372036854775807:=fun z hz=> by have:=Rj (q11 z hz);omega
   have e1:=lG (l:= [0,r1,r2,r3,r4]) (by intro z hz;simp only [List.mem_cons,List.not_mem_nil,or_false] at hz;rcases hz with rfl | rfl | rfl | rfl | rfl <;> omega) (by simp) (by simp)
   have e2:=int_eq (n:=r5) (by omega)
   have e3:=int_eq (n:=r6) (by omega)
   have e4:=int_eq (n:=r7) (by omega)
   have e5:=adP (n:=r8) (by omega)
   have e6:=adR hf (by omega)
   have e7:=adQ (s:=r9) (by omega)
   have b1:([0,r1,r2,r3,r4].flatMap aA).length≤21 * 5:=jP _ (by intro z hz;simp only [List.mem_cons,List.not_mem_nil,or_false] at hz;rcases hz with rfl | rfl | rfl | rfl | rfl <;> omega)
   have b2:=jr (n:=r5) (by omega)
   have b3:=jr (n:=r6) (by omega)
   have b4:=jr (n:=r7) (by omega)
   have b5:=jr (n:=r8) (by omega)
   have b6:(lH r10).length≤200:=by
    have h1:=jP r10 hf
    have h2:=gY (r10.length:Int) (by omega) (by omega)
    simp only [lH,List.length_append,List.length_cons,List.length_nil]
    omega
   have b7:(wText r9.toList).length≤5000:=by
    have h2:=gY (r9.toList.length:Int) (by omega) (by rw [sN];omega)
    have h3:=sN r9
    simp only [wText,List.length_append,List.length_cons,List.length_nil]
    omega
   have ht:iH ⟨0,n,e,l,m,⟨r1,r2,r3,r4,r5,r6,r7,r8,r9,r10⟩,o,p,v,q,w,u⟩=((((([0,r1,r2,r3,r4].flatMap aA ++ aA r5) ++ aA r6) ++ aA r7) ++ aA r8) ++ lH r10) ++ wText r9.toList:=by
    show aA 0 ++ (aA r1 ++ (aA r2 ++ (aA r3 ++ (aA r4 ++ (aA r5 ++ (aA r6 ++ (aA r7 ++ (aA r8 ++ (lH r10 ++ wText r9.toList)))))))))=_
    simp [List.append_assoc]
   rw [ht]
   generalize [0,r1,r2,r3,r4].flatMap aA=t1 at e1 b1 ⊢
   generalize aA r5=t2 at e2 b2 ⊢
   generalize aA r6=t3 at e3 b3 ⊢
   generalize aA r7=t4 at e4 b4 ⊢
   generalize aA r8=t5 at e5 b5 ⊢
   generalize lH r10=t6 at e6 b6 ⊢
   generalize wText r9.toList=t7 at e7 b7 ⊢
   have k1:=vI (p:=t1.length + t2.length≤1000000000) (by omega)
   have k2:=vI (p:=(t1 ++ t2).length + t3.length≤1000000000) (by rw [List.length_append];omega)
   have k3:=vI (p:=((t1 ++ t2) ++ t3).length + t4.length≤1000000000) (by rw [List.length_append,List.length_append];omega)
   have k4:=vI (p:=(((t1 ++ t2) ++ t3) ++ t4).length + t5.length≤1000000000) (by rw [List.length_append,List.length_append,List.length_append];omega)
   have k5:=vI (p:=((((t1 ++ t2) ++ t3) ++ t4) ++ t5).length + t6.length≤1000000000) (by rw [List.length_append,List.length_append,List.length_append,List.length_append];omega)
   have k6:=vI (p:=(((((t1 ++ t2) ++ t3) ++ t4) ++ t5) ++ t6).length + t7.length≤1000000000) (by rw [List.length_append,List.length_append,List.length_append,List.length_append,List.length_append];omega)
   unfold cZ
   rw [hc]
   simp only [Option.bind_some,Bool.not_true,cond_false,beq_self_eq_true,cond_true,e1,e2,e3,e4,e5,e6,e7,ahv,bsz,k1,k2,k3,k4,k5,k6]
  ·rintro n e l m r o p v q w u hc ⟨h1,h2⟩
   obtain ⟨q1,q2,q3,q4⟩:=fQ (show some (decide ((0≤n∧n≤11)∧(0≤e∧e≤99999)∧(0≤m∧m≤19)∧(0≤l∧l≤1099511627776)))=some true from h1)
   have e1:=lG (l:= [1,n,e,m,l]) (by intro z hz;simp only [List.mem_cons,List.not_mem_nil,or_false] at hz;rcases hz with rfl | rfl | rfl | rfl | rfl <;> omega) (by simp) (by simp)
   unfold cZ
   rw [hc]
   show (bJ [1,n,e,m,l]).bind (fun y=> some y)=_
   rw [e1,Option.bind_some]
   congr 3
   simp [iH]
  ·rintro n e l m r o p v q w u hc ⟨h1,h2⟩
   obtain ⟨o1,o2,o3,o4,o5⟩:=o
   obtain ⟨q1,q2,q3,q4,q5⟩:=fQ (show some (decide ((0≤n∧n≤11)∧(0≤o1∧o1≤99999)∧(0≤o2∧o2≤1999)∧(1≤o3∧o3≤4)∧(o4=0)))=some true from h1)
   have hb:=sK o5
   have e1:=lG (l:= [2,n,o1,o2,o3,gX o5]) (by intro z hz;simp only [List.mem_cons,List.not_mem_nil,or_false] at hz;rcases hz with rfl | rfl | rfl | rfl | rfl | rfl <;> omega) (by simp) (by simp)
   unfold cZ
   rw [hc]
   show (jU o5).bind (fun y40=> (bJ [2,n,o1,o2,o3,y40]).bind (fun y=> some y))=_
   rw [GK,Option.bind_some,e1,Option.bind_some]
   congr 3
   simp [iH]
  ·rintro n e l m r o p v q w u hc ⟨h1,h2⟩
   obtain ⟨o1,o2,o3⟩:=p
   obtain ⟨q1,q2,q3⟩:=fQ (show some (decide ((0≤o1∧o1≤4)∧(0≤o2∧o2≤199)∧(0≤o3∧o3≤199)))=some true from h1)
   have e1:=lG (l:= [3,o1,o2,o3]) (by intro z hz;simp only [List.mem_cons,List.not_mem_nil,or_false] at hz;rcases hz with rfl | rfl | rfl | rfl <;> omega) (by simp) (by simp)
   unfold cZ
   rw [hc]
   show (bJ [3,o1,o2,o3]).bind (fun y=> some y)=_
   rw [e1,Option.bind_some]
   congr 3
   simp [iH]
  ·rintro n e l m r o p v q w u hc ⟨h1,h2⟩
   obtain ⟨o1,o2,o3⟩:=v
   obtain ⟨q1,q2⟩:=fQ (show some (decide ((0≤o1∧o1≤1073741824)∧(o2=0)))=some true from h1)
   have hb:=sK o3
   have e1:=lG (l:= [4,o1,gX o3]) (by intro z hz;simp only [List.mem_cons,List.not_mem_nil,or_false] at hz;rcases hz with rfl | rfl | rfl <;> omega) (by simp) (by simp)
   unfold cZ
   rw [hc]
   show (jU o3).bind (fun y40=> (bJ [4,o1,y40]).bind (fun y=> some y))=_
   rw [GK,Option.bind_some,e1,Option.bind_some]
   congr 3
   simp [iH]
  ·rintro n e l m r o p v q w u hc ⟨h1,h2⟩
   obtain ⟨o1,o2,o3,o4⟩:=q
   obtain ⟨q1,q2,q3,q4⟩:=fQ (show some (decide ((0≤o1∧o1≤1099511627776)∧(0≤o2∧o2≤99999)∧(o3=0)∧(o4=0)))=some true from h1)
   have e1:=lG (l:= [5,o1,o2]) (by intro z hz;simp only [List.mem_cons,List.not_mem_nil,or_false] at hz;rcases hz with rfl | rfl | rfl <;> omega) (by simp) (by simp)
   unfold cZ
   rw [hc]
   show (bJ [5,o1,o2]).bind (fun y=> some y)=_
   rw [e1,Option.bind_some]
   congr 3
   simp [iH]
  ·rintro n e l m r o p v q w u hc ⟨h1,h2⟩
   have q1:=fQ (show some (decide (0≤m∧m≤1099511627776))=some true from h1)
   have e1:=lG (l:= [6,m]) (by intro z hz;simp only [List.mem_cons,List.not_mem_nil,or_false] at hz;rcases hz with rfl | rfl <;> omega) (by simp) (by simp)
   unfold cZ
   rw [hc]
   show (bJ [6,m]).bind (fun y=> some y)=_
   rw [e1,Option.bind_some]
   congr 3
   simp [iH]
  ·rintro n e l m r o p v q w u hc ⟨h1,h2⟩
   obtain ⟨o1,o2,o3,o4⟩:=w
   obtain ⟨q1,q2,q3,q4⟩:=fQ (show some (decide ((0≤o1∧o1≤3)∧(0≤o2∧o2≤99999)∧(0≤o3∧o3≤1999)∧(o4=0)))=some true from h1)
   have e1:=lG (l:= [7,o1,o2,o3]) (by intro z hz;simp only [List.mem_cons,List.not_mem_nil,or_false] at hz;rcases hz with rfl | rfl | rfl | rfl <;> omega) (by simp) (by simp)
   unfold cZ
   rw [hc]
   show (bJ [7,o1,o2,o3]).bind (fun y=> some y)=_
   rw [e1,Option.bind_some]
   congr 3
   simp [iH]
  ·rintro n e l m r o p v q w u hc ⟨h1,h2⟩
   obtain ⟨q1,q2⟩:=fQ (show some (decide ((0≤n∧n≤11)∧(0≤e∧e≤99999)))=some true from h1)
   have e1:=lG (l:= [8,n,e]) (by intro z hz;simp only [List.mem_cons,List.not_mem_nil,or_false] at hz;rcases hz with rfl | rfl | rfl <;> omega) (by simp) (by simp)
   unfold cZ
   rw [hc]
   show (bJ [8,n,e]).bind (fun y=> some y)=_
   rw [e1,Option.bind_some]
   congr 3
   simp [iH]
  ·rintro n e l m r o p v q w u hc ⟨h1,h2⟩
   have q1:=fQ (show some (decide (0≤(u.length:Int)∧(u.length:Int)≤12))=some true from h1)
   have e1:=lG (l:= [9,(u.length:Int)]) (by intro z hz;simp only [List.mem_cons,List.not_mem_nil,or_false] at hz;rcases hz with rfl | rfl <;> omega) (by simp) (by simp)
   have b1:([9,(u.length:Int)].flatMap aA).length≤21 * 2:=jP _ (by intro z hz;simp only [List.mem_cons,List.not_mem_nil,or_false] at hz;rcases hz with rfl | rfl <;> omega)
   unfold cZ
   rw [hc]
   show (bJ [9,(u.length:Int)]).bind (fun y49=> gq (A:=ByteArray) (iY (iG ⟨9,n,e,l,m,r,o,p,v,q,w,u⟩) (y49,(0:Int))) fun s2=> some s2)=_
   rw [e1,Option.bind_some,ahy ⟨9,n,e,l,m,r,o,p,v,q,w,u⟩ _ (by omega) (by show u.length≤1000;omega)]
   show some _=some _
   congr 3
   simp [iH]
  ·intro a h hc hr
   have:=hr.1
   rw [Xe h] at this
   cases this
 ·have e:c=false:=by
   cases c with
   | false=> rfl
   | true=> exact absurd (hcr.1 rfl) hr
  rw [e] at hc'
  unfold cZ
  rw [hc']
  rfl
end
end Go.Proofs.YtnegekppaoedgaaGreatDoor
end

/-
Plain programs of functions, and that the functions do what they say. Printed by wip/tools/gen.py.
-/
import Derived.ChangeSlices
import Derived.Test.YtnegekppaoedgaaGreatDoorQ12
set_option linter.all false
noncomputable section
namespace Go.Proofs.YtnegekppaoedgaaGreatDoor
section
open Go.RowKit
attribute [local irreducible] IntKind.wrap AW bF Step.wp
set_option maxHeartbeats 4000000
set_option maxRecDepth 100000
def dD (n_:Int) (from_:Int) (to_:Int):Option (Bool):=
 (bif (decide (from_≤n_)) then
  some (decide (n_≤to_))
 else
  some false)
theorem dL {dr:Prop} {n_:Int} {from_:Int} {to_:Int} {r:Bool} (h:dD n_ from_ to_=some r):Fn dr Tryz.prog 49 [VI n_,VI from_,VI to_] (VB r):=by
 refine Fn.jZ (dr:=dr) (F:=vM dr Tryz.prog) (base:=0) (js:= []) mixed tok kC (fun _ _ _ h=> h) Tryz.call49 Tryz.func49 rfl Tryz.ntmps49 (by rw [Tryz.results49]) (by simp) ?_;have hG:(fun x=> x=r) r:=rfl;unfold dD at h;refine zJ 11 rfl ?_;refine YT rfl rfl rfl h (fun _ h=> ?_) (fun _ h=> ?_)
 ·refine AL 8 rfl ?_;cases h;cases hG;exact ⟨rfl,trivial⟩
 ·refine kS 7 rfl ?_;cases h;cases hG;exact ⟨rfl,trivial⟩
def iK (n_:Int):Option (Bool):=
 (dD n_ (0:Int) (1073741824:Int)).bind fun y1=>
 some (!y1)
theorem vC {dr:Prop} {n_:Int} {r:Bool} (h:iK n_=some r):Fn dr Tryz.prog 87 [VI n_] (VB r):=by
 refine Fn.jZ (dr:=dr) (F:=vM dr Tryz.prog) (base:=0) (js:= []) mixed tok kC (fun _ _ _ h=> h) Tryz.call87 Tryz.func87 rfl Tryz.ntmps87 (by rw [Tryz.results87]) (by simp) ?_;have hG:(fun x=> x=r) r:=rfl;unfold iK at h;refine zJ 8 rfl ?_;refine Y1 rfl ?_;refine bP h fun y1 hy1 h=> ?_;refine W.call rfl (dL hy1) ?_;refine AL 6 rfl ?_;cases h;cases hG;exact ⟨rfl,trivial⟩
def kH (n_:Int):Option (Bool):=
 (dD n_ (0:Int) (1999:Int)).bind fun y1=>
 some y1
theorem xO {dr:Prop} {n_:Int} {r:Bool} (h:kH n_=some r):Fn dr Tryz.prog 51 [VI n_] (VB r):=by
 refine Fn.jZ (dr:=dr) (F:=vM dr Tryz.prog) (base:=0) (js:= []) mixed tok kC (fun _ _ _ h=> h) Tryz.call51 Tryz.func51 rfl Tryz.ntmps51 (by rw [Tryz.results51]) (by simp) ?_;have hG:(fun x=> x=r) r:=rfl;unfold kH at h;refine zJ 8 rfl ?_;refine Y1 rfl ?_;refine bP h fun y1 hy1 h=> ?_;refine W.call rfl (dL hy1) ?_;refine AL 5 rfl ?_;cases h;cases hG;exact ⟨rfl,trivial⟩
def lC (n_:Int):Option (Bool):=
 (dD n_ (0:Int) (1099511627776:Int)).bind fun y1=>
 some y1
theorem zk {dr:Prop} {n_:Int} {r:Bool} (h:lC n_=some r):Fn dr Tryz.prog 50 [VI n_] (VB r):=by
 refine Fn.jZ (dr:=dr) (F:=vM dr Tryz.prog) (base:=0) (js:= []) mixed tok kC (fun _ _ _ h=> h) Tryz.call50 Tryz.func50 rfl Tryz.ntmps50 (by rw [Tryz.results50]) (by simp) ?_;have hG:(fun x=> x=r) r:=rfl;unfold lC at h;refine zJ 8 rfl ?_;refine Y1 rfl ?_;refine bP h fun y1 hy1 h=> ?_;refine W.call rfl (dL hy1) ?_;refine AL 5 rfl ?_;cases h;cases hG;exact ⟨rfl,trivial⟩
def bY (s_:(List Int)) (f_:(Int→Option (Bool))) (s3:Int):Option ((Int)⊕((Unit)⊕(Int))):=
 (bif (decide (s3 < (s_.length:Int))) then
  (oV s_ s3).bind fun x23=>
  (f_ x23).bind fun y24=>
  (bif y24 then
   some (.inr (.inr s3))
  else
   some (.inl (IntKind.i64.wrap (s3 + (1:Int)))))
 else
  some (.inr (.inl ())))
def dS (s_:(List Int)) (f_:(Int→Option (Bool))):Option (Int):=
 (gq (A:=Unit) (
  iY (bY s_ f_) (0:Int))
 fun s2=>
  some (-1:Int))
theorem lY {dr:Prop} {s_:(List Int)} {f_:(Int→Option (Bool))} {f_F:FuncId} {Yo:List AV} (f_H:Yo.all SX=true) (f_P:∀(q0:Int) (z:Bool),f_ q0=some z→Fn dr Tryz.prog f_F ([VI q0] ++ Yo) (VB z)) {r:Int} (h:dS s_ f_=some r):Fn dr Tryz.prog 151 [VF (List.map (encI .i64) s_),.fn f_F Yo] (VI r):=by
 refine Fn.jZ (dr:=dr) (F:=vM dr Tryz.prog) (base:=0) (js:= [7]) mixed tok kC (fun _ _ _ h=> h) Tryz.call151 Tryz.func151 rfl Tryz.ntmps151 (by rw [Tryz.results151]) (by simp) ?_;have hG:(fun x=> x=r) r:=rfl;unfold dS at h;refine Zac 5 rfl ?_;refine A.join (fun (s2:Unit)=> []) (fun s2=> []) _ h hG rfl ?_ ?_
 ·intro J f h hG;refine zJ 3 rfl ?_;refine Y1 rfl ?_;refine W.len rfl ?_;refine Rw 4 rfl ?_;refine A.loop (fun (s3:Int)=> [(0,VF (List.map (encI .i64) s_)),(1,.fn f_F Yo),(7,VI (s_.length:Int)),(8,VI s3)]) (fun s3=> []) _ h hG (Zf [] [] rfl rfl (Ze rfl rfl (oO.g f_H rfl (Ze rfl rfl (Ze rfl rfl trivial)))) trivial) ?_;intro J s3 f h hG;unfold bY at h;refine Zac 6 rfl ?_;refine A.gV rfl h (fun _ h=> ?_) (fun _ h=> ?_)
  ·refine Tc 12 rfl ?_;refine Zo (.fn f_F Yo) rfl rfl ?_;refine lT 2 rfl ?_;refine Y1 rfl ?_;refine bP h fun x23 Fh h=> ?_;refine W.chk rfl (uF Fh) ?_;refine W.elem rfl (uG Fh) ?_;refine W.chk rfl rfl ?_;refine W.NR (.fp [.v (.int .i64 x23)]) _ rfl ?_;refine lT 1 rfl ?_;refine Y1 rfl ?_;refine bP h fun y24 hy24 h=> ?_;refine ah1 rfl rfl rfl f_H ?_;refine W.call rfl (f_P _ _ hy24) ?_;refine Zwc 3 rfl ?_;refine A.gV rfl h (fun _ h=> ?_) (fun _ h=> ?_)
   ·refine vN 9 rfl ?_;refine iI.r ?_;refine Zob 1 rfl ?_;refine iI.r ?_;cases h;cases hG;exact ⟨rfl,trivial⟩
   ·refine vN 7 rfl ?_;cases h;exact Zh hG [] [] rfl rfl (Ze rfl rfl (oO.g f_H rfl (Ze rfl rfl (Ze rfl rfl trivial)))) trivial
  ·refine vN 2 rfl ?_;refine iI.e ?_;refine Zob 1 rfl ?_;cases h;exact Zh hG [] [] rfl rfl trivial trivial
 ·intro s2 r2 h hG;refine vN 6 rfl ?_;cases h;cases hG;exact ⟨rfl,trivial⟩
def bZ (s_:(List Int)) (f_:(Int→Option (Bool))):Option (Bool):=
 (dS s_ f_).bind fun y1=>
 some (decide ((0:Int)≤y1))
theorem kX {dr:Prop} {s_:(List Int)} {f_:(Int→Option (Bool))} {f_F:FuncId} {Yo:List AV} (f_H:Yo.all SX=true) (f_P:∀(q0:Int) (z:Bool),f_ q0=some z→Fn dr Tryz.prog f_F ([VI q0] ++ Yo) (VB z)) {r:Bool} (h:bZ s_ f_=some r):Fn dr Tryz.prog 88 [VF (List.map (encI .i64) s_),.fn f_F Yo] (VB r):=by
 refine Fn.jZ (dr:=dr) (F:=vM dr Tryz.prog) (base:=0) (js:= []) mixed tok kC (fun _ _ _ h=> h) Tryz.call88 Tryz.func88 rfl Tryz.ntmps88 (by rw [Tryz.results88]) (by simp) ?_;have hG:(fun x=> x=r) r:=rfl;unfold bZ at h;refine zJ 8 rfl ?_;refine Zo (.fn f_F Yo) rfl rfl ?_;refine Y1 rfl ?_;refine bP h fun y1 hy1 h=> ?_;refine anq [some (VF (List.map (encI .i64) s_))] rfl rfl rfl rfl f_H ?_;refine W.call rfl (lY (f_F:=f_F) (Yo:=Yo) f_H f_P hy1) ?_;refine AL 6 rfl ?_;cases h;cases hG;exact ⟨rfl,trivial⟩
structure aQ where
 Account:Int
 Seq:Int
 Kind:Int
 dN:Int
 On:Int
 Quote:Int
 Who:Int
 N:Int
 Text:ByteArray
 Files:(List Int)
def aQ.enc (x:aQ):List D:= [.v (.int .i64 x.Account),.v (.int .i64 x.Seq),.v (.int .i64 x.Kind),.v (.int .i64 x.dN),.v (.int .i64 x.On),.v (.int .i64 x.Quote),.v (.int .i64 x.Who),.v (.int .i64 x.N),.v (.string x.Text),.fz (List.map (encI .i64) x.Files)]
abbrev aQ.av (x:aQ):List AV:= [VI x.Account,VI x.Seq,VI x.Kind,VI x.dN,VI x.On,VI x.Quote,VI x.Who,VI x.N,VS x.Text,VF (List.map (encI .i64) x.Files)]
def dH (r_:aQ):Option (Bool):=
 (gq (A:=Bool) (
  (kH r_.Account).bind fun y7=>
  (bif y7 then
   (lC r_.Seq).bind fun y8=>
   (bif y8 then
    (dD r_.Kind (0:Int) (9:Int)).bind fun y9=>
    (bif y9 then
     (dD r_.dN (0:Int) (499:Int)).bind fun y10=>
     (bif y10 then
      (dD r_.On (-1:Int) (1099511627776:Int)).bind fun y11=>
      (bif y11 then
       (dD r_.Quote (-1:Int) (1099511627776:Int)).bind fun y12=>
       some (.inl y12)
      else
       some (.inl false))
     else
      some (.inl false))
    else
     some (.inl false))
   else
    some (.inl false))
  else
   some (.inl false)))
 fun s1=>
  (bif s1 then
   (dD r_.Who (-1:Int) (1999:Int)).bind fun y13=>
   (bif y13 then
    (dD r_.N (0:Int) (100:Int)).bind fun y14=>
    (bif y14 then
     (bif (decide ((r_.Text.size:Int)≤(4000:Int))) then
      (bif (decide ((r_.Files.length:Int)≤(4:Int))) then
       (bZ r_.Files iK).bind fun y15=>
       some (!y15)
      else
       some false)
     else
      some false)
    else
     some false)
   else
    some false)
  else
   some false))
theorem zl {dr:Prop} {r_:aQ} {r:Bool} (h:dH r_=some r):Fn dr Tryz.prog 46 [.agg (aQ.av r_)] (VB r):=by
 refine Fn.jZ (dr:=dr) (F:=vM dr Tryz.prog) (base:=0) (js:= [3]) mixed tok kC (fun _ _ _ h=> h) Tryz.call46 Tryz.func46 rfl Tryz.ntmps46 (by rw [Tryz.results46]) (by simp) ?_;have hG:(fun x=> x=r) r:=rfl;unfold dH at h;refine zJ 2 rfl ?_;refine Zm (.lp 1 1 0) (Mem.add _ 1 (.box (aQ.av r_))) rfl rfl ?_;refine lT 5 rfl ?_;refine Zo (.fn 87 []) rfl rfl ?_;refine Rw 2 rfl ?_;refine A.join (fun (s1:Bool)=> [(1,.lp 900000 1 0),(3,.fn 87 []),(4,VB s1)]) (fun s1=> [(900000,.box (aQ.av r_))]) _ h hG rfl ?_ ?_
 ·intro J f h hG;refine zJ 3 rfl ?_;refine Y1 rfl ?_;refine bP h fun y7 hy7 h=> ?_;refine W.call rfl (xO hy7) ?_;refine iZ 2 rfl ?_;refine YT rfl rfl rfl h (fun _ h=> ?_) (fun _ h=> ?_)
  ·refine iZ 2 rfl ?_;refine Y2 rfl rfl rfl ?_;refine bP h fun y8 hy8 h=> ?_;refine W.call rfl (zk hy8) ?_;refine iZ 3 rfl ?_;refine YT rfl rfl rfl h (fun _ h=> ?_) (fun _ h=> ?_)
   ·refine iZ 2 rfl ?_;refine Y2 rfl rfl rfl ?_;refine bP h fun y9 hy9 h=> ?_;refine W.call rfl (dL hy9) ?_;refine iZ 3 rfl ?_;refine YT rfl rfl rfl h (fun _ h=> ?_) (fun _ h=> ?_)
    ·refine iZ 2 rfl ?_;refine Y2 rfl rfl rfl ?_;refine bP h fun y10 arB h=> ?_;refine W.call rfl (dL arB) ?_;refine iZ 3 rfl ?_;refine YT rfl rfl rfl h (fun _ h=> ?_) (fun _ h=> ?_)
     ·refine iZ 2 rfl ?_;refine Y2 rfl rfl rfl ?_;refine bP h fun y11 arC h=> ?_;refine W.call rfl (dL arC) ?_;refine iZ 3 rfl ?_;refine YT rfl rfl rfl h (fun _ h=> ?_) (fun _ h=> ?_)
      ·refine iZ 2 rfl ?_;refine Y2 rfl rfl rfl ?_;refine bP h fun y12 arD h=> ?_;refine W.call rfl (dL arD) ?_;refine AL 4 rfl ?_;cases h;exact Zh hG [] [(900000,(1,1))] rfl rfl (Ze rfl rfl (Ze rfl rfl (Ze rfl rfl trivial))) (Zc rfl rfl trivial)
      ·refine kS 5 rfl ?_;cases h;exact Zh hG [] [(900000,(1,1))] rfl rfl (Ze rfl rfl (Ze rfl rfl (Ze rfl rfl trivial))) (Zc rfl rfl trivial)
     ·refine kS 10 rfl ?_;cases h;exact Zh hG [] [(900000,(1,1))] rfl rfl (Ze rfl rfl (Ze rfl rfl (Ze rfl rfl trivial))) (Zc rfl rfl trivial)
    ·refine kS 15 rfl ?_;cases h;exact Zh hG [] [(900000,(1,1))] rfl rfl (Ze rfl rfl (Ze rfl rfl (Ze rfl rfl trivial))) (Zc rfl rfl trivial)
   ·refine kS 20 rfl ?_;cases h;exact Zh hG [] [(900000,(1,1))] rfl rfl (Ze rfl rfl (Ze rfl rfl (Ze rfl rfl trivial))) (Zc rfl rfl trivial)
  ·refine kS 25 rfl ?_;cases h;exact Zh hG [] [(900000,(1,1))] rfl rfl (Ze rfl rfl (Ze rfl rfl (Ze rfl rfl trivial))) (Zc rfl rfl trivial)
 ·intro s1 r2 h hG;refine Tc 4 rfl ?_;refine YT rfl rfl rfl h (fun _ h=> ?_) (fun _ h=> ?_)
  ·refine iZ 2 rfl ?_;refine Y2 rfl rfl rfl ?_;refine bP h fun y13 arE h=> ?_;refine W.call rfl (dL arE) ?_;refine iZ 3 rfl ?_;refine YT rfl rfl rfl h (fun _ h=> ?_) (fun _ h=> ?_)
   ·refine iZ 2 rfl ?_;refine Y2 rfl rfl rfl ?_;refine bP h fun y14 arF h=> ?_;refine W.call rfl (dL arF) ?_;refine iZ 3 rfl ?_;refine YT rfl rfl rfl h (fun _ h=> ?_) (fun _ h=> ?_)
    ·refine iZ 6 rfl ?_;refine YT rfl rfl rfl h (fun _ h=> ?_) (fun _ h=> ?_)
     ·refine iZ 2 rfl ?_;refine Y2 rfl rfl rfl ?_;refine W.len rfl ?_;refine lT 3 rfl ?_;refine YT rfl rfl rfl h (fun _ h=> ?_) (fun _ h=> ?_)
      ·refine iZ 2 rfl ?_;refine Zu (.fn 87 []) rfl rfl rfl rfl ?_;refine Y2 rfl rfl rfl ?_;refine bP h fun y15 arG h=> ?_;refine W.call rfl (kX (f_F:=87) (Yo:= []) rfl (fun _ _ h=> vC h) arG) ?_;refine AL 7 rfl ?_;cases h;cases hG;exact ⟨rfl,trivial⟩
      ·refine kS 9 rfl ?_;cases h;cases hG;exact ⟨rfl,trivial⟩
     ·refine kS 15 rfl ?_;cases h;cases hG;exact ⟨rfl,trivial⟩
    ·refine kS 21 rfl ?_;cases h;cases hG;exact ⟨rfl,trivial⟩
   ·refine kS 26 rfl ?_;cases h;cases hG;exact ⟨rfl,trivial⟩
  ·refine kS 31 rfl ?_;cases h;cases hG;exact ⟨rfl,trivial⟩
def fD (Hy:(List Int)) (QO:(List Int)) (s3:Int):Option ((Int)⊕((Unit)⊕(Bool))):=
 (bif (decide (s3 < (Hy.length:Int))) then
  (oV Hy s3).bind fun x23=>
  (oV QO s3).bind fun x24=>
  (bif (x23 !=x24) then
   some (.inr (.inr false))
  else
   some (.inl (IntKind.i64.wrap (s3 + (1:Int)))))
 else
  some (.inr (.inl ())))
def fB (Hy:(List Int)) (QO:(List Int)):Option (Bool):=
 (bif ((Hy.length:Int) !=(QO.length:Int)) then
  some false
 else
  (gq (A:=Unit) (
   iY (fD Hy QO) (0:Int))
  fun s2=>
   some true))
theorem pI {dr:Prop} {Hy:(List Int)} {QO:(List Int)} {r:Bool} (h:fB Hy QO=some r):Fn dr Tryz.prog 89 [VF (List.map (encI .i64) Hy),VF (List.map (encI .i64) QO)] (VB r):=by
 refine Fn.jZ (dr:=dr) (F:=vM dr Tryz.prog) (base:=0) (js:= [9]) mixed tok kC (fun _ _ _ h=> h) Tryz.call89 Tryz.func89 rfl Tryz.ntmps89 (by rw [Tryz.results89]) (by simp) ?_;have hG:(fun x=> x=r) r:=rfl;unfold fB at h;refine zJ 9 rfl ?_;refine Y1 rfl ?_;refine W.len rfl ?_;refine lT 1 rfl ?_;refine Y1 rfl ?_;refine W.len rfl ?_;refine Rw 3 rfl ?_;refine A.gV rfl h (fun _ h=> ?_) (fun _ h=> ?_)
 ·refine vN 7 rfl ?_;cases h;cases hG;exact ⟨rfl,trivial⟩
 ·refine I4 2 rfl ?_;refine A.join (fun (s2:Unit)=> []) (fun s2=> []) _ h hG rfl ?_ ?_
  ·intro J f h hG;refine zJ 3 rfl ?_;refine Y1 rfl ?_;refine W.len rfl ?_;refine Rw 4 rfl ?_;refine A.loop (fun (s3:Int)=> [(0,VF (List.map (encI .i64) Hy)),(1,VF (List.map (encI .i64) QO)),(12,VI (Hy.length:Int)),(13,VI s3)]) (fun s3=> []) _ h hG (Zf [] [] rfl rfl (Ze rfl rfl (Ze rfl rfl (Ze rfl rfl (Ze rfl rfl trivial)))) trivial) ?_;intro J s3 f h hG;unfold fD at h;refine Zac 6 rfl ?_;refine A.gV rfl h (fun _ h=> ?_) (fun _ h=> ?_)
   ·refine I4 11 rfl ?_;refine A.qh (by kernel_rfl) ?_;refine lT 2 rfl ?_;refine Y1 rfl ?_;refine bP h fun x23 Fh h=> ?_;refine W.chk rfl (uF Fh) ?_;refine W.elem rfl (uG Fh) ?_;refine W.chk rfl rfl ?_;refine W.NR (.fp [.v (.int .i64 x23)]) _ rfl ?_;refine lT 3 rfl ?_;refine Y1 rfl ?_;refine bP h fun x24 hx24 h=> ?_;refine W.chk rfl (uF hx24) ?_;refine W.elem rfl (uG hx24) ?_;refine W.chk rfl rfl ?_;refine W.NR (.fp [.v (.int .i64 x24)]) _ rfl ?_;refine Rw 4 rfl ?_;refine A.gV rfl h (fun _ h=> ?_) (fun _ h=> ?_)
    ·refine vN 8 rfl ?_;refine iI.r ?_;refine Zob 1 rfl ?_;refine iI.r ?_;cases h;cases hG;exact ⟨rfl,trivial⟩
    ·refine vN 7 rfl ?_;cases h;exact Zh hG [] [] rfl rfl (Ze rfl rfl (Ze rfl rfl (Ze rfl rfl (Ze rfl rfl trivial)))) trivial
   ·refine vN 2 rfl ?_;refine iI.e ?_;refine Zob 1 rfl ?_;cases h;exact Zh hG [] [] rfl rfl trivial trivial
  ·intro s2 r2 h hG;refine vN 6 rfl ?_;cases h;cases hG;exact ⟨rfl,trivial⟩
def jk (a_:aQ) (b_:aQ):Option (Bool):=
 (gq (A:=Bool) (
  (bif (a_.Account==b_.Account) then
   (bif (a_.Seq==b_.Seq) then
    (bif (a_.Kind==b_.Kind) then
     (bif (a_.dN==b_.dN) then
      (bif (a_.On==b_.On) then
       some (.inl (a_.Quote==b_.Quote))
      else
       some (.inl false))
     else
      some (.inl false))
    else
     some (.inl false))
   else
    some (.inl false))
  else
   some (.inl false)))
 fun s1=>
  (bif s1 then
   (bif (a_.Who==b_.Who) then
    (bif (a_.N==b_.N) then
     (bif (a_.Text.toList==b_.Text.toList) then
      (fB a_.Files b_.Files).bind fun y1=>
      some y1
     else
      some false)
    else
     some false)
   else
    some false)
  else
   some false))
theorem Au {dr:Prop} {a_:aQ} {b_:aQ} {r:Bool} (h:jk a_ b_=some r):Fn dr Tryz.prog 52 [.agg (aQ.av a_),.agg (aQ.av b_)] (VB r):=by
 refine Fn.jZ (dr:=dr) (F:=vM dr Tryz.prog) (base:=0) (js:= [2]) mixed tok kC (fun _ _ _ h=> h) Tryz.call52 Tryz.func52 rfl Tryz.ntmps52 (by rw [Tryz.results52]) (by simp) ?_;have hG:(fun x=> x=r) r:=rfl;unfold jk at h;refine zJ 2 rfl ?_;refine Zm (.lp 2 1 0) (Mem.add _ 2 (.box (aQ.av a_))) rfl rfl ?_;refine Zm (.lp 3 1 0) (Mem.add _ 3 (.box (aQ.av b_))) rfl rfl ?_;refine Rw 3 rfl ?_;refine A.join (fun (s1:Bool)=> [(2,.lp 900000 1 0),(3,.lp 900001 1 0),(5,VB s1)]) (fun s1=> [(900000,.box (aQ.av a_)),(900001,.box (aQ.av b_))]) _ h hG rfl ?_ ?_
 ·intro J f h hG;refine zJ 7 rfl ?_;refine YT rfl rfl rfl h (fun _ h=> ?_) (fun _ h=> ?_)
  ·refine iZ 7 rfl ?_;refine YT rfl rfl rfl h (fun _ h=> ?_) (fun _ h=> ?_)
   ·refine iZ 7 rfl ?_;refine YT rfl rfl rfl h (fun _ h=> ?_) (fun _ h=> ?_)
    ·refine iZ 7 rfl ?_;refine YT rfl rfl rfl h (fun _ h=> ?_) (fun _ h=> ?_)
     ·refine iZ 7 rfl ?_;refine YT rfl rfl rfl h (fun _ h=> ?_) (fun _ h=> ?_)
      ·refine AL 8 rfl ?_;cases h;exact Zh hG [] [(900000,(2,1)),(900001,(3,1))] rfl rfl (Ze rfl rfl (Ze rfl rfl (Ze rfl rfl trivial))) (Zc rfl rfl (Zc rfl rfl trivial))
      ·refine kS 7 rfl ?_;cases h;exact Zh hG [] [(900000,(2,1)),(900001,(3,1))] rfl rfl (Ze rfl rfl (Ze rfl rfl (Ze rfl rfl trivial))) (Zc rfl rfl (Zc rfl rfl trivial))
     ·refine kS 14 rfl ?_;cases h;exact Zh hG [] [(900000,(2,1)),(900001,(3,1))] rfl rfl (Ze rfl rfl (Ze rfl rfl (Ze rfl rfl trivial))) (Zc rfl rfl (Zc rfl rfl trivial))
    ·refine kS 21 rfl ?_;cases h;exact Zh hG [] [(900000,(2,1)),(900001,(3,1))] rfl rfl (Ze rfl rfl (Ze rfl rfl (Ze rfl rfl trivial))) (Zc rfl rfl (Zc rfl rfl trivial))
   ·refine kS 28 rfl ?_;cases h;exact Zh hG [] [(900000,(2,1)),(900001,(3,1))] rfl rfl (Ze rfl rfl (Ze rfl rfl (Ze rfl rfl trivial))) (Zc rfl rfl (Zc rfl rfl trivial))
  ·refine kS 35 rfl ?_;cases h;exact Zh hG [] [(900000,(2,1)),(900001,(3,1))] rfl rfl (Ze rfl rfl (Ze rfl rfl (Ze rfl rfl trivial))) (Zc rfl rfl (Zc rfl rfl trivial))
 ·intro s1 r2 h hG;refine Tc 4 rfl ?_;refine YT rfl rfl rfl h (fun _ h=> ?_) (fun _ h=> ?_)
  ·refine iZ 7 rfl ?_;refine YT rfl rfl rfl h (fun _ h=> ?_) (fun _ h=> ?_)
   ·refine iZ 7 rfl ?_;refine YT rfl rfl rfl h (fun _ h=> ?_) (fun _ h=> ?_)
    ·refine iZ 7 rfl ?_;refine YT rfl rfl rfl h (fun _ h=> ?_) (fun _ h=> ?_)
     ·refine iZ 4 rfl ?_;refine Y2 rfl rfl rfl ?_;refine bP h fun y1 hy1 h=> ?_;refine W.call rfl (pI hy1) ?_;refine AL 6 rfl ?_;cases h;cases hG;exact ⟨rfl,trivial⟩
     ·refine kS 9 rfl ?_;cases h;cases hG;exact ⟨rfl,trivial⟩
    ·refine kS 16 rfl ?_;cases h;cases hG;exact ⟨rfl,trivial⟩
   ·refine kS 23 rfl ?_;cases h;cases hG;exact ⟨rfl,trivial⟩
  ·refine kS 30 rfl ?_;cases h;cases hG;exact ⟨rfl,trivial⟩
def dQ (Hy:(List Bool)) (QO:(List Bool)) (s3:Int):Option ((Int)⊕((Unit)⊕(Bool))):=
 (bif (decide (s3 < (Hy.length:Int))) then
  (oV Hy s3).bind fun x23=>
  (oV QO s3).bind fun x24=>
  (bif (!(x23==x24)) then
   some (.inr (.inr false))
  else
   some (.inl (IntKind.i64.wrap (s3 + (1:Int)))))
 else
  some (.inr (.inl ())))
def dM (Hy:(List Bool)) (QO:(List Bool)):Option (Bool):=
 (bif ((Hy.length:Int) !=(QO.length:Int)) then
  some false
 else
  (gq (A:=Unit) (
   iY (dQ Hy QO) (0:Int))
  fun s2=>
   some true))
theorem nX {dr:Prop} {Hy:(List Bool)} {QO:(List Bool)} {r:Bool} (h:dM Hy QO=some r):Fn dr Tryz.prog 53 [VF (List.map jo Hy),VF (List.map jo QO)] (VB r):=by
 refine Fn.jZ (dr:=dr) (F:=vM dr Tryz.prog) (base:=0) (js:= [9]) mixed tok kC (fun _ _ _ h=> h) Tryz.call53 Tryz.func53 rfl Tryz.ntmps53 (by rw [Tryz.results53]) (by simp) ?_;have hG:(fun x=> x=r) r:=rfl;unfold dM at h;refine zJ 9 rfl ?_;refine Y1 rfl ?_;refine W.len rfl ?_;refine lT 1 rfl ?_;refine Y1 rfl ?_;refine W.len rfl ?_;refine Rw 3 rfl ?_;refine A.gV rfl h (fun _ h=> ?_) (fun _ h=> ?_)
 ·refine vN 7 rfl ?_;cases h;cases hG;exact ⟨rfl,trivial⟩
 ·refine I4 2 rfl ?_;refine A.join (fun (s2:Unit)=> []) (fun s2=> []) _ h hG rfl ?_ ?_
  ·intro J f h hG;refine zJ 3 rfl ?_;refine Y1 rfl ?_;refine W.len rfl ?_;refine Rw 4 rfl ?_;refine A.loop (fun (s3:Int)=> [(0,VF (List.map jo Hy)),(1,VF (List.map jo QO)),(12,VI (Hy.length:Int)),(13,VI s3)]) (fun s3=> []) _ h hG (Zf [] [] rfl rfl (Ze rfl rfl (Ze rfl rfl (Ze rfl rfl (Ze rfl rfl trivial)))) trivial) ?_;intro J s3 f h hG;unfold dQ at h;refine Zac 6 rfl ?_;refine A.gV rfl h (fun _ h=> ?_) (fun _ h=> ?_)
   ·refine I4 11 rfl ?_;refine A.qh (by kernel_rfl) ?_;refine lT 2 rfl ?_;refine Y1 rfl ?_;refine bP h fun x23 Fh h=> ?_;refine W.chk rfl (uF Fh) ?_;refine W.elem rfl (uG Fh) ?_;refine W.chk rfl rfl ?_;refine W.NR (.fp [.v (.bool x23)]) _ rfl ?_;refine lT 3 rfl ?_;refine Y1 rfl ?_;refine bP h fun x24 hx24 h=> ?_;refine W.chk rfl (uF hx24) ?_;refine W.elem rfl (uG hx24) ?_;refine W.chk rfl rfl ?_;refine W.NR (.fp [.v (.bool x24)]) _ rfl ?_;refine Rw 4 rfl ?_;refine A.gV rfl h (fun _ h=> ?_) (fun _ h=> ?_)
    ·refine vN 8 rfl ?_;refine iI.r ?_;refine Zob 1 rfl ?_;refine iI.r ?_;cases h;cases hG;exact ⟨rfl,trivial⟩
    ·refine vN 7 rfl ?_;cases h;exact Zh hG [] [] rfl rfl (Ze rfl rfl (Ze rfl rfl (Ze rfl rfl (Ze rfl rfl trivial)))) trivial
   ·refine vN 2 rfl ?_;refine iI.e ?_;refine Zob 1 rfl ?_;cases h;exact Zh hG [] [] rfl rfl trivial trivial
  ·intro s2 r2 h hG;refine vN 6 rfl ?_;cases h;cases hG;exact ⟨rfl,trivial⟩
structure dI where
 Message:Int
 Who:Int
 Level:Int
 Step:Int
 Not:Bool
def dI.enc (x:dI):List D:= [.v (.int .i64 x.Message),.v (.int .i64 x.Who),.v (.int .i64 x.Level),.v (.int .i64 x.Step),.v (.bool x.Not)]
abbrev dI.av (x:dI):List AV:= [VI x.Message,VI x.Who,VI x.Level,VI x.Step,VB x.Not]
structure dh where
 Kind:Int
 A:Int
 B:Int
def dh.enc (x:dh):List D:= [.v (.int .i64 x.Kind),.v (.int .i64 x.A),.v (.int .i64 x.B)]
abbrev dh.av (x:dh):List AV:= [VI x.Kind,VI x.A,VI x.B]
structure bD where
 Name:Int
 Step:Int
 Bad:Bool
def bD.enc (x:bD):List D:= [.v (.int .i64 x.Name),.v (.int .i64 x.Step),.v (.bool x.Bad)]
abbrev bD.av (x:bD):List AV:= [VI x.Name,VI x.Step,VB x.Bad]
structure dJ where
 Id:Int
 Event:Int
 From:Int
 To:Int
def dJ.enc (x:dJ):List D:= [.v (.int .i64 x.Id),.v (.int .i64 x.Event),.v (.int .i64 x.From),.v (.int .i64 x.To)]
abbrev dJ.av (x:dJ):List AV:= [VI x.Id,VI x.Event,VI x.From,VI x.To]
structure dn where
 Kind:Int
 Event:Int
 By:Int
 Step:Int
def dn.enc (x:dn):List D:= [.v (.int .i64 x.Kind),.v (.int .i64 x.Event),.v (.int .i64 x.By),.v (.int .i64 x.Step)]
abbrev dn.av (x:dn):List AV:= [VI x.Kind,VI x.Event,VI x.By,VI x.Step]
structure ak where
 Kind:Int
 Net:Int
 Event:Int
 Local:Int
 N:Int
 Raw:aQ
 Note:dI
 Proof:dh
 aB:bD
 Hold:dJ
 Order:dn
 Up:(List Bool)
def ak.enc (x:ak):List D:= [.v (.int .i64 x.Kind),.v (.int .i64 x.Net),.v (.int .i64 x.Event),.v (.int .i64 x.Local),.v (.int .i64 x.N),.v (.int .i64 x.Raw.Account),.v (.int .i64 x.Raw.Seq),.v (.int .i64 x.Raw.Kind),.v (.int .i64 x.Raw.dN),.v (.int .i64 x.Raw.On),.v (.int .i64 x.Raw.Quote),.v (.int .i64 x.Raw.Who),.v (.int .i64 x.Raw.N),.v (.string x.Raw.Text),.fz (List.map (encI .i64) x.Raw.Files),.v (.int .i64 x.Note.Message),.v (.int .i64 x.Note.Who),.v (.int .i64 x.Note.Level),.v (.int .i64 x.Note.Step),.v (.bool x.Note.Not),.v (.int .i64 x.Proof.Kind),.v (.int .i64 x.Proof.A),.v (.int .i64 x.Proof.B),.v (.int .i64 x.aB.Name),.v (.int .i64 x.aB.Step),.v (.bool x.aB.Bad),.v (.int .i64 x.Hold.Id),.v (.int .i64 x.Hold.Event),.v (.int .i64 x.Hold.From),.v (.int .i64 x.Hold.To),.v (.int .i64 x.Order.Kind),.v (.int .i64 x.Order.Event),.v (.int .i64 x.Order.By),.v (.int .i64 x.Order.Step),.fz (List.map jo x.Up)]
abbrev ak.av (x:ak):List AV:= [VI x.Kind,VI x.Net,VI x.Event,VI x.Local,VI x.N,VI x.Raw.Account,VI x.Raw.Seq,VI x.Raw.Kind,VI x.Raw.dN,VI x.Raw.On,VI x.Raw.Quote,VI x.Raw.Who,VI x.Raw.N,VS x.Raw.Text,VF (List.map (encI .i64) x.Raw.Files),VI x.Note.Message,VI x.Note.Who,VI x.Note.Level,VI x.Note.Step,VB x.Note.Not,VI x.Proof.Kind,VI x.Proof.A,VI x.Proof.B,VI x.aB.Name,VI x.aB.Step,VB x.aB.Bad,VI x.Hold.Id,VI x.Hold.Event,VI x.Hold.From,VI x.Hold.To,VI x.Order.Kind,VI x.Order.Event,VI x.Order.By,VI x.Order.Step,VF (List.map jo x.Up)]
def kY (a_:ak) (b_:ak):Option (Bool):=
 (gq (A:=Bool) (
  (bif (a_.Kind==b_.Kind) then
   (bif (a_.Net==b_.Net) then
    (bif (a_.Event==b_.Event) then
     (bif (a_.Local==b_.Local) then
      (bif (a_.N==b_.N) then
       (jk (aQ.mk a_.Raw.Account a_.Raw.Seq a_.Raw.Kind a_.Raw.dN a_.Raw.On a_.Raw.Quote a_.Raw.Who a_.Raw.N a_.Raw.Text a_.Raw.Files) (aQ.mk b_.Raw.Account b_.Raw.Seq b_.Raw.Kind b_.Raw.dN b_.Raw.On b_.Raw.Quote b_.Raw.Who b_.Raw.N b_.Raw.Text b_.Raw.Files)).bind fun y2=>
       some (.inl y2)
      else
       some (.inl false))
     else
      some (.inl false))
    else
     some (.inl false))
   else
    some (.inl false))
  else
   some (.inl false)))
 fun s1=>
  (bif s1 then
   (bif ((a_.Note.Message==b_.Note.Message) && ((a_.Note.Who==b_.Note.Who) && ((a_.Note.Level==b_.Note.Level) && ((a_.Note.Step==b_.Note.Step) && ((a_.Note.Not==b_.Note.Not) && true))))) then
    (bif ((a_.Proof.Kind==b_.Proof.Kind) && ((a_.Proof.A==b_.Proof.A) && ((a_.Proof.B==b_.Proof.B) && true))) then
     (bif ((a_.aB.Name==b_.aB.Name) && ((a_.aB.Step==b_.aB.Step) && ((a_.aB.Bad==b_.aB.Bad) && true))) then
      (bif ((a_.Hold.Id==b_.Hold.Id) && ((a_.Hold.Event==b_.Hold.Event) && ((a_.Hold.From==b_.Hold.From) && ((a_.Hold.To==b_.Hold.To) && true)))) then
       (bif ((a_.Order.Kind==b_.Order.Kind) && ((a_.Order.Event==b_.Order.Event) && ((a_.Order.By==b_.Order.By) && ((a_.Order.Step==b_.Order.Step) && true)))) then
        (dM a_.Up b_.Up).bind fun y3=>
        some y3
       else
        some false)
      else
       some false)
     else
      some false)
    else
     some false)
   else
    some false)
  else
   some false))
theorem Nv {dr:Prop} {a_:ak} {b_:ak} {r:Bool} (h:kY a_ b_=some r):Fn dr Tryz.prog 31 [.agg (ak.av a_),.agg (ak.av b_)] (VB r):=by
 refine Fn.jZ (dr:=dr) (F:=vM dr Tryz.prog) (base:=0) (js:= [2]) mixed tok kC (fun _ _ _ h=> h) Tryz.call31 Tryz.func31 rfl Tryz.ntmps31 (by rw [Tryz.results31]) (by simp) ?_;have hG:(fun x=> x=r) r:=rfl;unfold kY at h;refine zJ 2 rfl ?_;refine Zm (.lp 2 1 0) (Mem.add _ 2 (.box (ak.av a_))) rfl rfl ?_;refine Zm (.lp 3 1 0) (Mem.add _ 3 (.box (ak.av b_))) rfl rfl ?_;refine Rw 3 rfl ?_;refine A.join (fun (s1:Bool)=> [(2,.lp 900000 1 0),(3,.lp 900001 1 0),(5,VB s1)]) (fun s1=> [(900000,.box (ak.av a_)),(900001,.box (ak.av b_))]) _ h hG rfl ?_ ?_
 ·intro J f h hG;refine zJ 7 rfl ?_;refine YT rfl rfl rfl h (fun _ h=> ?_) (fun _ h=> ?_)
  ·refine iZ 7 rfl ?_;refine YT rfl rfl rfl h (fun _ h=> ?_) (fun _ h=> ?_)
   ·refine iZ 7 rfl ?_;refine YT rfl rfl rfl h (fun _ h=> ?_) (fun _ h=> ?_)
    ·refine iZ 7 rfl ?_;refine YT rfl rfl rfl h (fun _ h=> ?_) (fun _ h=> ?_)
     ·refine iZ 7 rfl ?_;refine YT rfl rfl rfl h (fun _ h=> ?_) (fun _ h=> ?_)
      ·refine iZ 1 rfl ?_;refine Zu (.agg (aQ.av a_.Raw)) rfl rfl rfl rfl ?_;refine lT 1 rfl ?_;refine Zu (.agg (aQ.av b_.Raw)) rfl rfl rfl rfl ?_;refine Y2 rfl rfl rfl ?_;refine bP h fun y2 hy2 h=> ?_;refine W.call rfl (Au hy2) ?_;refine AL 4 rfl ?_;cases h;exact Zh hG [] [(900000,(2,1)),(900001,(3,1))] rfl rfl (Ze rfl rfl (Ze rfl rfl (Ze rfl rfl trivial))) (Zc rfl rfl (Zc rfl rfl trivial))
      ·refine kS 7 rfl ?_;cases h;exact Zh hG [] [(900000,(2,1)),(900001,(3,1))] rfl rfl (Ze rfl rfl (Ze rfl rfl (Ze rfl rfl trivial))) (Zc rfl rfl (Zc rfl rfl trivial))
     ·refine kS 14 rfl ?_;cases h;exact Zh hG [] [(900000,(2,1)),(900001,(3,1))] rfl rfl (Ze rfl rfl (Ze rfl rfl (Ze rfl rfl trivial))) (Zc rfl rfl (Zc rfl rfl trivial))
    ·refine kS 21 rfl ?_;cases h;exact Zh hG [] [(900000,(2,1)),(900001,(3,1))] rfl rfl (Ze rfl rfl (Ze rfl rfl (Ze rfl rfl trivial))) (Zc rfl rfl (Zc rfl rfl trivial))
   ·refine kS 28 rfl ?_;cases h;exact Zh hG [] [(900000,(2,1)),(900001,(3,1))] rfl rfl (Ze rfl rfl (Ze rfl rfl (Ze rfl rfl trivial))) (Zc rfl rfl (Zc rfl rfl trivial))
  ·refine kS 35 rfl ?_;cases h;exact Zh hG [] [(900000,(2,1)),(900001,(3,1))] rfl rfl (Ze rfl rfl (Ze rfl rfl (Ze rfl rfl trivial))) (Zc rfl rfl (Zc rfl rfl trivial))
 ·intro s1 r2 h hG;refine Tc 4 rfl ?_;refine YT rfl rfl rfl h (fun _ h=> ?_) (fun _ h=> ?_)
  ·refine iZ 1 rfl ?_;refine Zu (.agg (dI.av a_.Note)) rfl rfl rfl rfl ?_;refine lT 1 rfl ?_;refine Zu (.agg (dI.av b_.Note)) rfl rfl rfl rfl ?_;refine lT 3 rfl ?_;refine YT rfl rfl rfl h (fun _ h=> ?_) (fun _ h=> ?_)
   ·refine iZ 1 rfl ?_;refine Zu (.agg (dh.av a_.Proof)) rfl rfl rfl rfl ?_;refine lT 1 rfl ?_;refine Zu (.agg (dh.av b_.Proof)) rfl rfl rfl rfl ?_;refine lT 3 rfl ?_;refine YT rfl rfl rfl h (fun _ h=> ?_) (fun _ h=> ?_)
    ·refine iZ 1 rfl ?_;refine Zu (.agg (bD.av a_.aB)) rfl rfl rfl rfl ?_;refine lT 1 rfl ?_;refine Zu (.agg (bD.av b_.aB)) rfl rfl rfl rfl ?_;refine lT 3 rfl ?_;refine YT rfl rfl rfl h (fun _ h=> ?_) (fun _ h=> ?_)
     ·refine iZ 1 rfl ?_;refine Zu (.agg (dJ.av a_.Hold)) rfl rfl rfl rfl ?_;refine lT 1 rfl ?_;refine Zu (.agg (dJ.av b_.Hold)) rfl rfl rfl rfl ?_;refine lT 3 rfl ?_;refine YT rfl rfl rfl h (fun _ h=> ?_) (fun _ h=> ?_)
      ·refine iZ 1 rfl ?_;refine Zu (.agg (dn.av a_.Order)) rfl rfl rfl rfl ?_;refine lT 1 rfl ?_;refine Zu (.agg (dn.av b_.Order)) rfl rfl rfl rfl ?_;refine lT 3 rfl ?_;refine YT rfl rfl rfl h (fun _ h=> ?_) (fun _ h=> ?_)
       ·refine iZ 4 rfl ?_;refine Y2 rfl rfl rfl ?_;refine bP h fun y3 hy3 h=> ?_;refine W.call rfl (nX hy3) ?_;refine AL 6 rfl ?_;cases h;cases hG;exact ⟨rfl,trivial⟩
       ·refine kS 9 rfl ?_;cases h;cases hG;exact ⟨rfl,trivial⟩
      ·refine kS 16 rfl ?_;cases h;cases hG;exact ⟨rfl,trivial⟩
     ·refine kS 23 rfl ?_;cases h;cases hG;exact ⟨rfl,trivial⟩
    ·refine kS 30 rfl ?_;cases h;cases hG;exact ⟨rfl,trivial⟩
   ·refine kS 37 rfl ?_;cases h;cases hG;exact ⟨rfl,trivial⟩
  ·refine kS 44 rfl ?_;cases h;cases hG;exact ⟨rfl,trivial⟩
end
section
open Go.ChangeShapes Go.WideShapes Go.ChangeAt Go.RowKit Go.Deep
section
variable {H : Type} {enc : TypeId × Value → H} {P : Program} {W : World}
def Old (W:World) (b:Nat):Prop:=b < W.heap.size
def ny (W:World) (ds:List D) (cs:List Value):Prop:=cs.length=ds.length∧∀(j:Nat) (d:D) (u:Value),ds[j]? =some d→cs[j]? =some u→aV (Old W) W d u
def jF (enc:TypeId×Value→H) (P:Program) (W:World) {α:Type} (e:TypeId) (f:α→List D) (Q:α→Prop):Prop:=
 ∀(fuel:Nat) (cs:List Value) (x:DataW H×List MemPlace),DataW.trod enc P W 0 (fun _=> true) true fuel e cs=some x→∃y,ny W (f y) cs∧Q y
theorem nG {d:D} {u:Value} (h:aV (Old W) W d u):ny W [d] [u]:=⟨rfl,fun j x y hx hy=> by
 cases j with
 | zero=> simp at hx hy;subst hx hy;exact h
 | succ j=> simp at hx⟩
theorem Hz {ds es:List D} {cs us:List Value} (h:ny W ds cs) (k:ny W es us):ny W (ds ++ es) (cs ++ us):=⟨by simp [h.1,k.1],fun j x y hx hy=> by
 rw [List.getElem?_append] at hx hy
 rw [h.1] at hy
 split at hx
 ·rename_i hlt
  rw [if_pos hlt] at hy
  exact h.2 j x y hx hy
 ·rename_i hlt
  rw [if_neg hlt] at hy
  exact k.2 _ x y hx hy⟩
theorem aO {t:TypeId} {k:IntKind} (ht:P.underlying t=some (.int k)):jF enc P W t (encI k) (fun n=> k.min≤n∧n≤k.max):=fun _ _ _ h=> by
 obtain ⟨n,rfl,_,hw⟩:=DataW.trod_int ht h
 refine ⟨n,nG (.v _ rfl),?_⟩
 simpa [Lit.wf] using hw
theorem qO {t:TypeId} (ht:P.underlying t=some .bool):jF enc P W t jo (fun _=> True):=fun _ _ _ h=> by
 obtain ⟨n,rfl,_⟩:=DataW.trod_bool ht h
 exact ⟨n,nG (.v _ rfl),trivial⟩
theorem uq {t:TypeId} (ht:P.underlying t=some .string):jF enc P W t encS (fun s=> s.size≤maxLen):=fun _ _ _ h=> by
 obtain ⟨s,rfl,_,hl⟩:=DataW.trod_string ht h
 refine ⟨s,nG (.v _ rfl),?_⟩
 obtain ⟨⟨l⟩⟩:=s
 simpa [ByteArray.size] using hl
theorem QS {α:Type} (R:Nat→α→Prop):∀n,(∀i,i < n→∃y,R i y)→∃l:List α,l.length=n∧∀i (hi:i < l.length),R i l[i]
 | 0,_=> ⟨[],rfl,fun i hi=> absurd hi (by simp)⟩
 | n + 1,h=> by
  obtain ⟨l,h1,h2⟩:=QS R n (fun i hi=> h i (by omega))
  obtain ⟨y,hy⟩:=h n (by omega)
  refine ⟨l ++ [y],by simp [h1],fun i hi=> ?_⟩
  by_cases hin:i < l.length
  ·rw [List.getElem_append_left hin];exact h2 i hin
  ·have:i=n:=by simp at hi;omega
   subst this
   rw [List.getElem_append_right (by omega)]
   simpa [h1] using hy
theorem vP {t e:TypeId} (ht:P.underlying t=some (.slice e)) {sz:Nat} (hsz:P.cellsOf e=sz) (hpos:0 < sz) {α:Type} {f:α→List D} (hf:∀x,(f x).length=sz) {Q:α→Prop} (hel:jF enc P W e f Q):
  jF enc P W t (aqC f) (fun l=> l.length≤maxLen∧∀x∈l,Q x):=by
 intro fuel cs x h
 rcases open_slice ht h with ⟨rfl,_⟩ | ⟨a,len,cap,m,n,Dt,Pl,rfl,_,hl,hm,hmm,_,hi⟩
 ·exact ⟨[],nG (.fz0 _ _ fun _=> rfl),by simp,by simp⟩
 ·simp only [if_true] at hmm
  rw [hsz,hmm] at hi
  obtain ⟨l,hll,hlr⟩:=QS (fun i y=> Q y∧∀j d,(f y)[j]? =some d→∃u,W.cell? (a.add (i * sz + j))=some u∧aV (Old W) W d u) len (fun i hil=> by
   obtain ⟨cs',hc,ht'⟩:=hi i (by omega)
   obtain ⟨y,hy,hq⟩:=hel _ _ _ ht'
   obtain ⟨_,hcl,hat⟩:=World.cells?_some hc
   refine ⟨y,hq,fun j d hd=> ?_⟩
   have hj:j < sz:=by have:=(List.getElem?_eq_some_iff.1 hd).1;rw [hf] at this;exact this
   have h1:=hat j hj
   rw [Go.Deep.add_add] at h1
   have hjl:j < cs'.length:=by rw [hy.1,hf];exact hj
   exact ⟨cs'[j],by rw [h1];exact List.getElem?_eq_getElem hjl,hy.2 j d _ hd (List.getElem?_eq_getElem hjl)⟩)
  refine ⟨l,nG ?_,by rw [hll];exact Nat.le_trans hl hm,fun x hx=> ?_⟩
  ·by_cases h0:len=0
   ·have:l= []:=List.eq_nil_of_length_eq_zero (by omega)
    subst this h0
    exact .fz0 _ _ fun h=> by cases h
   ·obtain ⟨u0,hu0,_⟩:=(hlr 0 (by omega)).2 0 _ (List.getElem?_eq_getElem (show 0 < (f (l[0]'(by omega))).length by rw [hf];exact hpos))
    rw [Nat.zero_mul] at hu0
    have ha0:a.add (0 + 0)=a:=rfl
    rw [ha0] at hu0
    obtain ⟨hae,hab⟩:=J4 hu0
    have all:∀q,q < len * sz→∃u,W.cell? ⟨a.block,a.off + q,none⟩=some u:=by
     intro q hq
     have hmod:=Nat.mod_lt q hpos
     have hdiv:q / sz < len:=(Nat.div_lt_iff_lt_mul hpos).2 hq
     obtain ⟨u,hu,_⟩:=(hlr (q / sz) (by omega)).2 (q % sz) _ (List.getElem?_eq_getElem (show q % sz < (f (l[q / sz]'(by omega))).length by rw [hf];exact hmod))
     have hqe:q / sz * sz + q % sz=q:=by rw [Nat.mul_comm];exact Nat.div_add_mod q sz
     rw [hqe,hae,add_eq] at hu
     exact ⟨u,hu⟩
    have hlen:(l.map f).length=len:=by simp [hll]
    have hrel:=aV.fz (S:=Old W) (w:=W) (l.map f) a.block a.off sz cap (fun q=> (W.cell? ⟨a.block,a.off + q,none⟩).getD undef) (fun e he=> by
     obtain ⟨y,_,rfl⟩:=List.mem_map.1 he
     exact hf y) hab (by rw [hlen];exact hl) (fun j hj=> by
     rw [hlen] at hj
     obtain ⟨u,hu⟩:=all j hj
     rw [hu]
     rfl) (fun i j e d he hd=> by
     rw [List.getElem?_map] at he
     have hil:i < l.length:=by
      cases hq:l[i]? with
      | none=> rw [hq] at he;cases he
      | some q=> exact (List.getElem?_eq_some_iff.1 hq).1
     rw [List.getElem?_eq_getElem hil] at he
     simp at he
     subst he
     obtain ⟨u,hu,hr⟩:=(hlr i hil).2 j d hd
     rw [hae,add_eq] at hu
     show aV _ _ d ((W.cell? ⟨a.block,a.off + (i * sz + j),none⟩).getD undef)
     rw [hu]
     exact hr)
    rw [hlen,←hae] at hrel
    exact hrel
  ·obtain ⟨i,hi,rfl⟩:=List.getElem_of_mem hx
   exact (hlr i hi).1
def xP (enc:TypeId×Value→H) (P:Program) (W:World) (n:Nat) (cs:List Value):List (Nat×TypeId)→Prop
 | []=> True
 | (o,t)::r=> (∃x,DataW.trod enc P W 0 (fun _=> true) true n t ((cs.drop o).take (P.cellsOf t))=some x)∧xP enc P W n cs r
theorem jG {t:TypeId} {fs:Array Field} {fuel:Nat} {cs:List Value} {x:DataW H×List MemPlace} (ht:P.underlying t=some (.struct fs)) (h:DataW.trod enc P W 0 (fun _=> true) true fuel t cs=some x):
  ∃n,xP enc P W n cs (fs.toList.map fun f=> (f.offset,f.type))∧cs.length=P.cellsOf t:=by
 obtain ⟨xs,n,_,_,hl,hlen,hf⟩:=DataW.trod_struct ht h
 refine ⟨n,?_,hl⟩
 have:∀(l:List Field),(∀f∈l,∃i:Nat,fs[i]? =some f)→xP enc P W n cs (l.map fun f=> (f.offset,f.type)):=by
  intro l
  induction l with
  | nil=> exact fun _=> trivial
  | cons f l ih=>
   intro hm
   obtain ⟨i,hi⟩:=hm f (by simp)
   have hil:i < xs.length:=by rw [hlen];exact (Array.getElem?_eq_some_iff.1 hi).1
   exact ⟨⟨xs[i],by rw [hf i f hi];exact List.getElem?_eq_getElem hil⟩,ih fun f' hf'=> hm f' (by simp [hf'])⟩
 exact this _ fun f hf'=> by
  obtain ⟨i,hi,rfl⟩:=List.getElem_of_mem hf'
  exact ⟨i,by simp at hi ⊢⟩
theorem aF {n o z:Nat} {t:TypeId} {r:List (Nat×TypeId)} {cs:List Value} {α:Type} {f:α→List D} {Q:α→Prop} (hel:jF enc P W t f Q) (h:xP enc P W n cs ((o,t)::r)) (hz:P.cellsOf t=z):
  ∃y,ny W (f y) ((cs.drop o).take z)∧Q y∧xP enc P W n cs r:=by
 obtain ⟨⟨x,hx⟩,hr⟩:=h
 rw [hz] at hx
 obtain ⟨y,h1,h2⟩:=hel _ _ _ hx
 exact ⟨y,h1,h2,hr⟩
theorem aG {ds es:List D} {cs:List Value} {o z:Nat} (h:ny W ds ((cs.drop o).take z)) (_hz:ds.length=z) (k:ny W es (cs.drop (o + z))):ny W (ds ++ es) (cs.drop o):=by
 have e:cs.drop o=(cs.drop o).take z ++ cs.drop (o + z):=by rw [←List.drop_drop,List.take_append_drop]
 rw [e]
 exact Hz h k
theorem jH {cs:List Value} {o:Nat} (h:cs.length=o):ny W [] (cs.drop o):=by
 rw [List.drop_of_length_le (by omega)]
 exact ⟨rfl,fun j d u hd=> by simp at hd⟩
theorem aaH {t:TypeId} {v:Value} {d:DataW H} {p:List MemPlace} {α:Type} {f:α→D} {Q:α→Prop} (hel:jF enc P W t (fun y=> [f y]) Q) (hv:v.cells= #[v]) (h:DataW.Trod enc P W 0 (fun _=> true) true t v d p):∃y,aV (Old W) W (f y) v∧Q y:=by
 obtain ⟨fuel,hf⟩:=h
 obtain ⟨y,h1,h2⟩:=hel _ _ _ hf
 rw [hv] at h1
 exact ⟨y,h1.2 0 _ _ rfl rfl,h2⟩
theorem aaG {t:TypeId} {xs:Array Value} {d:DataW H} {p:List MemPlace} {α:Type} {f:α→List D} {Q:α→Prop} (hel:jF enc P W t f Q) (h:DataW.Trod enc P W 0 (fun _=> true) true t (.agg xs) d p):∃y,Rel (G6 (Old W) W) (.agg ((f y).map .d)) (.agg xs)∧Q y:=by
 obtain ⟨fuel,hf⟩:=h
 obtain ⟨y,h1,h2⟩:=hel _ _ _ hf
 have h1:ny W (f y) xs.toList:=h1
 refine ⟨y,.agg (by have:=h1.1;simpa using this) fun j c u hc hu=> ?_,h2⟩
 rw [List.getElem?_map] at hc
 cases hq:(f y)[j]? with
 | none=> rw [hq] at hc;cases hc
 | some q=>
  rw [hq] at hc
  injection hc with hc
  subst hc
  exact .d (h1.2 j q u hq (by simpa using hu))
end
end
section
open Go.RowKit Go.Shelf
def GR (a:ak) (k:Nat):Int:=match k with
 | 0=> a.Kind
 | 1=> a.Net
 | 2=> a.Event
 | 3=> a.Local
 | 4=> a.N
 | 5=> a.Raw.Account
 | 6=> a.Raw.Seq
 | 7=> a.Raw.Kind
 | 8=> a.Raw.dN
 | 9=> a.Raw.On
 | 10=> a.Raw.Quote
 | 11=> a.Raw.Who
 | 12=> a.Raw.N
 | 15=> a.Note.Message
 | 16=> a.Note.Who
 | 17=> a.Note.Level
 | 18=> a.Note.Step
 | 20=> a.Proof.Kind
 | 21=> a.Proof.A
 | 22=> a.Proof.B
 | 23=> a.aB.Name
 | 24=> a.aB.Step
 | 26=> a.Hold.Id
 | 27=> a.Hold.Event
 | 28=> a.Hold.From
 | 29=> a.Hold.To
 | 30=> a.Order.Kind
 | 31=> a.Order.Event
 | 32=> a.Order.By
 | 33=> a.Order.Step
 | _=> 0
def dOf (a:ak) (k:Nat):D:=match k with
 | 13=> .v (.string a.Raw.Text)
 | 14=> .fz (a.Raw.Files.map (encI .i64))
 | 19=> .v (.bool a.Note.Not)
 | 25=> .v (.bool a.aB.Bad)
 | 34=> .fz (a.Up.map jo)
 | k=> .v (.int .i64 (GR a k))
theorem AZ (a:ak):ak.enc a=(List.range 35).map (dOf a):=rfl
def dF:ak:=⟨0,0,0,0,0,⟨0,0,0,0,0,0,0,0,ByteArray.mk #[],[]⟩,⟨0,0,0,0,false⟩,⟨0,0,0⟩,⟨0,0,false⟩,⟨0,0,0,0⟩,⟨0,0,0,0⟩,[]⟩
def iF (a:ak):ak:=match a.Kind with
 | 0=> {dF with Kind:=0,Raw:=a.Raw}
 | 1=> {dF with Kind:=1,Net:=a.Net,Event:=a.Event,Local:=a.Local,N:=a.N}
 | 2=> {dF with Kind:=2,Net:=a.Net,Note:=a.Note}
 | 3=> {dF with Kind:=3,Proof:=a.Proof}
 | 4=> {dF with Kind:=4,aB:=a.aB}
 | 5=> {dF with Kind:=5,Hold:=a.Hold}
 | 6=> {dF with Kind:=6,N:=a.N}
 | 7=> {dF with Kind:=7,Order:=a.Order}
 | 8=> {dF with Kind:=8,Net:=a.Net,Event:=a.Event}
 | 9=> {dF with Kind:=9,Up:=a.Up}
 | k=> {dF with Kind:=k}
def okB (a:ak):Option Bool:=match a.Kind with
 | 0=> dH a.Raw
 | 1=> some (decide ((0≤a.Net∧a.Net≤11)∧(0≤a.Event∧a.Event≤99999)∧(0≤a.N∧a.N≤19)∧(0≤a.Local∧a.Local≤1099511627776)))
 | 2=> some (decide ((0≤a.Net∧a.Net≤11)∧(0≤a.Note.Message∧a.Note.Message≤99999)∧(0≤a.Note.Who∧a.Note.Who≤1999)∧(1≤a.Note.Level∧a.Note.Level≤4)∧(a.Note.Step=0)))
 | 3=> some (decide ((0≤a.Proof.Kind∧a.Proof.Kind≤4)∧(0≤a.Proof.A∧a.Proof.A≤199)∧(0≤a.Proof.B∧a.Proof.B≤199)))
 | 4=> some (decide ((0≤a.aB.Name∧a.aB.Name≤1073741824)∧(a.aB.Step=0)))
 | 5=> some (decide ((0≤a.Hold.Id∧a.Hold.Id≤1099511627776)∧(0≤a.Hold.Event∧a.Hold.Event≤99999)∧(a.Hold.From=0)∧(a.Hold.To=0)))
 | 6=> some (decide (0≤a.N∧a.N≤1099511627776))
 | 7=> some (decide ((0≤a.Order.Kind∧a.Order.Kind≤3)∧(0≤a.Order.Event∧a.Order.Event≤99999)∧(0≤a.Order.By∧a.Order.By≤1999)∧(a.Order.Step=0)))
 | 8=> some (decide ((0≤a.Net∧a.Net≤11)∧(0≤a.Event∧a.Event≤99999)))
 | 9=> some (decide (0≤(a.Up.length:Int)∧(a.Up.length:Int)≤12))
 | _=> some false
def inR (a:ak):Prop:=(∀k,-9223372036854775808≤GR a k∧GR a k≤9223372036854775807)∧(a.Up.length:Int)≤9223372036854775807
open Classical in
def jT (a:ak):Option (ak×Bool):=if inR a then (okB a).map fun b=> (iF a,b) else none
def kz (k:Int):List Nat:=if 0≤k∧k≤9 then Ci.slots k else []
def dZ (k:Nat):D:=match k with
 | 13=> .v (.string ⟨#[]⟩)
 | 14=> .fz []
 | 19=> .v (.bool false)
 | 25=> .v (.bool false)
 | 34=> .fz []
 | _=> .v (.int .i64 0)
theorem WE (a:ak):ak.enc (iF a)=(List.range 35).map fun j=> bif Ci.inL j (0::kz a.Kind) then dOf a j else dZ j:=by
 by_cases h:0≤a.Kind∧a.Kind≤9
 ·have:a.Kind=0∨a.Kind=1∨a.Kind=2∨a.Kind=3∨a.Kind=4∨a.Kind=5∨a.Kind=6∨a.Kind=7∨a.Kind=8∨a.Kind=9:=by omega
  obtain ⟨k,n,e,l,m,r,o,p,v,q,w,u⟩:=a
  simp only at this
  rcases this with rfl | rfl | rfl | rfl | rfl | rfl | rfl | rfl | rfl | rfl <;> rfl
 ·have hk:kz a.Kind= []:=if_neg h
  rw [hk]
  have:iF a={dF with Kind:=a.Kind}:=by
   unfold iF
   split <;> first | rfl | (exfalso;rename_i e;rw [e] at h;exact h (by decide))
  rw [this]
  rfl
structure qC (A:Nat→Prop) (W:World) (a:ak) (x:Ci.qM):Prop where
 z:x.z=GR a
 s:x.s=a.Raw.Text
 b1:x.b1=a.Note.Not
 b2:x.b2=a.aB.Bad
 fl:x.fl=a.Raw.Files
 ul:x.ul=a.Up
 rf:aV A W (.fz (a.Raw.Files.map (encI .i64))) (.slice x.fa x.fn x.fc)
 ru:aV A W (.fz (a.Up.map jo)) (.slice x.ua x.un x.uc)
theorem QT {A:Nat→Prop} {W:World} {es:List (List D)} {v:Value} (h:aV A W (.fz es) v):∃a c,v= .slice a es.length c∧(1≤es.length→∃b q,a=some ⟨b,q,none⟩):=by
 cases h with
 | fz0 a c _=> exact ⟨a,c,rfl,fun h=> absurd h (by simp)⟩
 | fz _ b o sz c vs=> exact ⟨_,c,rfl,fun _=> ⟨b,o,rfl⟩⟩
theorem RQ {A:Nat→Prop} {W:World} {a:ak} {fv uv:Value} (hf:aV A W (.fz (a.Raw.Files.map (encI .i64))) fv) (hu:aV A W (.fz (a.Up.map jo)) uv):∃x:Ci.qM,qC A W a x∧x.f 14=fv∧x.f 34=uv:=by
 obtain ⟨fa,fc,e1,_⟩:=QT hf
 obtain ⟨ua,uc,e2,e3⟩:=QT hu
 rw [List.length_map] at e1 e2 e3
 subst e1 e2
 exact ⟨⟨GR a,a.Raw.Text,fa,a.Raw.Files.length,fc,a.Raw.Files,ua,a.Up.length,uc,a.Up,a.Note.Not,a.aB.Bad,rfl,rfl,e3⟩,⟨rfl,rfl,rfl,rfl,rfl,rfl,hf,hu⟩,rfl,rfl⟩
theorem qC.rel {A:Nat→Prop} {W:World} {a:ak} {x:Ci.qM} (h:qC A W a x) (j:Nat) (hj:j < 35):aV A W (dOf a j) (x.f j):=by
 obtain ⟨hz,hs,h1,h2,hl,hu,rf,ru⟩:=h
 unfold dOf Ci.qM.f
 rw [hz,hs,h1,h2]
 split
 ·exact .v _ rfl
 ·exact rf
 ·exact .v _ rfl
 ·exact .v _ rfl
 ·exact ru
 ·rename_i n1 n2 n3 n4 n5
  split <;> first
   | exact absurd rfl n1
   | exact absurd rfl n2
   | exact absurd rfl n3
   | exact absurd rfl n4
   | exact absurd rfl n5
   | omega
   | exact .v _ rfl
theorem qC.mono {A A':Nat→Prop} {W W':World} {a:ak} {x:Ci.qM} (h:qC A W a x) (hA:∀b,A b→A' b) (hw:∀b,A b→W'.heap[b]? =W.heap[b]?):qC A' W' a x:=⟨h.z,h.s,h.b1,h.b2,h.fl,h.ul,h.rf.mono hA hw,h.ru.mono hA hw⟩
theorem fG {S:Nat→Prop} {w:World} {x v:Value} (h:aV S w (.v x) v):v=x:=by
 cases h
 rfl
theorem qC.mem {A:Nat→Prop} {W:World} {a:ak} {x:Ci.qM} (h:qC A W a x):x.P W:=by
 intro b q hua j v hv
 have hr:=h.ru
 rw [hua] at hr
 generalize hes:a.Up.map jo=es at hr
 have hj:(a.Up.map jo)[j]? =some (jo v):=by
  rw [List.getElem?_map,←h.ul,hv]
  rfl
 rw [hes] at hj
 generalize hn:x.un=n at hr
 cases hr with
 | fz0=> simp at hj
 | fz _ b' o sz c vs hs hb hcap hc hrr=>
  have hsz:sz=1:=by rw [←hs _ (List.mem_of_getElem? hj)];rfl
  subst hsz
  have hl:=(List.getElem?_eq_some_iff.1 hj).1
  have h1:=hc j (by omega)
  have h2:=hrr j 0 _ (.v (.bool v)) hj rfl
  rw [Nat.mul_one,Nat.add_zero] at h2
  rw [h1,fG h2]
theorem qC.old {A:Nat→Prop} {W:World} {a:ak} {x:Ci.qM} (h:qC A W a x) (hA:∀b,A b→b < W.heap.size):x.base≤W.heap.size:=by
 unfold Ci.qM.base
 split
 ·rename_i ad hua
  split
  ·exact Nat.zero_le _
  ·rename_i hn
   have hr:=h.ru
   rw [hua] at hr
   generalize hes:a.Up.map jo=es at hr
   generalize hm:x.un=m at hr hn
   cases hr with
   | fz0=> exact absurd rfl hn
   | fz _ b' o sz c vs hs hb hcap hc hrr=> exact hA _ hb
 ·exact Nat.zero_le _
end
section
open Go.RowKit
def rZ {St B A:Type} (f:A→St→Option (St⊕B)) (fin:St→Option B):List A→St→Option B
 | [],s=> fin s
 | x::r,s=> match f x s with
  | none=> none
  | some (.inl s')=> rZ f fin r s'
  | some (.inr b)=> some b
theorem zV {St B A:Type} {body:St→Option (St⊕B)} (l:List A) (idx:St→Int) (f:A→St→Option (St⊕B)) (fin:St→B) (ok:St→Prop)
  (hb:∀s x,ok s→0≤idx s→l[(idx s).toNat]? =some x→body s=f x s)
  (hend:∀s,ok s→idx s=l.length→body s=some (.inr (fin s)))
  (hstep:∀x s s',ok s→0≤idx s→idx s < l.length→f x s=some (.inl s')→idx s'=idx s + 1∧ok s'):
  ∀s,ok s→0≤idx s→idx s≤l.length→iY body s=rZ f (fun s=> some (fin s)) (l.drop (idx s).toNat) s:=by
 have key:∀n s,l.length - (idx s).toNat=n→ok s→0≤idx s→idx s≤l.length→iY body s=rZ f (fun s=> some (fin s)) (l.drop (idx s).toNat) s:=by
  intro n
  induction n with
  | zero=>
   intro s hn ho h0 h1
   have he:idx s=l.length:=by omega
   have hd:l.drop (idx s).toNat= []:=List.drop_of_length_le (by omega)
   rw [hd,uY (hend s ho he)]
   rfl
  | succ n ih=>
   intro s hn ho h0 h1
   have hlt:(idx s).toNat < l.length:=by omega
   have hx:l[(idx s).toNat]? =some l[(idx s).toNat]:=List.getElem?_eq_getElem hlt
   have hd:l.drop (idx s).toNat=l[(idx s).toNat]::l.drop ((idx s).toNat + 1):=List.drop_eq_getElem_cons hlt
   rw [hd,rZ,Dc,hb s _ ho h0 hx]
   cases hf:f l[(idx s).toNat] s with
   | none=> rfl
   | some r=>
    cases r with
    | inl s'=>
     obtain ⟨h3,h4⟩:=hstep _ s s' ho h0 (by omega) hf
     have e:(idx s').toNat=(idx s).toNat + 1:=by omega
     have:=ih s' (by omega) h4 (by omega) (by omega)
     rw [e] at this
     exact this
    | inr b=> rfl
 exact fun s ho h0 h1=> key _ s rfl ho h0 h1
theorem Jy {A B:Type} (q:A→Bool) (b:B):∀(l:List A) (i:Int),rZ (fun (x:A) (i:Int)=> bif q x then some (Sum.inl (i + 1)) else some (.inr (.inr b))) (fun _=> some (.inl ())) l i=some (bif l.all q then (.inl ():Unit⊕B) else .inr b)
 | [],i=> rfl
 | x::l,i=> by
  rw [rZ]
  cases hx:q x
  ·simp [hx]
  ·simp [hx,Jy q b l (i + 1)]
theorem tZ {A B:Type} {body:Int→Option (Int⊕(Unit⊕B))} (l:List A) (q:A→Bool) (b:B)
  (hb:∀(i:Int) x,0≤i→i < l.length→l[i.toNat]? =some x→body i=bif q x then some (.inl (i + 1)) else some (.inr (.inr b)))
  (hend:body l.length=some (.inr (.inl ()))):iY body 0=some (bif l.all q then (.inl ():Unit⊕B) else .inr b):=by
 have:=zV (body:=body) l (fun i=> i) (fun x i=> bif q x then some (.inl (i + 1)) else some (.inr (.inr b))) (fun _=> .inl ()) (fun _=> True)
  (fun i x _ h0 hx=> hb i x h0 (by have:=(List.getElem?_eq_some_iff.1 hx).1;omega) hx) (fun i _ hi=> by rw [hi];exact hend)
  (fun x i i' _ h0 h1 hf=> by
   cases hpx:q x
   ·rw [hpx] at hf;cases hf
   ·rw [hpx] at hf
    injection hf with hf
    injection hf with hf
    exact ⟨hf.symm,trivial⟩)
  0 trivial (Int.le_refl _) (Int.natCast_nonneg _)
 rw [this,show List.drop (0:Int).toNat l=l from rfl,Jy]
theorem qE {A:Type} {l:List A} {i:Int} (h:0≤i):oV l i=l[i.toNat]? :=by simp [oV,h]
theorem ac3 {A:Type} {l:List A} {i:Nat}:oV l (i:Int)=l[i]? :=by simp [oV]
theorem wrap64 {n:Int} (h1: -9223372036854775808≤n) (h2:n≤9223372036854775807):IntKind.i64.wrap n=n:=IntWalk.i64_in n (by omega)
theorem xQ {A B:Type} {p:Option A} {k:A→Option B} {x:A} (h:p=some x):p.bind k=k x:=by rw [h];rfl
theorem Yp {S B:Type} {body:S→Option (S⊕B)} (n:Nat) (J:Nat→S→Prop) (R:Option B→Prop)
  (hstep:∀i s,i < n→J i s→(∃s',body s=some (.inl s')∧J (i + 1) s')∨∃b,body s=some (.inr b)∧R (some b))
  (hend:∀s,J n s→∃b,body s=some (.inr b)∧R (some b)) {s0:S} (h0:J 0 s0):R (iY body s0):=by
 have:∀k i s,n - i=k→i≤n→J i s→R (iY body s):=by
  intro k
  induction k with
  | zero=>
   intro i s hk hi hJ
   have:i=n:=by omega
   subst this
   obtain ⟨b,h1,h2⟩:=hend s hJ
   rw [uY h1]
   exact h2
  | succ k ih=>
   intro i s hk hi hJ
   rcases hstep i s (by omega) hJ with ⟨s',h1,h2⟩ | ⟨b,h1,h2⟩
   ·rw [SS h1]
    exact ih (i + 1) s' (by omega) (by omega) h2
   ·rw [uY h1]
    exact h2
 exact this (n - 0) 0 s0 rfl (Nat.zero_le _) h0
theorem aon (l:List Int) (hl:l.length≤maxLen) (f:Int→Option Bool) (q:Int→Bool) (hf:∀x∈l,f x=some (q x)):bZ l f=some (l.any q):=by
 unfold maxLen at hl
 have key:=zV (body:=bY l f) l (fun i=> i) (fun x i=> bif q x then some (.inr (.inr i)) else some (.inl (i + 1))) (fun _=> .inl ()) (fun _=> True)
  (fun i x _ h0 hx=> by
   have hlt:=(List.getElem?_eq_some_iff.1 hx).1
   have h1:i < (l.length:Int):=by omega
   have hw:IntKind.i64.wrap (i + 1)=i + 1:=wrap64 (by omega) (by omega)
   have hg:oV l i=some x:=by rw [qE h0];exact hx
   unfold bY
   simp only [h1,decide_true,cond_true,hw]
   rw [xQ hg,xQ (hf x (List.mem_of_getElem? hx))])
  (fun i _ hi=> by
   unfold bY
   simp only [hi,Int.lt_irrefl,decide_false,cond_false])
  (fun x i i' _ h0 h1 hf=> by
   cases hpx:q x
   ·rw [hpx] at hf
    injection hf with hf
    injection hf with hf
    exact ⟨hf.symm,trivial⟩
   ·rw [hpx] at hf
    injection hf with hf
    cases hf)
  0 trivial (Int.le_refl _) (Int.natCast_nonneg _)
 have fold:∀(r:List Int) (i:Int),0≤i→(rZ (fun (x:Int) (i:Int)=> bif q x then some (.inr (.inr i)) else some (Sum.inl (i + 1))) (fun _=> some (.inl ())) r i=some (.inl ():Unit⊕Int)∧r.any q=false)∨∃j,0≤j∧rZ (fun (x:Int) (i:Int)=> bif q x then some (.inr (.inr i)) else some (Sum.inl (i + 1))) (fun _=> some (.inl ())) r i=some (.inr j:Unit⊕Int)∧r.any q=true:=by
  intro r
  induction r with
  | nil=> exact fun i _=> Or.inl ⟨rfl,rfl⟩
  | cons x r ih=>
   intro i hi
   cases hx:q x
   ·rcases ih (i + 1) (by omega) with ⟨h1,h2⟩ | ⟨j,h1,h2,h3⟩
    ·exact Or.inl ⟨by rw [rZ];simp only [hx,cond_false];exact h1,by simp [hx,h2]⟩
    ·exact Or.inr ⟨j,h1,by rw [rZ];simp only [hx,cond_false];exact h2,by simp [hx,h3]⟩
   ·exact Or.inr ⟨i,hi,by rw [rZ];simp only [hx,cond_true],by simp [hx]⟩
 unfold bZ dS
 rw [key,show List.drop (0:Int).toNat l=l from rfl]
 rcases fold l 0 (Int.le_refl _) with ⟨h1,h2⟩ | ⟨j,h1,h2,h3⟩
 ·rw [h1,h2]
  rfl
 ·rw [h2,h3]
  simp [gq,h1]
def su (n:Int):Bool:=decide (0≤n) && decide (n≤1073741824)
theorem Jz (n a b:Int):dD n a b=some (decide (a≤n∧n≤b)):=by
 unfold dD
 by_cases h:a≤n <;> simp [h]
def vO (r:aQ):Bool:=decide ((0≤r.Account∧r.Account≤1999)∧(0≤r.Seq∧r.Seq≤1099511627776)∧(0≤r.Kind∧r.Kind≤9)∧(0≤r.dN∧r.dN≤499)∧(-1≤r.On∧r.On≤1099511627776)∧(-1≤r.Quote∧r.Quote≤1099511627776)∧(-1≤r.Who∧r.Who≤1999)∧(0≤r.N∧r.N≤100)∧(r.Text.size:Int)≤4000∧(r.Files.length:Int)≤4) && r.Files.all su
theorem WG:∀l:List Int,(!l.any fun n=> !su n)=l.all su
 | []=> rfl
 | n::l=> by rw [List.any_cons,List.all_cons,Bool.not_or,WG l,Bool.not_not]
theorem iw (r:aQ):dH r=some (vO r):=by
 unfold dH
 simp only [kH,lC,Jz,Option.bind_some]
 unfold vO
 by_cases h1:0≤r.Account∧r.Account≤1999
 ·by_cases h2:0≤r.Seq∧r.Seq≤1099511627776
  ·by_cases h3:0≤r.Kind∧r.Kind≤9
   ·by_cases h4:0≤r.dN∧r.dN≤499
    ·by_cases h5: -1≤r.On∧r.On≤1099511627776
     ·by_cases h6: -1≤r.Quote∧r.Quote≤1099511627776
      ·by_cases h7: -1≤r.Who∧r.Who≤1999
       ·by_cases h8:0≤r.N∧r.N≤100
        ·by_cases h9:(r.Text.size:Int)≤4000
         ·by_cases h10:(r.Files.length:Int)≤4
          ·have hc:=aon r.Files (by unfold maxLen;omega) iK (fun n=> !su n) (fun n _=> by
            unfold iK su
            rw [Jz]
            by_cases a:0≤n <;> by_cases b:n≤1073741824 <;> simp [a,b])
           simp only [h1,h2,h3,h4,h5,h6,h7,h8,h9,h10,decide_true,cond_true,hc,Option.bind_some,and_self,Bool.true_and]
           show some (!r.Files.any fun n=> !su n)=some (r.Files.all su)
           rw [WG]
          ·simp [h1,h2,h3,h4,h5,h6,h7,h8,h9,h10,gq]
         ·simp [h1,h2,h3,h4,h5,h6,h7,h8,h9,gq]
        ·simp [h1,h2,h3,h4,h5,h6,h7,h8,gq]
       ·simp [h1,h2,h3,h4,h5,h6,h7,gq]
      ·simp [h1,h2,h3,h4,h5,h6,gq]
     ·simp [h1,h2,h3,h4,h5,gq]
    ·simp [h1,h2,h3,h4,gq]
   ·simp [h1,h2,h3,gq]
  ·simp [h1,h2,gq]
 ·simp [h1,gq]
end
section
open Go.RowKit Go.Shelf
theorem Vr {W:World} (h:Inv W):Ci.GW W:=by
 obtain ⟨o,h1,T,s,rfl⟩:=h _ (List.mem_cons_self ..)
 obtain ⟨o,h2,cs,T2,s2,m,rfl,h3⟩:=h _ (List.mem_cons_of_mem _ (List.mem_cons_self ..))
 refine ⟨?_,m,?_⟩
 ·unfold Lib.TabIs World.var?
  rw [@Ci.akJ Ci.TM,Option.bind_some,h1]
 ·rw [cell_of_row _ _ _ cs T2 s2 h2]
  exact h3
theorem xU {f:FuncId} {args:List AV} {r:Bool} (h:Fn False Tryz.prog f args (VB r)) {A:Nat→Prop} {W:World} {vals:Array Value} (hI:Inv W) (hA:∀b,A b→b < W.heap.size) (hr:bT (G6 A W) args vals.toList):
  Calls Tryz.prog f vals W fun e W'=> e= .returned (.bool r)∧Below W.heap.size W W':=by
 refine (h.2 W A vals hI hA hr).mono ?_
 rintro e W' ⟨v,S',bs,rfl,hb,_,hres,_,_⟩
 obtain ⟨b,_,h1⟩:=hres
 have hrel:aV S' W' (.v (.bool r)) v:=h1.1
 rw [fG hrel]
 exact ⟨rfl,hb.toBelow⟩
theorem mP {W W':World} (h:Inv W) (hb:Below W.heap.size W W'):Inv W':=fun q hq=> by
 obtain ⟨o,h1,h2⟩:=h q hq
 exact ⟨o,by rw [hb.block _ (Array.getElem?_eq_some_iff.1 h1).1];exact h1,h2⟩
section
variable {A : Nat → Prop} {W : World} {a : ak} {x : Ci.qM} (h : qC A W a x) (hI : Inv W) (hA : ∀ b, A b → b < W.heap.size)
include h hI hA
theorem TP {W':World} (hb:Below W.heap.size W W'):bT (G6 A W') [.agg (aQ.av a.Raw)] [Value.agg ((List.range 10).map fun j=> x.F.f (5 + j)).toArray]:=by
 refine .cons (.agg (by simp) fun j c v hc hv=> ?_) (.nil _)
 have hj:j < 10:=(List.getElem?_eq_some_iff.1 hc).1
 have hx:=(h.mono (A':=A) (W':=W') (fun _ h=> h) fun b hab=> hb.block b (hA b hab)).rel (5 + j) (by omega)
 rw [List.getElem?_toArray,List.getElem?_map,List.getElem?_range hj] at hv
 have hv:x.f (5 + j)=v:=Option.some.inj hv
 rw [←hv]
 match j,hj with
 | 0,_=> rw [←Option.some.inj hc];exact .d hx
 | 1,_=> rw [←Option.some.inj hc];exact .d hx
 | 2,_=> rw [←Option.some.inj hc];exact .d hx
 | 3,_=> rw [←Option.some.inj hc];exact .d hx
 | 4,_=> rw [←Option.some.inj hc];exact .d hx
 | 5,_=> rw [←Option.some.inj hc];exact .d hx
 | 6,_=> rw [←Option.some.inj hc];exact .d hx
 | 7,_=> rw [←Option.some.inj hc];exact .d hx
 | 8,_=> rw [←Option.some.inj hc];exact .d hx
 | 9,_=> rw [←Option.some.inj hc];exact .d hx
theorem aiz (hu: @Ci.OkW (Ci.oM x.F x.ints) W): @Ci.GF x.F (vO a.Raw) (Ci.oM x.F x.ints) (@Ci.Base.of (Ci.oM x.F x.ints) W hu):=by
 letI:=Ci.oM x.F x.ints
 have hf:=zl (dr:=False) (iw a.Raw)
 refine ⟨Ci.GB.of (Vr hI),hf.1,fun w' hb'=> ?_⟩
 have hb:=hb'.to
 exact xU hf (mP hI hb) (fun b hab=> Nat.lt_of_lt_of_le (hA b hab) hb.size) (TP h hI hA hb)
theorem gU {s:List Nat} {p:Prop} {b:Bool} (hc:Ci.rY x s p) (hs:kz a.Kind=s) (hp:b=true↔p):
  Calls Tryz.prog 30 #[.agg (Ci.xs x.F)] W fun e W'=> e= .returned (.tuple #[.agg (Ci.Fg x.F (kz a.Kind)),.bool b])∧Below W.heap.size W W':=by
 letI:=Ci.oM x.F x.ints
 obtain ⟨l,c,hl,hq,hiff⟩:=hc
 have hu:Ci.OkW W:=⟨h.mem,h.old hA⟩
 have e:c=b:=by rw [Bool.eq_iff_iff,hiff,hp]
 rw [hs,←e]
 exact Ci.Jw (Ci.LG x.F x.ints) hl hu (aiz h hI hA hu) (hq _)
theorem TQ (hk:a.Kind=0):
  Calls Tryz.prog 30 #[.agg (Ci.xs x.F)] W fun e W'=> e= .returned (.tuple #[.agg (Ci.Fg x.F (kz a.Kind)),.bool (vO a.Raw)])∧Below W.heap.size W W':=by
 letI:=Ci.oM x.F x.ints
 have hu:Ci.OkW W:=⟨h.mem,h.old hA⟩
 have hs:kz a.Kind=Ci.slots 0:=by rw [hk];rfl
 rw [hs]
 exact Ci.Jw (Ci.LG x.F x.ints) (Ci.arz (by rw [h.z];exact hk)) hu (aiz h hI hA hu) (Ci.arl _)
theorem TR (hin:inR a) {b:Bool} (hb:okB a=some b):
  Calls Tryz.prog 30 #[.agg (Ci.xs x.F)] W fun e W'=> e= .returned (.tuple #[.agg (Ci.Fg x.F (kz a.Kind)),.bool b])∧Below W.heap.size W W':=by
 have hz:∀k,-9223372036854775808≤x.z k∧x.z k≤9223372036854775807:=fun k=> by rw [h.z];exact hin.1 k
 have hl:x.un=a.Up.length:=by rw [←h.ul];exact x.Xl.symm
 have hun:(x.un:Int)≤9223372036854775807:=by rw [hl];exact hin.2
 have hzz:=h.z
 by_cases hk:0≤a.Kind∧a.Kind≤9
 ·have:a.Kind=0∨a.Kind=1∨a.Kind=2∨a.Kind=3∨a.Kind=4∨a.Kind=5∨a.Kind=6∨a.Kind=7∨a.Kind=8∨a.Kind=9:=by omega
  rcases this with e | e | e | e | e | e | e | e | e | e
  ·have:okB a=some (vO a.Raw):=by unfold okB;rw [e];exact iw _
   rw [this] at hb
   rw [←Option.some.inj hb]
   exact TQ h hI hA e
  ·refine gU h hI hA (Ci.arn hz hun (by rw [hzz];exact e)) (by rw [e];rfl) ?_
   unfold okB at hb
   rw [e] at hb
   rw [←Option.some.inj hb,decide_eq_true_eq,hzz]
   try exact Iff.rfl
  ·refine gU h hI hA (Ci.aro hz hun (by rw [hzz];exact e)) (by rw [e];rfl) ?_
   unfold okB at hb
   rw [e] at hb
   rw [←Option.some.inj hb,decide_eq_true_eq,hzz]
   try exact Iff.rfl
  ·refine gU h hI hA (Ci.arp hz hun (by rw [hzz];exact e)) (by rw [e];rfl) ?_
   unfold okB at hb
   rw [e] at hb
   rw [←Option.some.inj hb,decide_eq_true_eq,hzz]
   try exact Iff.rfl
  ·refine gU h hI hA (Ci.arq hz hun (by rw [hzz];exact e)) (by rw [e];rfl) ?_
   unfold okB at hb
   rw [e] at hb
   rw [←Option.some.inj hb,decide_eq_true_eq,hzz]
   try exact Iff.rfl
  ·refine gU h hI hA (Ci.ars hz hun (by rw [hzz];exact e)) (by rw [e];rfl) ?_
   unfold okB at hb
   rw [e] at hb
   rw [←Option.some.inj hb,decide_eq_true_eq,hzz]
   try exact Iff.rfl
  ·refine gU h hI hA (Ci.aru hz hun (by rw [hzz];exact e)) (by rw [e];rfl) ?_
   unfold okB at hb
   rw [e] at hb
   rw [←Option.some.inj hb,decide_eq_true_eq,hzz]
   try exact Iff.rfl
  ·refine gU h hI hA (Ci.arv hz hun (by rw [hzz];exact e)) (by rw [e];rfl) ?_
   unfold okB at hb
   rw [e] at hb
   rw [←Option.some.inj hb,decide_eq_true_eq,hzz]
   try exact Iff.rfl
  ·refine gU h hI hA (Ci.arw hz hun (by rw [hzz];exact e)) (by rw [e];rfl) ?_
   unfold okB at hb
   rw [e] at hb
   rw [←Option.some.inj hb,decide_eq_true_eq,hzz]
   try exact Iff.rfl
  ·refine gU h hI hA (Ci.arx hz hun (by rw [hzz];exact e)) (by rw [e];rfl) ?_
   unfold okB at hb
   rw [e] at hb
   rw [←Option.some.inj hb,decide_eq_true_eq,hl]
   try exact Iff.rfl
 ·refine gU h hI hA (Ci.ac0 hz hun (by rw [hzz];show a.Kind < 0∨9 < a.Kind;omega)) (if_neg hk) ?_
  have:okB a=some false:=by
   unfold okB
   split <;> first | rfl | (exfalso;rename_i e;rw [e] at hk;exact hk (by decide))
  rw [this] at hb
  rw [←Option.some.inj hb]
  simp
end
theorem WH {S:Nat→Prop} {w:World}:∀(ds:List D) (vs:List Value),ds.length=vs.length→(∀(j:Nat) (d:D) (v:Value),ds[j]? =some d→vs[j]? =some v→aV S w d v)→BH S w (ds.map .d) vs (ds.map fun _=> none)
 | [],[],_,_=> ⟨rfl,rfl⟩
 | [],_::_,h,_=> by cases h
 | _::_,[],h,_=> by cases h
 | d::ds,v::vs,h,hr=> ⟨v,vs,none,_,rfl,rfl,⟨hr 0 d v rfl rfl,rfl⟩,WH ds vs (by simpa using h) fun j d v hd hv=> hr (j + 1) d v (by simpa using hd) (by simpa using hv)⟩
theorem Fj {aT:ak} {r:ak×Bool} (h:jT aT=some r):Fn False Tryz.prog 30 [.agg (ak.av aT)] (.bH [.agg (ak.av r.1),VB r.2]):=by
 unfold jT at h
 split at h
 ·rename_i hin
  obtain ⟨b,hb,rfl⟩:=Option.map_eq_some_iff.1 h
  refine ⟨Tryz.call30,fun w A vals hI hA hr=> ?_⟩
  obtain ⟨v,vs',hv,hx,hnil⟩:=hr.cons_inv
  have:=hnil.bg
  subst this
  have V6:vals= #[v]:=by apply Array.ext';simpa using hv
  subst V6
  cases hx with
  | @agg _ us hl hj=>
   have hlen:us.size=35:=hl
   have hrel:∀j,(hj:j < 35)→aV A w (dOf aT j) (us[j]'(by omega)):=fun j hj'=> by
    have hc:(ak.av aT)[j]? =some (.d (dOf aT j)):=by
     have e:ak.av aT=(ak.enc aT).map AV.d:=rfl
     rw [e,AZ,List.map_map,List.getElem?_map,List.getElem?_range hj']
     rfl
    have:=hj j _ _ hc (Array.getElem?_eq_getElem (by omega))
    cases this with
    | d h=> exact h
   obtain ⟨x,hx,e1,e2⟩:=RQ (hrel 14 (by omega)) (hrel 34 (by omega))
   have hus:us=Ci.xs x.F:=by
    apply Array.ext
    ·rw [hlen];simp [Ci.xs]
    ·intro j h1 h2
     have hj':j < 35:=by omega
     have e:(Ci.xs x.F)[j]'h2=x.f j:=by
      simp [Ci.xs]
      rfl
     rw [e]
     by_cases La:j=14
     ·subst La;exact e1.symm
     by_cases h34:j=34
     ·subst h34;exact e2.symm
     have r1:=hrel j hj'
     have r2:=hx.rel j hj'
     unfold dOf at r1 r2
     split at r1
     ·rw [fG r1,fG r2]
     ·exact absurd rfl La
     ·rw [fG r1,fG r2]
     ·rw [fG r1,fG r2]
     ·exact absurd rfl h34
     ·rename_i n1 n2 n3 n4 n5
      have r2':aV A w (.v (.int .i64 (GR aT j))) (x.f j):=by
       revert r2
       split <;> first
        | exact absurd rfl n1
        | exact absurd rfl n2
        | exact absurd rfl n3
        | exact absurd rfl n4
        | exact absurd rfl n5
        | exact fun h=> h
      rw [fG r1,fG r2']
   rw [hus]
   refine (TR hx hI hA hin hb).mono ?_
   rintro e w' ⟨rfl,hbel⟩
   have hx':=hx.mono (A':=A) (W':=w') (fun _ h=> h) fun b hab=> hbel.block b (hA b hab)
   have hown:∀(j:Nat),(hj:j < 35)→aV A w' (bif Ci.inL j (0::kz aT.Kind) then dOf aT j else dZ j) (bif Ci.inL j (0::kz aT.Kind) then x.f j else Ci.zeroV j):=fun j hj'=> by
    cases Ci.inL j (0::kz aT.Kind) with
    | true=> exact hx'.rel j hj'
    | false=>
     show aV A w' (dZ j) (Ci.zeroV j)
     unfold dZ Ci.zeroV
     split
     ·exact .v _ rfl
     ·exact .fz0 none 0 fun _=> rfl
     ·exact .v _ rfl
     ·exact .v _ rfl
     ·exact .fz0 none 0 fun _=> rfl
     ·rename_i n1 n2 n3 n4 n5
      split <;> first
       | exact absurd rfl n1
       | exact absurd rfl n2
       | exact absurd rfl n3
       | exact absurd rfl n4
       | exact absurd rfl n5
       | exact .v _ rfl
   refine ⟨_,A,(ak.enc (iF aT)).map (fun _=> none) ++ [none],rfl,⟨hbel,fun h=> h.elim⟩,fun b hb=> ⟨Nat.lt_of_lt_of_le (hA b hb) hbel.size,.inl hb⟩,⟨_,rfl,?_⟩,?_,fun b hb=> ?_⟩
   ·refine ⟨_,_,_,_,rfl,rfl,⟨_,rfl,?_⟩,⟨_,_,[none],[],rfl,rfl,⟨none,rfl,.v _ rfl,rfl⟩,rfl,rfl⟩⟩
    refine WH (ak.enc (iF aT)) _ (by simp [WE,Ci.Fg]) fun j d v hd hv=> ?_
    rw [WE,List.getElem?_map] at hd
    obtain ⟨q,hq,rfl⟩:=Option.map_eq_some_iff.1 hd
    have hj':j < 35:=by
     have:=(List.getElem?_eq_some_iff.1 hq).1
     simpa using this
    rw [List.getElem?_range hj'] at hq
    have:=Option.some.inj hq
    subst this
    unfold Ci.Fg at hv
    rw [List.getElem?_map,List.getElem?_range hj'] at hv
    rw [←Option.some.inj hv]
    exact hown j hj'
   ·unfold Apart
    rw [List.filterMap_append,List.filterMap_map]
    have:∀l:List D,l.filterMap (id∘fun _=> (none:Option Nat))= []:=fun l=> by induction l with
     | nil=> rfl
     | cons a l ih=> simpa using ih
    rw [this]
    exact List.nodup_nil
   ·rcases List.mem_append.1 hb with hb | hb
    ·obtain ⟨d,_,e⟩:=List.mem_map.1 hb
     cases e
    ·simp at hb
 ·cases h
end
section
open Go.RowKit
attribute [local irreducible] IntKind.wrap AW bF Step.wp
set_option maxHeartbeats 4000000
set_option maxRecDepth 100000
def fO (aT:ak):Option (Bool):=
 (jT (ak.mk aT.Kind aT.Net aT.Event aT.Local aT.N (aQ.mk aT.Raw.Account aT.Raw.Seq aT.Raw.Kind aT.Raw.dN aT.Raw.On aT.Raw.Quote aT.Raw.Who aT.Raw.N aT.Raw.Text aT.Raw.Files) (dI.mk aT.Note.Message aT.Note.Who aT.Note.Level aT.Note.Step aT.Note.Not) (dh.mk aT.Proof.Kind aT.Proof.A aT.Proof.B) (bD.mk aT.aB.Name aT.aB.Step aT.aB.Bad) (dJ.mk aT.Hold.Id aT.Hold.Event aT.Hold.From aT.Hold.To) (dn.mk aT.Order.Kind aT.Order.Event aT.Order.By aT.Order.Step) aT.Up)).bind fun y1=>
 (bif y1.2 then
  (kY (ak.mk y1.1.Kind y1.1.Net y1.1.Event y1.1.Local y1.1.N (aQ.mk y1.1.Raw.Account y1.1.Raw.Seq y1.1.Raw.Kind y1.1.Raw.dN y1.1.Raw.On y1.1.Raw.Quote y1.1.Raw.Who y1.1.Raw.N y1.1.Raw.Text y1.1.Raw.Files) (dI.mk y1.1.Note.Message y1.1.Note.Who y1.1.Note.Level y1.1.Note.Step y1.1.Note.Not) (dh.mk y1.1.Proof.Kind y1.1.Proof.A y1.1.Proof.B) (bD.mk y1.1.aB.Name y1.1.aB.Step y1.1.aB.Bad) (dJ.mk y1.1.Hold.Id y1.1.Hold.Event y1.1.Hold.From y1.1.Hold.To) (dn.mk y1.1.Order.Kind y1.1.Order.Event y1.1.Order.By y1.1.Order.Step) y1.1.Up) (ak.mk aT.Kind aT.Net aT.Event aT.Local aT.N (aQ.mk aT.Raw.Account aT.Raw.Seq aT.Raw.Kind aT.Raw.dN aT.Raw.On aT.Raw.Quote aT.Raw.Who aT.Raw.N aT.Raw.Text aT.Raw.Files) (dI.mk aT.Note.Message aT.Note.Who aT.Note.Level aT.Note.Step aT.Note.Not) (dh.mk aT.Proof.Kind aT.Proof.A aT.Proof.B) (bD.mk aT.aB.Name aT.aB.Step aT.aB.Bad) (dJ.mk aT.Hold.Id aT.Hold.Event aT.Hold.From aT.Hold.To) (dn.mk aT.Order.Kind aT.Order.Event aT.Order.By aT.Order.Step) aT.Up)).bind fun y2=>
  some y2
 else
  some false)
theorem lD {aT:ak} {r:Bool} (h:fO aT=some r):Fn False Tryz.prog 8 [.agg (ak.av aT)] (VB r):=by
 refine Fn.jZ (dr:=False) (F:=vM False Tryz.prog) (base:=0) (js:= []) mixed tok kC (fun _ _ _ h=> h) Tryz.call8 Tryz.func8 rfl Tryz.ntmps8 (by rw [Tryz.results8]) (by simp) ?_;have hG:(fun x=> x=r) r:=rfl;unfold fO at h;refine zJ 2 rfl ?_;refine Zm (.lp 1 1 0) (Mem.add _ 1 (.box (ak.av aT))) rfl rfl ?_;refine lT 5 rfl ?_;refine Zo (.agg (ak.av aT)) rfl rfl ?_;refine Y1 rfl ?_;refine bP h fun y1 hy1 h=> ?_;refine W.call rfl (Fj hy1) ?_;refine W.NR (.bH [.agg [VI y1.1.Kind,VI y1.1.Net,VI y1.1.Event,VI y1.1.Local,VI y1.1.N,VI y1.1.Raw.Account,VI y1.1.Raw.Seq,VI y1.1.Raw.Kind,VI y1.1.Raw.dN,VI y1.1.Raw.On,VI y1.1.Raw.Quote,VI y1.1.Raw.Who,VI y1.1.Raw.N,VS y1.1.Raw.Text,VF (List.map (encI .i64) y1.1.Raw.Files),VI y1.1.Note.Message,VI y1.1.Note.Who,VI y1.1.Note.Level,VI y1.1.Note.Step,VB y1.1.Note.Not,VI y1.1.Proof.Kind,VI y1.1.Proof.A,VI y1.1.Proof.B,VI y1.1.aB.Name,VI y1.1.aB.Step,VB y1.1.aB.Bad,VI y1.1.Hold.Id,VI y1.1.Hold.Event,VI y1.1.Hold.From,VI y1.1.Hold.To,VI y1.1.Order.Kind,VI y1.1.Order.Event,VI y1.1.Order.By,VI y1.1.Order.Step,VF (List.map jo y1.1.Up)],VB y1.2]) _ rfl ?_;refine Zo (.bH [.agg [VI y1.1.Kind,VI y1.1.Net,VI y1.1.Event,VI y1.1.Local,VI y1.1.N,VI y1.1.Raw.Account,VI y1.1.Raw.Seq,VI y1.1.Raw.Kind,VI y1.1.Raw.dN,VI y1.1.Raw.On,VI y1.1.Raw.Quote,VI y1.1.Raw.Who,VI y1.1.Raw.N,VS y1.1.Raw.Text,VF (List.map (encI .i64) y1.1.Raw.Files),VI y1.1.Note.Message,VI y1.1.Note.Who,VI y1.1.Note.Level,VI y1.1.Note.Step,VB y1.1.Note.Not,VI y1.1.Proof.Kind,VI y1.1.Proof.A,VI y1.1.Proof.B,VI y1.1.aB.Name,VI y1.1.aB.Step,VB y1.1.aB.Bad,VI y1.1.Hold.Id,VI y1.1.Hold.Event,VI y1.1.Hold.From,VI y1.1.Hold.To,VI y1.1.Order.Kind,VI y1.1.Order.Event,VI y1.1.Order.By,VI y1.1.Order.Step,VF (List.map jo y1.1.Up)],VB y1.2]) rfl rfl ?_
 refine Zo (.agg [VI y1.1.Kind,VI y1.1.Net,VI y1.1.Event,VI y1.1.Local,VI y1.1.N,VI y1.1.Raw.Account,VI y1.1.Raw.Seq,VI y1.1.Raw.Kind,VI y1.1.Raw.dN,VI y1.1.Raw.On,VI y1.1.Raw.Quote,VI y1.1.Raw.Who,VI y1.1.Raw.N,VS y1.1.Raw.Text,VF (List.map (encI .i64) y1.1.Raw.Files),VI y1.1.Note.Message,VI y1.1.Note.Who,VI y1.1.Note.Level,VI y1.1.Note.Step,VB y1.1.Note.Not,VI y1.1.Proof.Kind,VI y1.1.Proof.A,VI y1.1.Proof.B,VI y1.1.aB.Name,VI y1.1.aB.Step,VB y1.1.aB.Bad,VI y1.1.Hold.Id,VI y1.1.Hold.Event,VI y1.1.Hold.From,VI y1.1.Hold.To,VI y1.1.Order.Kind,VI y1.1.Order.Event,VI y1.1.Order.By,VI y1.1.Order.Step,VF (List.map jo y1.1.Up)]) rfl rfl ?_;refine lT 1 rfl ?_;refine Zm (.lp 3 1 0) (Mem.add (Mem.add (Mem.add _ 983043 (.rows 1 (List.map (encI .i64) ([]:List Int)) false)) 2293763 (.rows 1 (List.map jo ([]:List Bool)) false)) 3 (.box [VI 0,VI 0,VI 0,VI 0,VI 0,VI 0,VI 0,VI 0,VI 0,VI 0,VI 0,VI 0,VI 0,VS (ByteArray.mk #[]),.row 983043 1 0,VI 0,VI 0,VI 0,VI 0,VB false,VI 0,VI 0,VI 0,VI 0,VI 0,VB false,VI 0,VI 0,VI 0,VI 0,VI 0,VI 0,VI 0,VI 0,.row 2293763 1 0])) rfl rfl ?_;refine Zm (.bH []) (Mem.set _ 3 1 (some (.box [VI y1.1.Kind,VI y1.1.Net,VI y1.1.Event,VI y1.1.Local,VI y1.1.N,VI y1.1.Raw.Account,VI y1.1.Raw.Seq,VI y1.1.Raw.Kind,VI y1.1.Raw.dN,VI y1.1.Raw.On,VI y1.1.Raw.Quote,VI y1.1.Raw.Who,VI y1.1.Raw.N,VS y1.1.Raw.Text,VF (List.map (encI .i64) y1.1.Raw.Files),VI y1.1.Note.Message,VI y1.1.Note.Who,VI y1.1.Note.Level,VI y1.1.Note.Step,VB y1.1.Note.Not,VI y1.1.Proof.Kind,VI y1.1.Proof.A,VI y1.1.Proof.B,VI y1.1.aB.Name,VI y1.1.aB.Step,VB y1.1.aB.Bad,VI y1.1.Hold.Id,VI y1.1.Hold.Event,VI y1.1.Hold.From,VI y1.1.Hold.To,VI y1.1.Order.Kind,VI y1.1.Order.Event,VI y1.1.Order.By,VI y1.1.Order.Step,VF (List.map jo y1.1.Up)]))) rfl rfl ?_;refine lT 7 rfl ?_;refine YT rfl rfl rfl h (fun _ h=> ?_) (fun _ h=> ?_)
 ·refine W.NR (.agg [VI y1.1.Kind,VI y1.1.Net,VI y1.1.Event,VI y1.1.Local,VI y1.1.N,VI y1.1.Raw.Account,VI y1.1.Raw.Seq,VI y1.1.Raw.Kind,VI y1.1.Raw.dN,VI y1.1.Raw.On,VI y1.1.Raw.Quote,VI y1.1.Raw.Who,VI y1.1.Raw.N,VS y1.1.Raw.Text,VF (List.map (encI .i64) y1.1.Raw.Files),VI y1.1.Note.Message,VI y1.1.Note.Who,VI y1.1.Note.Level,VI y1.1.Note.Step,VB y1.1.Note.Not,VI y1.1.Proof.Kind,VI y1.1.Proof.A,VI y1.1.Proof.B,VI y1.1.aB.Name,VI y1.1.aB.Step,VB y1.1.aB.Bad,VI y1.1.Hold.Id,VI y1.1.Hold.Event,VI y1.1.Hold.From,VI y1.1.Hold.To,VI y1.1.Order.Kind,VI y1.1.Order.Event,VI y1.1.Order.By,VI y1.1.Order.Step,VF (List.map jo y1.1.Up)]) _ rfl ?_;refine Zu (.agg (ak.av aT)) rfl rfl rfl rfl ?_;refine Y2 rfl rfl rfl ?_;refine bP h fun y2 hy2 h=> ?_;refine W.call rfl (Nv hy2) ?_;refine AL 6 rfl ?_;cases h;cases hG;exact ⟨rfl,trivial⟩
 ·refine kS 7 rfl ?_;cases h;cases hG;exact ⟨rfl,trivial⟩
end
section
open Go.RowKit
theorem Nw {α:Type} [DecidableEq α]:∀(l r:List α),l.length=r.length→((l.zip r).all fun p=> p.1==p.2)=decide (l=r)
 | [],[],_=> rfl
 | [],_::_,h=> by cases h
 | _::_,[],h=> by cases h
 | a::l,b::r,h=> by
  rw [List.zip_cons_cons,List.all_cons,Nw l r (by simpa using h)]
  by_cases h1:a=b <;> by_cases h2:l=r <;> simp [h1,h2]
theorem ak7 (l r:List Int) (hl:l.length≤maxLen):fB l r=some (decide (l=r)):=by
 unfold maxLen at hl
 unfold fB
 by_cases hlen:l.length=r.length
 ·have e:((l.length:Int) !=(r.length:Int))=false:=by simp [hlen]
  have hz:(l.zip r).length=l.length:=by simp [hlen]
  rw [e,cond_false,tZ (l.zip r) (fun p=> p.1==p.2) false (fun i p h0 hi hp=> ?_) ?_,Nw l r hlen]
  ·cases decide (l=r) <;> rfl
  ·unfold fD
   rw [hz]
   simp
  ·obtain ⟨h1,h2⟩:=List.getElem?_zip_eq_some.1 hp
   have hi':i < (l.length:Int):=by rw [hz] at hi;exact hi
   have hw:IntKind.i64.wrap (i + 1)=i + 1:=wrap64 (by omega) (by omega)
   unfold fD
   rw [decide_eq_true hi',cond_true,qE h0,h1,Option.bind_some,qE h0,h2,Option.bind_some,hw]
   rw [show (p.1 !=p.2)= !(p.1==p.2) from rfl]
   cases p.1==p.2 <;> rfl
 ·have e:((l.length:Int) !=(r.length:Int))=true:=by simp;omega
  rw [e,cond_true,decide_eq_false fun h=> hlen (by rw [h])]
theorem ak8 (l r:List Bool) (hl:l.length≤maxLen):dM l r=some (decide (l=r)):=by
 unfold maxLen at hl
 unfold dM
 by_cases hlen:l.length=r.length
 ·have e:((l.length:Int) !=(r.length:Int))=false:=by simp [hlen]
  have hz:(l.zip r).length=l.length:=by simp [hlen]
  rw [e,cond_false,tZ (l.zip r) (fun p=> p.1==p.2) false (fun i p h0 hi hp=> ?_) ?_,Nw l r hlen]
  ·cases decide (l=r) <;> rfl
  ·unfold dQ
   rw [hz]
   simp
  ·obtain ⟨h1,h2⟩:=List.getElem?_zip_eq_some.1 hp
   have hi':i < (l.length:Int):=by rw [hz] at hi;exact hi
   have hw:IntKind.i64.wrap (i + 1)=i + 1:=wrap64 (by omega) (by omega)
   unfold dQ
   rw [decide_eq_true hi',cond_true,qE h0,h1,Option.bind_some,qE h0,h2,Option.bind_some,hw]
   cases p.1 <;> cases p.2 <;> rfl
 ·have e:((l.length:Int) !=(r.length:Int))=true:=by simp;omega
  rw [e,cond_true,decide_eq_false fun h=> hlen (by rw [h])]
theorem xX {α:Type} [BEq α] [LawfulBEq α] {a b:α} (h:¬a=b):(a==b)=false:=beq_eq_false_iff_ne.2 h
theorem toList_inj {a b:ByteArray} (h:a.toList=b.toList):a=b:=by
 obtain ⟨⟨l⟩⟩:=a
 obtain ⟨⟨r⟩⟩:=b
 rw [ByteArray.toList_mk,ByteArray.toList_mk] at h
 exact congrArg _ (congrArg _ h)
theorem TS (a b:aQ) (hl:a.Files.length≤maxLen):∃c,jk a b=some c∧(c=true↔a=b):=by
 obtain ⟨a1,a2,a3,a4,a5,a6,a7,a8,a9,a10⟩:=a
 obtain ⟨b1,b2,b3,b4,b5,b6,b7,b8,b9,b10⟩:=b
 unfold jk
 simp only [ak7 a10 b10 hl,Option.bind_some]
 by_cases h1:a1=b1
 ·by_cases h2:a2=b2
  ·by_cases h3:a3=b3
   ·by_cases h4:a4=b4
    ·by_cases h5:a5=b5
     ·by_cases h6:a6=b6
      ·by_cases h7:a7=b7
       ·by_cases h8:a8=b8
        ·by_cases h9:a9.toList=b9.toList
         ·have h9':=toList_inj h9
          subst h1 h2 h3 h4 h5 h6 h7 h8 h9'
          exact ⟨decide (a10=b10),by simp [gq],by simp⟩
         ·exact ⟨false,by subst h1 h2 h3 h4 h5 h6 h7 h8;simp [xX h9,gq],by simp;intros;rename_i e;intro _;exact h9 (by rw [e])⟩
        ·exact ⟨false,by subst h1 h2 h3 h4 h5 h6 h7;simp [xX h8,gq],by simp [h8]⟩
       ·exact ⟨false,by subst h1 h2 h3 h4 h5 h6;simp [xX h7,gq],by simp [h7]⟩
      ·exact ⟨false,by subst h1 h2 h3 h4 h5;simp [xX h6,gq],by simp [h6]⟩
     ·exact ⟨false,by subst h1 h2 h3 h4;simp [xX h5,gq],by simp [h5]⟩
    ·exact ⟨false,by subst h1 h2 h3;simp [xX h4,gq],by simp [h4]⟩
   ·exact ⟨false,by subst h1 h2;simp [xX h3,gq],by simp [h3]⟩
  ·exact ⟨false,by subst h1;simp [xX h2,gq],by simp [h2]⟩
 ·exact ⟨false,by simp [xX h1,gq],by simp [h1]⟩
theorem aoo (x y:dI):((x.Message==y.Message) && ((x.Who==y.Who) && ((x.Level==y.Level) && ((x.Step==y.Step) && ((x.Not==y.Not) && true)))))=true↔x=y:=by
 cases x;cases y;simp
theorem ak9 (x y:dh):((x.Kind==y.Kind) && ((x.A==y.A) && ((x.B==y.B) && true)))=true↔x=y:=by
 cases x;cases y;simp
theorem ac4 (x y:bD):((x.Name==y.Name) && ((x.Step==y.Step) && ((x.Bad==y.Bad) && true)))=true↔x=y:=by
 cases x;cases y;simp
theorem aop (x y:dJ):((x.Id==y.Id) && ((x.Event==y.Event) && ((x.From==y.From) && ((x.To==y.To) && true))))=true↔x=y:=by
 cases x;cases y;simp
theorem ala (x y:dn):((x.Kind==y.Kind) && ((x.Event==y.Event) && ((x.By==y.By) && ((x.Step==y.Step) && true))))=true↔x=y:=by
 cases x;cases y;simp
theorem same_eq (a b:ak) (hl:a.Raw.Files.length≤maxLen) (hu:a.Up.length≤maxLen):∃c,kY a b=some c∧(c=true↔a=b):=by
 obtain ⟨a1,a2,a3,a4,a5,a6,a7,a8,a9,a10,a11,a12⟩:=a
 obtain ⟨b1,b2,b3,b4,b5,b6,b7,b8,b9,b10,b11,b12⟩:=b
 obtain ⟨c,hc,hcc⟩:=TS a6 b6 hl
 have hc':jk (aQ.mk a6.Account a6.Seq a6.Kind a6.dN a6.On a6.Quote a6.Who a6.N a6.Text a6.Files) (aQ.mk b6.Account b6.Seq b6.Kind b6.dN b6.On b6.Quote b6.Who b6.N b6.Text b6.Files)=some c:=hc
 have h7:=aoo a7 b7
 have h8:=ak9 a8 b8
 have h9:=ac4 a9 b9
 have h10:=aop a10 b10
 have h11:=ala a11 b11
 unfold kY
 simp only [hc',Option.bind_some,ak8 a12 b12 hu]
 generalize ((a7.Message==b7.Message) && ((a7.Who==b7.Who) && ((a7.Level==b7.Level) && ((a7.Step==b7.Step) && ((a7.Not==b7.Not) && true)))))=d7 at h7 ⊢
 generalize ((a8.Kind==b8.Kind) && ((a8.A==b8.A) && ((a8.B==b8.B) && true)))=d8 at h8 ⊢
 generalize ((a9.Name==b9.Name) && ((a9.Step==b9.Step) && ((a9.Bad==b9.Bad) && true)))=d9 at h9 ⊢
 generalize ((a10.Id==b10.Id) && ((a10.Event==b10.Event) && ((a10.From==b10.From) && ((a10.To==b10.To) && true))))=d10 at h10 ⊢
 generalize ((a11.Kind==b11.Kind) && ((a11.Event==b11.Event) && ((a11.By==b11.By) && ((a11.Step==b11.Step) && true))))=d11 at h11 ⊢
 by_cases h1:a1=b1
 ·by_cases h2:a2=b2
  ·by_cases h3:a3=b3
   ·by_cases h4:a4=b4
    ·by_cases h5:a5=b5
     ·subst h1 h2 h3 h4 h5
      cases c with
      | false=> exact ⟨false,by simp [gq],by simp;intro e;exact absurd (hcc.2 e) (by simp)⟩
      | true=>
      have e6:=hcc.1 rfl
      subst e6
      cases d7 with
      | false=> exact ⟨false,by simp [gq],by simp;intro e;exact absurd (h7.2 e) (by simp)⟩
      | true=>
      have e7:=h7.1 rfl
      subst e7
      cases d8 with
      | false=> exact ⟨false,by simp [gq],by simp;intro e;exact absurd (h8.2 e) (by simp)⟩
      | true=>
      have e8:=h8.1 rfl
      subst e8
      cases d9 with
      | false=> exact ⟨false,by simp [gq],by simp;intro e;exact absurd (h9.2 e) (by simp)⟩
      | true=>
      have e9:=h9.1 rfl
      subst e9
      cases d10 with
      | false=> exact ⟨false,by simp [gq],by simp;intro e;exact absurd (h10.2 e) (by simp)⟩
      | true=>
      have e10:=h10.1 rfl
      subst e10
      cases d11 with
      | false=> exact ⟨false,by simp [gq],by simp;intro e;exact absurd (h11.2 e) (by simp)⟩
      | true=>
      have e11:=h11.1 rfl
      subst e11
      exact ⟨decide (a12=b12),by simp [gq],by simp⟩
     ·exact ⟨false,by subst h1 h2 h3 h4;simp [xX h5,gq],by simp [h5]⟩
    ·exact ⟨false,by subst h1 h2 h3;simp [xX h4,gq],by simp [h4]⟩
   ·exact ⟨false,by subst h1 h2;simp [xX h3,gq],by simp [h3]⟩
  ·exact ⟨false,by subst h1;simp [xX h2,gq],by simp [h2]⟩
 ·exact ⟨false,by simp [xX h1,gq],by simp [h1]⟩
def gK (a:ak):Prop:=okB a=some true∧iF a=a
theorem ac5 (a:ak):∃b,okB a=some b:=by
 unfold okB
 split
 ·exact ⟨_,iw _⟩
 all_goals exact ⟨_,rfl⟩
theorem Yq (a:ak) (hl:a.Raw.Files.length≤maxLen) (hu:a.Up.length≤maxLen):(iF a).Raw.Files.length≤maxLen∧(iF a).Up.length≤maxLen:=by
 unfold iF
 split <;> simp [dF] <;> assumption
theorem right_eq (a:ak) (hin:inR a) (hl:a.Raw.Files.length≤maxLen) (hu:a.Up.length≤maxLen):∃c,fO a=some c∧(c=true↔gK a):=by
 obtain ⟨b,hb⟩:=ac5 a
 have hf:jT a=some (iF a,b):=by
  unfold jT
  rw [if_pos hin,hb]
  rfl
 have hs:=Yq a hl hu
 obtain ⟨c,hc,hcc⟩:=same_eq (iF a) a hs.1 hs.2
 have e:fO a=(jT a).bind fun y1=> bif y1.2 then (kY y1.1 a).bind fun y2=> some y2 else some false:=rfl
 rw [e,hf,Option.bind_some]
 unfold gK
 rw [hb]
 cases b with
 | false=> exact ⟨false,rfl,by simp⟩
 | true=>
  refine ⟨c,?_,by rw [hcc];simp⟩
  show (kY (iF a) a).bind _=_
  rw [hc]
  rfl
end
end Go.Proofs.YtnegekppaoedgaaGreatDoor
end

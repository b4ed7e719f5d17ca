/-
The law: an input, its text, what is read; and the input taken at the empty state: it answers true.
-/
import Derived.Test.YtnegekppaoedgaaGreatDoorQ17
set_option linter.all false
namespace Go.Proofs.YtnegekppaoedgaaGreatDoor
open Go.RowKit Go.Shelf
attribute [local go_sem] uo GY GZ lS
theorem aaC {a:ak} (hin:inR a) (h1:a.Raw.Text.size≤200) (h2:a.Raw.Files.length≤6) (h3:a.Up.length≤20) (hFL:∀z∈a.Raw.Files,-9223372036854775808≤z∧z≤9223372036854775807):(iH a).length≤1000000:=by
 have q:∀k,(aA (GR a k)).length≤21:=fun k=> jr (hin.1 k)
 have qf:∀b,(aA (gX b)).length≤21:=fun b=> jr (by have:=sK b;omega)
 have qc:∀n:Int,0≤n∧n≤9→(aA n).length≤21:=fun n h=> jr (by omega)
 have b5:(aA a.Raw.Account).length≤21:=q 5
 have b6:(aA a.Raw.Seq).length≤21:=q 6
 have b7:(aA a.Raw.Kind).length≤21:=q 7
 have b8:(aA a.Raw.dN).length≤21:=q 8
 have b9:(aA a.Raw.On).length≤21:=q 9
 have b10:(aA a.Raw.Quote).length≤21:=q 10
 have b11:(aA a.Raw.Who).length≤21:=q 11
 have b12:(aA a.Raw.N).length≤21:=q 12
 have b0:(aA a.Kind).length≤21:=q 0
 have b1:(aA a.Net).length≤21:=q 1
 have b2:(aA a.Event).length≤21:=q 2
 have b3:(aA a.Local).length≤21:=q 3
 have b4:(aA a.N).length≤21:=q 4
 have b15:(aA a.Note.Message).length≤21:=q 15
 have b16:(aA a.Note.Who).length≤21:=q 16
 have b17:(aA a.Note.Level).length≤21:=q 17
 have b20:(aA a.Proof.Kind).length≤21:=q 20
 have b21:(aA a.Proof.A).length≤21:=q 21
 have b22:(aA a.Proof.B).length≤21:=q 22
 have b23:(aA a.aB.Name).length≤21:=q 23
 have b26:(aA a.Hold.Id).length≤21:=q 26
 have b27:(aA a.Hold.Event).length≤21:=q 27
 have b30:(aA a.Order.Kind).length≤21:=q 30
 have b31:(aA a.Order.Event).length≤21:=q 31
 have b32:(aA a.Order.By).length≤21:=q 32
 have bn:=qf a.Note.Not
 have bv:=qf a.aB.Bad
 have bu:(aA (a.Up.length:Int)).length≤21:=jr (by omega)
 have bf:=yh a.Up
 have bt:(wText a.Raw.Text.toList).length≤300:=by
  have h4:=gY (a.Raw.Text.toList.length:Int) (by omega) (by rw [sN];omega)
  have h5:=sN a.Raw.Text
  simp only [wText,List.length_append,List.length_cons,List.length_nil]
  omega
 have bl:(lH a.Raw.Files).length≤300:=by
  have h4:=jP a.Raw.Files hFL
  have h5:=gY (a.Raw.Files.length:Int) (by omega) (by omega)
  simp only [lH,List.length_append,List.length_cons,List.length_nil]
  omega
 unfold iH
 split
 all_goals
  have c0:=qc 0 (by decide)
  have c1:=qc 1 (by decide)
  have c2:=qc 2 (by decide)
  have c3:=qc 3 (by decide)
  have c4:=qc 4 (by decide)
  have c5:=qc 5 (by decide)
  have c6:=qc 6 (by decide)
  have c7:=qc 7 (by decide)
  have c8:=qc 8 (by decide)
  simp only [List.length_append]
  omega
attribute [local irreducible] wpList
set_option maxRecDepth 100000 in
set_option maxHeartbeats 8000000 in
theorem aaE (w:World) (hI:Inv w) (a:ak) (hin:inR a) (hFL:∀z∈a.Raw.Files,-9223372036854775808≤z∧z≤9223372036854775807) (hfl:a.Raw.Files.length≤maxLen) (Xl:a.Up.length≤maxLen) (txt:List UInt8) (fv uv:Value) (hf:aV (fun k=> k < w.heap.size) w (.fz (a.Raw.Files.map (encI .i64))) fv) (hu:aV (fun k=> k < w.heap.size) w (.fz (a.Up.map jo)) uv):
  Calls Tryz.prog 3 #[.agg (bW a fv uv),.string ⟨txt.toArray⟩] w fun e W=> e= .returned (.bool true)∧Below w.heap.size w W:=by
 obtain ⟨x,hx,e14,e34⟩:=RQ hf hu
 obtain ⟨r5,h5,q5⟩:=ajl a
 obtain ⟨c,hc,hcr⟩:=right_eq a hin hfl Xl
 have hT:=text_eq a hin hfl Xl
 have hsm:=Ic a hfl Xl
 have HXI:=ah (And.intro hx (And.intro e14 e34))
 have HI:=ah hI
 have HIN:=ah hin
 have aqd:=ah hFL
 have HLN:=ah (And.intro hfl Xl)
 have HF:=ah hf
 have HU:=ah hu
 have H5:=ah h5
 have Q5:=ah q5
 have HCC:=ah hc
 have HCR:=ah hcr
 have HTT:=ah hT
 have HSM:=ah hsm
 clear hx e14 e34 hI hin hFL hfl Xl hf hu h5 q5 hc hcr hT hsm
 have ho:fv.oneCell'=true:=HF.out.one
 have ho2:uv.oneCell'=true:=HU.out.one
 have atQ:=ah (And.intro ho ho2)
 clear ho ho2
 go_enter Tryz.func3,Tryz.ntmps3
 go_upto_region 1 with fail
 have HX1:Hid (LX w (bW a fv uv) (w.alloc (.cells (bW a fv uv) 37))):=ah ⟨bC w _,heap_alloc_new w _⟩
 generalize w.alloc (.cells (bW a fv uv) 37)=W1 at HX1 ⊢
 go_upto_region 2 with (go_at_call 4;refine (RU (HX1.out.inv HI.out)).mono ?_;rintro r W2 ⟨rfl,hb⟩;have HX:=ah (HX1.out.next hb);clear hb)
 clear HX1
 refine wp_region_lit ?_
 refine iC (by rfl) _ rfl (.agg (bW a fv uv)) (dB (.tmp 2) rfl rfl HX.out.box rfl) ?_
 simp only [Act.put,sA,sB,sC]
 refine g_call (by rfl) rfl Tryz.call5 _ rfl (vals:= #[.agg (bW a fv uv)]) (by go_simp;try rfl) (ajm H5.out (HX.out.inv HI.out) (HX.out.rel HF.out) (HX.out.rel HU.out)) ?_
 rintro r W21 ⟨rfl,hb⟩
 refine ⟨_,rfl,?_⟩
 have HX:=ah (HX.out.next hb)
 clear hb
 simp only [Act.put,sA,sB,sC]
 cases r5 with
 | false=>
  refine bV ?_
  simp only [Act.put,sA,sB,sC]
  refine bV ?_
  simp only [Act.put,sA,sB,sC]
  refine aW ?_
  simp only [Act.put,sA,sB,sC]
  refine aW ?_
  simp only [Act.put,sA,sB,sC]
  refine aW ?_
  simp only [Act.put,sA,sB,sC]
  refine bV ?_
  simp only [Act.put,sA,sB,sC]
  refine wpList_nil ?_
  go_wp2_with fail
  go_ret
  exact ⟨rfl,HX.out.below⟩
 | true=>
  obtain ⟨hs1,hs2,hs3⟩:=Q5.out rfl
  have HSZ:=ah (And.intro hs1 (And.intro hs2 hs3))
  clear hs1 hs2 hs3
  by_cases aqf:600 < txt.length
  ·have d6:decide ((600:Int) < (txt.length:Int))=true:=decide_eq_true (by omega)
   refine bV ?_
   simp only [Act.put,sA,sB,sC]
   refine bV ?_
   simp only [Act.put,sA,sB,sC]
   refine iR ?_
   simp only [Act.put,sA,sB,sC]
   refine iR ?_
   simp only [Act.put,sA,sB,sC]
   refine iR ?_
   simp only [Act.put,sA,sB,sC]
   refine bV ?_
   simp only [Act.put,sA,sB,sC]
   refine wpList_nil ?_
   go_wp2_with fail
   go_ret
   exact ⟨rfl,HX.out.below⟩
  ·have d6:decide ((600:Int) < (txt.length:Int))=false:=decide_eq_false (by omega)
   refine bV ?_
   simp only [Act.put,sA,sB,sC]
   refine bV ?_
   simp only [Act.put,sA,sB,sC]
   refine iR ?_
   simp only [Act.put,sA,sB,sC]
   refine iR ?_
   simp only [Act.put,sA,sB,sC]
   refine iR ?_
   simp only [Act.put,sA,sB,sC]
   refine bV ?_
   simp only [Act.put,sA,sB,sC]
   refine wpList_nil ?_
   have HT6:Hid (txt.length≤1000000):=ah (by omega)
   clear d6 aqf H5 Q5
   go_upto_region 4 with fail
   obtain ⟨tx,ht,hl,hcx⟩:∃tx:List UInt8,cZ a=some ⟨tx.toArray⟩∧tx.length≤1000000∧((c=true∧(tx== [])=false∧readA tx=a∧jQ tx=0)∨(c=false∧tx= []∧readA tx=dF∧jQ tx=2)):=by
    by_cases hr:gK a
    ·exact ⟨iH a,HTT.out.1 hr,aaC HIN.out HSZ.out.1 HSZ.out.2.1 HSZ.out.2.2 aqd.out,.inl ⟨HCR.out.2 hr,by simp [aeK a],(Bd hr).1,(Bd hr).2⟩⟩
    ·refine ⟨[],HTT.out.2 hr,Nat.zero_le _,.inr ⟨?_,rfl,Ie.1,Ie.2⟩⟩
     cases c with
     | false=> rfl
     | true=> exact absurd (HCR.out.1 rfl) hr
   have HTX:=ah ht
   have HTL:=ah hl
   have HCX:=ah hcx
   clear ht hl hcx HTT
   refine wp_region_lit ?_
   refine iC (by rfl) _ rfl (.agg (bW a fv uv)) (dB (.tmp 2) rfl rfl HX.out.box rfl) ?_
   simp only [Act.put,sA,sB,sC]
   refine g_call (by rfl) rfl Tryz.call6 _ rfl (vals:= #[.agg (bW a fv uv)]) (by go_simp;try rfl) (Aw HTX.out (HX.out.inv HI.out) (HX.out.rel HF.out) (HX.out.rel HU.out)) ?_
   rintro r W23 ⟨rfl,hb⟩
   refine ⟨_,rfl,?_⟩
   have HX:=ah (HX.out.next hb)
   clear hb
   simp only [Act.put,sA,sB,sC]
   refine bV ?_
   simp only [Act.put,sA,sB,sC]
   refine wpList_nil ?_
   go_upto_region 5 with fail
   refine wp_region_lit ?_
   refine bV ?_
   simp only [Act.put,sA,sB,sC]
   refine g_call (by rfl) rfl Tryz.call7 _ rfl (vals:= #[.string ⟨tx.toArray⟩]) (by go_simp;try rfl) (Ig tx _ (HX.out.inv HI.out) HTL.out) ?_
   rintro r W24 ⟨fy,uy,rfl,hb,hrf,Ru⟩
   refine ⟨_,rfl,?_⟩
   have HX:=ah (HX.out.next hb)
   have hrf:=hrf.mono (S':=fun k=> k < W24.heap.size) (fun _ h=> h.2) (fun _ _=> rfl)
   have Ru:=Ru.mono (S':=fun k=> k < W24.heap.size) (fun _ h=> h.2) (fun _ _=> rfl)
   have HO2:=ah (And.intro hrf.one Ru.one)
   have HY:=ah (LY.new hrf Ru)
   clear hb hrf Ru
   simp only [Act.put,sA,sB,sC]
   refine bV ?_
   simp only [Act.put,sA,sB,sC]
   refine bV ?_
   simp only [Act.put,sA,sB,sC]
   refine bV ?_
   simp only [Act.put,sA,sB,sC]
   refine sO rfl rfl ?_
   simp only [Act.put,sA,sB,sC]
   refine jm rfl 37 _ _ rfl (bW (readA tx) fy uy).toList (bW (readA tx) fy uy) rfl rfl (heap_alloc_new W24 _) rfl uH (Nat.le_of_ble_eq_true rfl) (pU HO2.out.1 HO2.out.2) rfl ?_
   simp only [Act.put,sA,sB,sC]
   have HX:=ah (HX.out.next (l7 (.cells (bW dF o0 o0) 37) (bW (readA tx) fy uy)))
   clear HO2
   generalize (W24.alloc (.cells (bW dF o0 o0) 37)).setRow W24.heap.size (bW (readA tx) fy uy)=W25 at HX HY ⊢
   generalize W24.heap.size=yb at HY ⊢
   refine bV ?_
   simp only [Act.put,sA,sB,sC]
   refine wpList_nil ?_
   go_upto_region 6 with fail
   go_cut [8,54] (fun _ v W=> v= .bool false∧Hid (LX w (bW a fv uv) W))
   case first=>
    rcases HCX.out with ⟨rfl,hne,hA,hE⟩ | ⟨rfl,rfl,hA,hE⟩
    ·rw [hE]
     rw [hA] at HY
     clear hA hE
     refine wp_region_lit ?_
     refine iC (by rfl) _ rfl (.agg (bW a fv uv)) (dB (.tmp 2) rfl rfl HX.out.box rfl) ?_
     simp only [Act.put,sA,sB,sC]
     refine g_call (by rfl) rfl Tryz.call8 _ rfl (vals:= #[.agg (bW a fv uv)]) (by go_simp;try rfl) (jv HCC.out (HX.out.inv HI.out) (HX.out.rel HF.out) (HX.out.rel HU.out)) ?_
     rintro r W26 ⟨rfl,hb⟩
     refine ⟨_,rfl,?_⟩
     have HX:=ah (HX.out.next hb)
     have HY:=ah (HY.out.next hb)
     clear hb
     simp only [Act.put,sA,sB,sC]
     refine bV ?_
     simp only [Act.put,sA,sB,sC]
     refine bV ?_
     simp only [Act.put,sA,sB,sC]
     refine bV ?_
     simp only [Act.put,sA,sB,sC]
     refine bV ?_
     simp only [Act.put,sA,sB,sC]
     refine iR ?_
     simp only [Act.put,sA,sB,sC]
     refine iR ?_
     simp only [Act.put,sA,sB,sC]
     refine iC (by rfl) _ rfl (.agg (bW a fv uv)) (dB (.tmp 2) rfl rfl HX.out.box rfl) ?_
     simp only [Act.put,sA,sB,sC]
     refine g_call (by rfl) rfl Tryz.call8 _ rfl (vals:= #[.agg (bW a fv uv)]) (by go_simp;try rfl) (jv HCC.out (HX.out.inv HI.out) (HX.out.rel HF.out) (HX.out.rel HU.out)) ?_
     rintro r W27 ⟨rfl,hb⟩
     refine ⟨_,rfl,?_⟩
     have HX:=ah (HX.out.next hb)
     have HY:=ah (HY.out.next hb)
     clear hb
     simp only [Act.put,sA,sB,sC]
     refine iR ?_
     simp only [Act.put,sA,sB,sC]
     refine bV ?_
     simp only [Act.put,sA,sB,sC]
     refine bV ?_
     simp only [Act.put,sA,sB,sC]
     refine iR ?_
     simp only [Act.put,sA,sB,sC]
     refine iR ?_
     simp only [Act.put,sA,sB,sC]
     refine iR ?_
     simp only [Act.put,sA,sB,sC]
     refine iC (by rfl) _ rfl (.agg (bW a fv uv)) (dB (.tmp 2) rfl rfl HX.out.box rfl) ?_
     simp only [Act.put,sA,sB,sC]
     refine iC (by rfl) _ rfl (.agg (bW a fy uy)) (dB (.tmp 7) rfl rfl HY.out.box rfl) ?_
     simp only [Act.put,sA,sB,sC]
     refine g_call (by rfl) rfl Tryz.call9 _ rfl (vals:= #[.agg (bW a fv uv),.agg (bW a fy uy)]) (by go_simp;try rfl) (Vq HSM.out (HX.out.inv HI.out) (HX.out.rel HF.out) (HX.out.rel HU.out) HY.out.rf HY.out.ru) ?_
     rintro r W28 ⟨rfl,hb⟩
     refine ⟨_,rfl,?_⟩
     have HX:=ah (HX.out.next hb)
     clear hb
     simp only [Act.put,sA,sB,sC]
     refine iR ?_
     simp only [Act.put,sA,sB,sC]
     refine iR ?_
     simp only [Act.put,sA,sB,sC]
     refine bV ?_
     simp only [Act.put,sA,sB,sC]
     refine wpList_nil ?_
     go_wp2_with fail
     go_meet
     exact ⟨rfl,HX⟩
    ·rw [hE]
     rw [hA] at HY
     clear hA hE
     refine wp_region_lit ?_
     refine iC (by rfl) _ rfl (.agg (bW a fv uv)) (dB (.tmp 2) rfl rfl HX.out.box rfl) ?_
     simp only [Act.put,sA,sB,sC]
     refine g_call (by rfl) rfl Tryz.call8 _ rfl (vals:= #[.agg (bW a fv uv)]) (by go_simp;try rfl) (jv HCC.out (HX.out.inv HI.out) (HX.out.rel HF.out) (HX.out.rel HU.out)) ?_
     rintro r W29 ⟨rfl,hb⟩
     refine ⟨_,rfl,?_⟩
     have HX:=ah (HX.out.next hb)
     have HY:=ah (HY.out.next hb)
     clear hb
     simp only [Act.put,sA,sB,sC]
     refine bV ?_
     simp only [Act.put,sA,sB,sC]
     refine bV ?_
     simp only [Act.put,sA,sB,sC]
     refine bV ?_
     simp only [Act.put,sA,sB,sC]
     refine bV ?_
     simp only [Act.put,sA,sB,sC]
     refine iR ?_
     simp only [Act.put,sA,sB,sC]
     refine iR ?_
     simp only [Act.put,sA,sB,sC]
     refine iC (by rfl) _ rfl (.agg (bW a fv uv)) (dB (.tmp 2) rfl rfl HX.out.box rfl) ?_
     simp only [Act.put,sA,sB,sC]
     refine g_call (by rfl) rfl Tryz.call8 _ rfl (vals:= #[.agg (bW a fv uv)]) (by go_simp;try rfl) (jv HCC.out (HX.out.inv HI.out) (HX.out.rel HF.out) (HX.out.rel HU.out)) ?_
     rintro r W30 ⟨rfl,hb⟩
     refine ⟨_,rfl,?_⟩
     have HX:=ah (HX.out.next hb)
     have HY:=ah (HY.out.next hb)
     clear hb
     simp only [Act.put,sA,sB,sC]
     refine iR ?_
     simp only [Act.put,sA,sB,sC]
     refine bV ?_
     simp only [Act.put,sA,sB,sC]
     refine bV ?_
     simp only [Act.put,sA,sB,sC]
     refine iR ?_
     simp only [Act.put,sA,sB,sC]
     refine iR ?_
     simp only [Act.put,sA,sB,sC]
     refine iR ?_
     simp only [Act.put,sA,sB,sC]
     refine aW ?_
     simp only [Act.put,sA,sB,sC]
     refine aW ?_
     simp only [Act.put,sA,sB,sC]
     refine aW ?_
     simp only [Act.put,sA,sB,sC]
     refine aW ?_
     simp only [Act.put,sA,sB,sC]
     refine iR ?_
     simp only [Act.put,sA,sB,sC]
     refine bV ?_
     simp only [Act.put,sA,sB,sC]
     refine wpList_nil ?_
     go_wp2_with fail
     go_meet
     exact ⟨rfl,HX⟩
   case rest=>
    clear HX HY HTL HTX HSM
    obtain ⟨rfl,HX⟩:=hcut
    go_upto_region 8 with fail
    refine wp_region_lit ?_
    refine bV ?_
    simp only [Act.put,sA,sB,sC]
    refine g_call (by rfl) rfl Tryz.call7 _ rfl (vals:= #[.string ⟨txt.toArray⟩]) (by go_simp;try rfl) (Ig txt _ (HX.out.inv HI.out) HT6.out) ?_
    rintro r W31 ⟨fy,uy,rfl,hb,hrf,Ru⟩
    refine ⟨_,rfl,?_⟩
    have HX:=ah (HX.out.next hb)
    have hrf:=hrf.mono (S':=fun k=> k < W31.heap.size) (fun _ h=> h.2) (fun _ _=> rfl)
    have Ru:=Ru.mono (S':=fun k=> k < W31.heap.size) (fun _ h=> h.2) (fun _ _=> rfl)
    have HO2:=ah (And.intro hrf.one Ru.one)
    have HY:=ah (LY.new hrf Ru)
    clear hb hrf Ru
    simp only [Act.put,sA,sB,sC]
    refine bV ?_
    simp only [Act.put,sA,sB,sC]
    refine bV ?_
    simp only [Act.put,sA,sB,sC]
    refine bV ?_
    simp only [Act.put,sA,sB,sC]
    refine sO rfl rfl ?_
    simp only [Act.put,sA,sB,sC]
    refine jm rfl 37 _ _ rfl (bW (readA txt) fy uy).toList (bW (readA txt) fy uy) rfl rfl (heap_alloc_new W31 _) rfl uH (Nat.le_of_ble_eq_true rfl) (pU HO2.out.1 HO2.out.2) rfl ?_
    simp only [Act.put,sA,sB,sC]
    have HX:=ah (HX.out.next (l7 (.cells (bW dF o0 o0) 37) (bW (readA txt) fy uy)))
    clear HO2
    generalize (W31.alloc (.cells (bW dF o0 o0) 37)).setRow W31.heap.size (bW (readA txt) fy uy)=W32 at HX HY ⊢
    generalize W31.heap.size=ub at HY ⊢
    refine bV ?_
    simp only [Act.put,sA,sB,sC]
    refine wpList_nil ?_
    go_upto_region 9 with fail
    go_cut [10,86] (fun _ v W=> v= .bool false∧Hid (LX w (bW a fv uv) W))
    case first=>
     rcases RV txt HT6.out with ⟨hE,hr,hc2,ht2⟩ | ⟨hE,hA⟩
     ·rw [hE]
      have HC2:=ah hc2
      have HT2:=ah ht2
      clear hE hr hc2 ht2
      generalize readA txt=u at HY HC2 HT2 ⊢
      refine wp_region_lit ?_
      refine bV ?_
      simp only [Act.put,sA,sB,sC]
      refine bV ?_
      simp only [Act.put,sA,sB,sC]
      refine bV ?_
      simp only [Act.put,sA,sB,sC]
      refine iC (by rfl) _ rfl (.agg (bW u fy uy)) (dB (.tmp 9) rfl rfl HY.out.box rfl) ?_
      simp only [Act.put,sA,sB,sC]
      refine g_call (by rfl) rfl Tryz.call8 _ rfl (vals:= #[.agg (bW u fy uy)]) (by go_simp;try rfl) (jv HC2.out (HX.out.inv HI.out) HY.out.rf HY.out.ru) ?_
      rintro r W33 ⟨rfl,hb⟩
      refine ⟨_,rfl,?_⟩
      have HX:=ah (HX.out.next hb)
      have HY:=ah (HY.out.next hb)
      clear hb
      simp only [Act.put,sA,sB,sC]
      refine iR ?_
      simp only [Act.put,sA,sB,sC]
      refine iR ?_
      simp only [Act.put,sA,sB,sC]
      refine iC (by rfl) _ rfl (.agg (bW u fy uy)) (dB (.tmp 9) rfl rfl HY.out.box rfl) ?_
      simp only [Act.put,sA,sB,sC]
      refine g_call (by rfl) rfl Tryz.call6 _ rfl (vals:= #[.agg (bW u fy uy)]) (by go_simp;try rfl) (Aw HT2.out (HX.out.inv HI.out) HY.out.rf HY.out.ru) ?_
      rintro r W34 ⟨rfl,hb⟩
      refine ⟨_,rfl,?_⟩
      have HX:=ah (HX.out.next hb)
      have HY:=ah (HY.out.next hb)
      clear hb
      simp only [Act.put,sA,sB,sC]
      refine iR ?_
      simp only [Act.put,sA,sB,sC]
      refine iR ?_
      simp only [Act.put,sA,sB,sC]
      refine iR ?_
      simp only [Act.put,sA,sB,sC]
      refine bV ?_
      simp only [Act.put,sA,sB,sC]
      refine bV ?_
      simp only [Act.put,sA,sB,sC]
      refine iR ?_
      simp only [Act.put,sA,sB,sC]
      refine iR ?_
      simp only [Act.put,sA,sB,sC]
      refine iR ?_
      simp only [Act.put,sA,sB,sC]
      refine aW ?_
      simp only [Act.put,sA,sB,sC]
      refine aW ?_
      simp only [Act.put,sA,sB,sC]
      refine aW ?_
      simp only [Act.put,sA,sB,sC]
      refine aW ?_
      simp only [Act.put,sA,sB,sC]
      refine aW ?_
      simp only [Act.put,sA,sB,sC]
      refine aW ?_
      simp only [Act.put,sA,sB,sC]
      refine aW ?_
      simp only [Act.put,sA,sB,sC]
      refine aW ?_
      simp only [Act.put,sA,sB,sC]
      refine iR ?_
      simp only [Act.put,sA,sB,sC]
      refine bV ?_
      simp only [Act.put,sA,sB,sC]
      refine wpList_nil ?_
      go_wp2_with fail
      go_meet
      exact ⟨rfl,HX⟩
     ·rw [hE]
      rw [hA] at HY
      have aqh:=ah (Ic dF (Nat.zero_le _) (Nat.zero_le _))
      clear hA hE
      refine wp_region_lit ?_
      refine bV ?_
      simp only [Act.put,sA,sB,sC]
      refine bV ?_
      simp only [Act.put,sA,sB,sC]
      refine bV ?_
      simp only [Act.put,sA,sB,sC]
      refine aW ?_
      simp only [Act.put,sA,sB,sC]
      refine aW ?_
      simp only [Act.put,sA,sB,sC]
      refine aW ?_
      simp only [Act.put,sA,sB,sC]
      refine aW ?_
      simp only [Act.put,sA,sB,sC]
      refine aW ?_
      simp only [Act.put,sA,sB,sC]
      refine aW ?_
      simp only [Act.put,sA,sB,sC]
      refine aW ?_
      simp only [Act.put,sA,sB,sC]
      refine aW ?_
      simp only [Act.put,sA,sB,sC]
      refine aW ?_
      simp only [Act.put,sA,sB,sC]
      refine bV ?_
      simp only [Act.put,sA,sB,sC]
      refine bV ?_
      simp only [Act.put,sA,sB,sC]
      refine iR ?_
      simp only [Act.put,sA,sB,sC]
      refine iR ?_
      simp only [Act.put,sA,sB,sC]
      refine iR ?_
      simp only [Act.put,sA,sB,sC]
      refine iR ?_
      simp only [Act.put,sA,sB,sC]
      refine iR ?_
      simp only [Act.put,sA,sB,sC]
      refine iR ?_
      simp only [Act.put,sA,sB,sC]
      refine iC (by rfl) _ rfl (.agg (bW dF fy uy)) (dB (.tmp 9) rfl rfl HY.out.box rfl) ?_
      simp only [Act.put,sA,sB,sC]
      refine Xm (by rfl) rfl ?_
      simp only [Act.put,sA,sB,sC]
      refine g_call (by rfl) rfl Tryz.call9 _ rfl (vals:= #[.agg (bW dF fy uy),.agg (bW dF o0 o0)]) (by go_simp;try rfl) (Vq aqh.out (HX.out.inv HI.out) HY.out.rf HY.out.ru (.fz0 none 0 fun _=> rfl) (.fz0 none 0 fun _=> rfl)) ?_
      rintro r W35 ⟨rfl,hb⟩
      refine ⟨_,rfl,?_⟩
      have HX:=ah (HX.out.next hb)
      clear hb
      simp only [Act.put,sA,sB,sC]
      refine iR ?_
      simp only [Act.put,sA,sB,sC]
      refine iR ?_
      simp only [Act.put,sA,sB,sC]
      refine iR ?_
      simp only [Act.put,sA,sB,sC]
      refine bV ?_
      simp only [Act.put,sA,sB,sC]
      refine wpList_nil ?_
      go_wp2_with fail
      go_meet
      exact ⟨rfl,HX⟩
    case rest=>
     clear HX HY HT6
     obtain ⟨rfl,HX⟩:=hcut
     go_upto_region 11 with fail
     letI:Ci.fE:=Ci.oM x.F x.ints
     have HXA:=ah (HXI.out.1.mono (A':=fun k=> k < w.heap.size) (fun _ h=> h) fun k hk=> HX.out.below.block k hk)
     refine wp_region_lit ?_
     refine g_call (by rfl) rfl Tryz.call11 _ rfl (vals:= #[]) (by go_simp;try rfl) (Xn ⟨HXA.out.mem,HXA.out.old fun k hk=> Nat.lt_of_lt_of_le hk HX.out.below.size⟩ (Vr (HX.out.inv HI.out))) ?_
     rintro r W60 ⟨x1,σ1,rfl,hh,hv,hf⟩
     refine ⟨_,rfl,?_⟩
     simp only [Act.put,sA,sB,sC]
     refine g_call (by rfl) rfl Tryz.call10 _ rfl (vals:= #[x1]) (by go_simp;try rfl) (Xo hh hv) ?_
     rintro r Y3 ⟨v,n,σ2,cs,rfl,⟨rfl,hsz,hone⟩,hh2,hv2,hf2⟩
     refine ⟨_,rfl,?_⟩
     simp only [Act.put,sA,sB,sC]
     refine bV ?_
     simp only [Act.put,sA,sB,sC]
     refine bV ?_
     simp only [Act.put,sA,sB,sC]
     refine bV ?_
     simp only [Act.put,sA,sB,sC]
     refine Xp rfl rfl ?_
     simp only [Act.put,sA,sB,sC]
     have hPw:=HX.out.below.size
     have hlt:=lt_of_block HX.out.box
     have hsz2:=Nat.le_trans hf.size hf2.size
     have h3:=hh2.next (l7 (.cells G5 57) cs)
     have hbx:=(hf2.block _ hlt).trans ((hf.block _ hlt).trans HX.out.box)
     have HL2:Hid (L2 w (bW a fv uv) Y3.heap.size cs ((Y3.alloc (.cells G5 57)).setRow Y3.heap.size cs)):=ah (by
      have hL:LX w (bW a fv uv) Y3:=⟨⟨(hf.trans hf2).os.trans HX.out.below.os,(hf.trans hf2).tape.trans HX.out.below.tape,(hf.trans hf2).output.trans HX.out.below.output,Nat.le_trans hPw hsz2,fun k hk=> ((hf.trans hf2).block k (Nat.lt_of_lt_of_le hk hPw)).trans (HX.out.below.block k hk)⟩,hbx⟩
      exact ⟨hL.next (l7 _ _),setRow_heap _ _ _ _ 57 (0,0) (heap_alloc_new Y3 _),by omega⟩)
     obtain ⟨Pk,hh4,hp1,hp2⟩:∃Pk:Nat→Prop,Held Pk σ2 Ci.qN.hs Ci.qN.nx ((Y3.alloc (.cells G5 57)).setRow Y3.heap.size cs)∧(∀k,k≤w.heap.size→Pk k)∧Pk Y3.heap.size:=⟨_,h3,fun k hk=> .inl (by omega),.inr ⟨Nat.le_refl _,by rw [setRow_size];simp⟩⟩
     have HSC:=ah (And.intro hsz hone)
     have HH:=ah hh4
     have HP:=ah (And.intro hp1 hp2)
     have HV:=ah hv2
     clear hh hv hf hh2 hv2 hf2 h3 hbx hh4 hp1 hp2 hone hPw hlt hsz2 HX HXA
     refine jm rfl 57 _ _ rfl cs.toList cs rfl rfl (heap_alloc_new Y3 _) rfl (by rw [Array.length_toList,hsz];exact J3) (by rw [Array.length_toList,hsz];exact Nat.le_refl 13) HSC.out.2 (pV (by rw [hsz];rfl)) ?_
     simp only [Act.put,sA,sB,sC]
     clear hsz
     generalize (Y3.alloc (.cells G5 57)).setRow Y3.heap.size cs=W62 at HL2 HH ⊢
     generalize Y3.heap.size=Ih at HL2 HP ⊢
     refine bV ?_
     simp only [Act.put,sA,sB,sC]
     refine wpList_nil ?_
     go_upto_region 12 with fail
     go_cut [14,15] (fun t v W=> ∃n:Int,v= .int .i64 n∧Hid (LX w (bW a fv uv) W)∧Hid (¬gK a∨2≤a.Net∨(a.Kind=0∧2≤a.Raw.Account % 12)→t= .slice none 0 0∧n=1))
     case first=>
      have HD:=ah HL2.out.drew
      have HHD:Hid (Held Pk σ2 Ci.qN.hs Ci.qN.nx W62.drew):=ah ((HH.out.next (w':=W62.drew) ⟨rfl,rfl,rfl,Nat.le_refl _,fun _ _=> rfl⟩).sub fun _ h=> .inl h)
      clear HH HL2
      refine wp_region_held_drew (S:=(fun W=> W.heap[Ih]? =some (.cells cs 57 (0,0))∧W.heap[w.heap.size]? =some (.cells (bW a fv uv) 37 (0,0)))) (by kernel_rfl) ?_ (fun hHeld=> ?_)
      focus (exact ⟨HD.out.st,HD.out.x.box⟩)
      clear hHeld
      generalize W62.drew=W63 at HD HHD ⊢
      refine aY (by kernel_rfl) (fun d _ _ _ _ h=> by cases d <;> exact h) [1,2] 10 _ _ _ ?_ _ (by rfl) (by kernel_rfl) ?_ (by exact ⟨HD.out.st,HD.out.x.box⟩) ?_
      rotate_left
      focus
       simp only [aK,tA,tB,tC,tD]
       (refine Takes.want (.agg cs) (by rfl) (fun w' hw'=> aaF (.tmp 11) rfl rfl hw'.1 HSC.out.1) ?_;try simp only [Act.put,sA,sC,sB])
       (refine Takes.want (.agg (bW a fv uv)) (by rfl) (fun w' hw'=> dB (.tmp 2) rfl rfl hw'.2 rfl) ?_;try simp only [Act.put,sA,sC,sB])
       exact Takes.done
      refine pW 0 8 (fuel:=9) (by kernel_rfl) (by rfl) (fun K hK=> ?_) (fun K hK=> ?_)
      ·simp only [aK,tA,tB,tC,tD,fV]
       rw [if_pos (by rfl)]
       refine Bf rfl Tryz.call11 (vals:= #[]) (by go_simp;try rfl) (Ii HHD.out HV.out) ?_
       rintro r W64 ⟨x3,σ3,rfl,hh,hv,hv2,hf⟩
       refine ⟨_,rfl,?_⟩
       have HD:=ah (HD.out.fr hf HP.out.1 HP.out.2)
       have HHS:=ah hh
       have HV3:=ah (And.intro hv hv2)
       have HBX:=ah fun (k:Nat) (C:Array Value) (hk:Pk k∧W63.heap[k]? =some (.cells C 57 (0,0)))=> (hf.block k hk.1).trans hk.2
       clear hh hv hv2 hf
       refine hK.out _ _ ?_ (fun _=> ?_)
       focus (exact ⟨HD.out.st,HD.out.x.box⟩)
       clear hK K
       try simp only [Act.put,sA,sC,sB]
       refine pW 3 8 (fuel:=8) (by kernel_rfl) (by rfl) (fun K hK=> ?_) (fun K hK=> ?_)
       ·simp only [aK,tA,tB,tC,tD,fV]
        rw [if_pos (by rfl)]
        refine Bf rfl Tryz.call12 (vals:= #[x3,.agg cs,.agg (bW a fv uv)]) (by go_simp;try rfl) (by have h:=yj HIN.out HLN.out.1 HLN.out.2 HSZ.out.1 (x:=x) σ3 _ x3 (.agg cs) HHS.out (HXI.out.1.mono (A':=fun k=> k < w.heap.size) (fun _ h=> h) fun k hk=> HD.out.x.below.block k hk) (HD.out.x.inv HI.out) (fun k hk=> HP.out.1 k (Nat.le_of_lt hk)) (fun k hk=> HP.out.1 k (Nat.le_of_lt (HI.out.lt hk))) HV3.out.1 HV3.out.2;rw [HXI.out.2.1,HXI.out.2.2] at h;exact h) ?_
        rintro r W66 ⟨ds,o1,n1,rfl,hds,hd1,ho1,hf,harg⟩
        refine ⟨_,rfl,?_⟩
        have HD:=ah (HD.out.fr hf HP.out.1 HP.out.2)
        have Vs:=ah (And.intro hds hd1)
        have OJ:=ah harg
        clear hds hd1 ho1 hf harg
        refine hK.out _ _ ?_ (fun _=> ?_)
        focus (exact ⟨HD.out.st,HD.out.x.box⟩)
        clear hK K
        try simp only [Act.put,sA,sC,sB]
        refine aY (by kernel_rfl) (fun d _ _ _ _ h=> by cases d <;> exact h) [4,5,6,7] 4 _ _ _ ?_ _ (by rfl) (by kernel_rfl) ?_ (by exact ⟨HD.out.st,HD.out.x.box⟩) ?_
        rotate_left
        focus
         simp only [aK,tA,tB,tC,tD]
         (refine Ai ?_;try simp only [Act.put,sA,sC,sB])
         (refine Ai ?_;try simp only [Act.put,sA,sC,sB])
         (refine Ai ?_;try simp only [Act.put,sA,sC,sB])
         (refine Ai ?_;try simp only [Act.put,sA,sC,sB])
         exact Takes.done
        refine bK 8 (fuel:=3) (by kernel_rfl) (by rfl) (fun K hK=> ?_)
        have RX:Hid (Ih < W66.heap.size):=ah (lt_of_block HD.out.st)
        simp only [aK,tA,tB,tC,tD,fV]
        rw [if_pos (by rfl)]
        refine yu rfl ?_
        have HD:=ah (HD.out.next (bC W66 (.cells G5 57)))
        have HB3:=ah (heap_alloc_new W66 (.cells G5 57))
        have RY:=RX
        generalize W66.alloc (.cells G5 57)=W67 at HD HB3 ⊢
        generalize W66.heap.size=b3 at HB3 RY RX ⊢
        refine hK.out _ _ ?_ (fun _=> ?_)
        focus (exact ⟨HD.out.st,HD.out.x.box⟩)
        clear hK K
        try simp only [Act.put,sA,sC,sB]
        refine bK 9 (fuel:=2) (by kernel_rfl) (by rfl) (fun K hK=> ?_)
        simp only [aK,tA,tB,tC,tD,fV]
        rw [if_pos (by rfl)]
        refine Bg 57 _ _ rfl ds.toList ds rfl rfl HB3.out rfl (by rw [Array.length_toList,Vs.out.1];exact J3) (by rw [Array.length_toList,Vs.out.1];exact Nat.le_refl 13) Vs.out.2 (pV (by rw [Vs.out.1];rfl)) ?_
        have HD:=ah (HD.out.put ds RY.out)
        refine hK.out _ _ ?_ (fun _=> ?_)
        focus (exact ⟨HD.out.st,HD.out.x.box⟩)
        clear hK K
        try simp only [Act.put,sA,sC,sB]
        refine aY (by kernel_rfl) (fun d _ _ _ _ h=> by cases d <;> exact h) [10,11] 0 _ _ _ ?_ _ (by rfl) (by kernel_rfl) ?_ (by exact ⟨HD.out.st,HD.out.x.box⟩) ?_
        rotate_left
        focus
         simp only [aK,tA,tB,tC,tD]
         (refine Ai ?_;try simp only [Act.put,sA,sC,sB])
         (refine Ai ?_;try simp only [Act.put,sA,sC,sB])
         exact Takes.done
        refine wpAnyH_done (by kernel_rfl) ?_ _
        go_wp2_with fail
        go_meet
        exact ⟨n1,rfl,ah HD.out.x,OJ⟩
       ·have RX:Hid (Ih < W64.heap.size):=ah (lt_of_block HD.out.st)
        simp only [aK,tA,tB,tC,tD,fV]
        rw [if_pos (by rfl)]
        refine yu rfl ?_
        have HD:=ah (HD.out.next (bC W64 (.cells G5 57)))
        have HB3:=ah (heap_alloc_new W64 (.cells G5 57))
        have RY:=RX
        obtain ⟨Pq,hh,hp⟩:∃Pq:Nat→Prop,Held Pq σ3 Ci.qN.L Ci.qN.n (W64.alloc (.cells G5 57))∧(∀k,Pk k∨k=W64.heap.size→Pq k):=⟨_,HHS.out.next (bC W64 (.cells G5 57)),fun k hk=> hk.elim .inl fun e=> .inr (by subst e;simp)⟩
        have HP:Hid ((∀k,k≤w.heap.size→Pq k)∧Pq Ih):=ah ⟨fun k hk=> hp k (.inl (HP.out.1 k hk)),hp _ (.inl HP.out.2)⟩
        have HP3:=ah (hp _ (.inr rfl))
        have HHS:=ah hh
        clear hh hp
        generalize W64.alloc (.cells G5 57)=W65 at HD HB3 HHS ⊢
        generalize W64.heap.size=b3 at HB3 RY RX HP3 ⊢
        refine hK.out _ _ ?_ (fun _=> ?_)
        focus (exact ⟨HD.out.st,HD.out.x.box⟩)
        clear hK K
        try simp only [Act.put,sA,sC,sB]
        refine bK 3 (fuel:=7) (by kernel_rfl) (by rfl) (fun K hK=> ?_)
        simp only [aK,tA,tB,tC,tD,fV]
        rw [if_pos (by rfl)]
        refine Bf rfl Tryz.call12 (vals:= #[x3,.agg cs,.agg (bW a fv uv)]) (by go_simp;try rfl) (by have h:=yj HIN.out HLN.out.1 HLN.out.2 HSZ.out.1 (x:=x) σ3 _ x3 (.agg cs) HHS.out (HXI.out.1.mono (A':=fun k=> k < w.heap.size) (fun _ h=> h) fun k hk=> HD.out.x.below.block k hk) (HD.out.x.inv HI.out) (fun k hk=> HP.out.1 k (Nat.le_of_lt hk)) (fun k hk=> HP.out.1 k (Nat.le_of_lt (HI.out.lt hk))) HV3.out.1 HV3.out.2;rw [HXI.out.2.1,HXI.out.2.2] at h;exact h) ?_
        rintro r W66 ⟨ds,o1,n1,rfl,hds,hd1,ho1,hf,harg⟩
        refine ⟨_,rfl,?_⟩
        have HD:=ah (HD.out.fr hf HP.out.1 HP.out.2)
        have Vs:=ah (And.intro hds hd1)
        have OJ:=ah harg
        have HB3:=ah ((hf.block _ HP3.out).trans HB3.out)
        clear hds hd1 ho1 hf harg
        refine hK.out _ _ ?_ (fun _=> ?_)
        focus (exact ⟨HD.out.st,HD.out.x.box⟩)
        clear hK K
        try simp only [Act.put,sA,sC,sB]
        refine aY (by kernel_rfl) (fun d _ _ _ _ h=> by cases d <;> exact h) [4,5,6,7] 3 _ _ _ ?_ _ (by rfl) (by kernel_rfl) ?_ (by exact ⟨HD.out.st,HD.out.x.box⟩) ?_
        rotate_left
        focus
         simp only [aK,tA,tB,tC,tD]
         (refine Ai ?_;try simp only [Act.put,sA,sC,sB])
         (refine Ai ?_;try simp only [Act.put,sA,sC,sB])
         (refine Ai ?_;try simp only [Act.put,sA,sC,sB])
         (refine Ai ?_;try simp only [Act.put,sA,sC,sB])
         exact Takes.done
        refine bK 9 (fuel:=2) (by kernel_rfl) (by rfl) (fun K hK=> ?_)
        simp only [aK,tA,tB,tC,tD,fV]
        rw [if_pos (by rfl)]
        refine Bg 57 _ _ rfl ds.toList ds rfl rfl HB3.out rfl (by rw [Array.length_toList,Vs.out.1];exact J3) (by rw [Array.length_toList,Vs.out.1];exact Nat.le_refl 13) Vs.out.2 (pV (by rw [Vs.out.1];rfl)) ?_
        have HD:=ah (HD.out.put ds RY.out)
        refine hK.out _ _ ?_ (fun _=> ?_)
        focus (exact ⟨HD.out.st,HD.out.x.box⟩)
        clear hK K
        try simp only [Act.put,sA,sC,sB]
        refine aY (by kernel_rfl) (fun d _ _ _ _ h=> by cases d <;> exact h) [10,11] 0 _ _ _ ?_ _ (by rfl) (by kernel_rfl) ?_ (by exact ⟨HD.out.st,HD.out.x.box⟩) ?_
        rotate_left
        focus
         simp only [aK,tA,tB,tC,tD]
         (refine Ai ?_;try simp only [Act.put,sA,sC,sB])
         (refine Ai ?_;try simp only [Act.put,sA,sC,sB])
         exact Takes.done
        refine wpAnyH_done (by kernel_rfl) ?_ _
        go_wp2_with fail
        go_meet
        exact ⟨n1,rfl,ah HD.out.x,OJ⟩
      ·have RX:Hid (Ih < W63.heap.size):=ah (lt_of_block HD.out.st)
       simp only [aK,tA,tB,tC,tD,fV]
       rw [if_pos (by rfl)]
       refine yu rfl ?_
       have HD:=ah (HD.out.next (bC W63 (.cells G5 57)))
       have HB3:=ah (heap_alloc_new W63 (.cells G5 57))
       have RY:=RX
       obtain ⟨Pq,hh,hp⟩:∃Pq:Nat→Prop,Held Pq σ2 Ci.qN.hs Ci.qN.nx (W63.alloc (.cells G5 57))∧(∀k,Pk k∨k=W63.heap.size→Pq k):=⟨_,HHD.out.next (bC W63 (.cells G5 57)),fun k hk=> hk.elim .inl fun e=> .inr (by subst e;simp)⟩
       have HP:Hid ((∀k,k≤w.heap.size→Pq k)∧Pq Ih):=ah ⟨fun k hk=> hp k (.inl (HP.out.1 k hk)),hp _ (.inl HP.out.2)⟩
       have HP3:=ah (hp _ (.inr rfl))
       have HHD:=ah hh
       clear hh hp
       generalize W63.alloc (.cells G5 57)=W63 at HD HB3 HHD ⊢
       skip
       refine hK.out _ _ ?_ (fun _=> ?_)
       focus (exact ⟨HD.out.st,HD.out.x.box⟩)
       clear hK K
       try simp only [Act.put,sA,sC,sB]
       refine bK 0 (fuel:=8) (by kernel_rfl) (by rfl) (fun K hK=> ?_)
       simp only [aK,tA,tB,tC,tD,fV]
       rw [if_pos (by rfl)]
       refine Bf rfl Tryz.call11 (vals:= #[]) (by go_simp;try rfl) (Ii HHD.out HV.out) ?_
       rintro r W64 ⟨x3,σ3,rfl,hh,hv,hv2,hf⟩
       refine ⟨_,rfl,?_⟩
       have HD:=ah (HD.out.fr hf HP.out.1 HP.out.2)
       have HHS:=ah hh
       have HV3:=ah (And.intro hv hv2)
       have HBX:=ah fun (k:Nat) (C:Array Value) (hk:Pq k∧W63.heap[k]? =some (.cells C 57 (0,0)))=> (hf.block k hk.1).trans hk.2
       clear hh hv hv2 hf
       refine hK.out _ _ ?_ (fun _=> ?_)
       focus (exact ⟨HD.out.st,HD.out.x.box⟩)
       clear hK K
       try simp only [Act.put,sA,sC,sB]
       have HB3:=ah (HBX.out _ _ ⟨HP3.out,HB3.out⟩)
       refine bK 3 (fuel:=7) (by kernel_rfl) (by rfl) (fun K hK=> ?_)
       simp only [aK,tA,tB,tC,tD,fV]
       rw [if_pos (by rfl)]
       refine Bf rfl Tryz.call12 (vals:= #[x3,.agg cs,.agg (bW a fv uv)]) (by go_simp;try rfl) (by have h:=yj HIN.out HLN.out.1 HLN.out.2 HSZ.out.1 (x:=x) σ3 _ x3 (.agg cs) HHS.out (HXI.out.1.mono (A':=fun k=> k < w.heap.size) (fun _ h=> h) fun k hk=> HD.out.x.below.block k hk) (HD.out.x.inv HI.out) (fun k hk=> HP.out.1 k (Nat.le_of_lt hk)) (fun k hk=> HP.out.1 k (Nat.le_of_lt (HI.out.lt hk))) HV3.out.1 HV3.out.2;rw [HXI.out.2.1,HXI.out.2.2] at h;exact h) ?_
       rintro r W66 ⟨ds,o1,n1,rfl,hds,hd1,ho1,hf,harg⟩
       refine ⟨_,rfl,?_⟩
       have HD:=ah (HD.out.fr hf HP.out.1 HP.out.2)
       have Vs:=ah (And.intro hds hd1)
       have OJ:=ah harg
       have HB3:=ah ((hf.block _ HP3.out).trans HB3.out)
       clear hds hd1 ho1 hf harg
       refine hK.out _ _ ?_ (fun _=> ?_)
       focus (exact ⟨HD.out.st,HD.out.x.box⟩)
       clear hK K
       try simp only [Act.put,sA,sC,sB]
       refine aY (by kernel_rfl) (fun d _ _ _ _ h=> by cases d <;> exact h) [4,5,6,7] 3 _ _ _ ?_ _ (by rfl) (by kernel_rfl) ?_ (by exact ⟨HD.out.st,HD.out.x.box⟩) ?_
       rotate_left
       focus
        simp only [aK,tA,tB,tC,tD]
        (refine Ai ?_;try simp only [Act.put,sA,sC,sB])
        (refine Ai ?_;try simp only [Act.put,sA,sC,sB])
        (refine Ai ?_;try simp only [Act.put,sA,sC,sB])
        (refine Ai ?_;try simp only [Act.put,sA,sC,sB])
        exact Takes.done
       refine bK 9 (fuel:=2) (by kernel_rfl) (by rfl) (fun K hK=> ?_)
       simp only [aK,tA,tB,tC,tD,fV]
       rw [if_pos (by rfl)]
       refine Bg 57 _ _ rfl ds.toList ds rfl rfl HB3.out rfl (by rw [Array.length_toList,Vs.out.1];exact J3) (by rw [Array.length_toList,Vs.out.1];exact Nat.le_refl 13) Vs.out.2 (pV (by rw [Vs.out.1];rfl)) ?_
       have HD:=ah (HD.out.put ds RY.out)
       refine hK.out _ _ ?_ (fun _=> ?_)
       focus (exact ⟨HD.out.st,HD.out.x.box⟩)
       clear hK K
       try simp only [Act.put,sA,sC,sB]
       refine aY (by kernel_rfl) (fun d _ _ _ _ h=> by cases d <;> exact h) [10,11] 0 _ _ _ ?_ _ (by rfl) (by kernel_rfl) ?_ (by exact ⟨HD.out.st,HD.out.x.box⟩) ?_
       rotate_left
       focus
        simp only [aK,tA,tB,tC,tD]
        (refine Ai ?_;try simp only [Act.put,sA,sC,sB])
        (refine Ai ?_;try simp only [Act.put,sA,sC,sB])
        exact Takes.done
       refine wpAnyH_done (by kernel_rfl) ?_ _
       go_wp2_with fail
       go_meet
       exact ⟨n1,rfl,ah HD.out.x,OJ⟩
     case rest=>
      clear HL2 HH HP HV HSC
      obtain ⟨n,rfl,HX,OJ⟩:=hcut
      go_upto_region 13 with fail
      cases c with
      | false=>
       obtain ⟨rfl,rfl⟩:=OJ.out (.inl fun h=> by have:=HCR.out.2 h;cases this)
       refine wp_region_lit ?_
       refine iC (by rfl) _ rfl (.agg (bW a fv uv)) (dB (.tmp 2) rfl rfl HX.out.box rfl) ?_
       simp only [Act.put,sA,sB,sC]
       refine g_call (by rfl) rfl Tryz.call8 _ rfl (vals:= #[.agg (bW a fv uv)]) (by go_simp;try rfl) (jv HCC.out (HX.out.inv HI.out) (HX.out.rel HF.out) (HX.out.rel HU.out)) ?_
       rintro r W36 ⟨rfl,hb⟩
       refine ⟨_,rfl,?_⟩
       have HX:=ah (HX.out.next hb)
       clear hb
       simp only [Act.put,sA,sB,sC]
       refine bV ?_
       simp only [Act.put,sA,sB,sC]
       refine bV ?_
       simp only [Act.put,sA,sB,sC]
       refine aW ?_
       simp only [Act.put,sA,sB,sC]
       refine aW ?_
       simp only [Act.put,sA,sB,sC]
       refine aW ?_
       simp only [Act.put,sA,sB,sC]
       refine aW ?_
       simp only [Act.put,sA,sB,sC]
       refine aW ?_
       simp only [Act.put,sA,sB,sC]
       refine aW ?_
       simp only [Act.put,sA,sB,sC]
       refine aW ?_
       simp only [Act.put,sA,sB,sC]
       refine aW ?_
       simp only [Act.put,sA,sB,sC]
       refine aW ?_
       simp only [Act.put,sA,sB,sC]
       refine aW ?_
       simp only [Act.put,sA,sB,sC]
       refine bV ?_
       simp only [Act.put,sA,sB,sC]
       refine wpList_nil ?_
       go_upto_region 14 with fail
       refine wp_region_lit ?_
       refine bV ?_
       simp only [Act.put,sA,sB,sC]
       refine bV ?_
       simp only [Act.put,sA,sB,sC]
       refine iR ?_
       simp only [Act.put,sA,sB,sC]
       refine iR ?_
       simp only [Act.put,sA,sB,sC]
       refine bV ?_
       simp only [Act.put,sA,sB,sC]
       refine bV ?_
       simp only [Act.put,sA,sB,sC]
       refine iR ?_
       simp only [Act.put,sA,sB,sC]
       refine iR ?_
       simp only [Act.put,sA,sB,sC]
       refine iR ?_
       simp only [Act.put,sA,sB,sC]
       refine bV ?_
       simp only [Act.put,sA,sB,sC]
       refine bV ?_
       simp only [Act.put,sA,sB,sC]
       refine wpList_nil ?_
       go_wp2_with fail
       go_ret
       exact ⟨rfl,HX.out.below⟩
      | true=>
       refine wp_region_lit ?_
       refine iC (by rfl) _ rfl (.agg (bW a fv uv)) (dB (.tmp 2) rfl rfl HX.out.box rfl) ?_
       simp only [Act.put,sA,sB,sC]
       refine g_call (by rfl) rfl Tryz.call8 _ rfl (vals:= #[.agg (bW a fv uv)]) (by go_simp;try rfl) (jv HCC.out (HX.out.inv HI.out) (HX.out.rel HF.out) (HX.out.rel HU.out)) ?_
       rintro r W37 ⟨rfl,hb⟩
       refine ⟨_,rfl,?_⟩
       have HX:=ah (HX.out.next hb)
       clear hb
       simp only [Act.put,sA,sB,sC]
       refine bV ?_
       simp only [Act.put,sA,sB,sC]
       refine bV ?_
       simp only [Act.put,sA,sB,sC]
       have c0:=cell_of_row _ _ 0 _ 37 (0,0) HX.out.box
       rw [show (bW a fv uv)[0]? =some (.int .i64 a.Kind) from rfl] at c0
       by_cases hk:a.Kind=0
       ·have d0:(a.Kind==0)=true:=by simp [hk]
        have hacc:0≤a.Raw.Account∧a.Raw.Account≤1999:=by
         have hr:=(HCR.out.1 rfl).1
         rw [show okB a=dH a.Raw by unfold okB;rw [hk];rfl,iw] at hr
         have hr:=Option.some.inj hr
         unfold vO at hr
         rw [Bool.and_eq_true,decide_eq_true_eq] at hr
         exact hr.1.1
        have HNE:=ah (ajt hacc)
        have HKK:=ah hk
        clear hk hacc
        have c5:=cell_of_row _ _ 5 _ 37 (0,0) HX.out.box
        rw [show (bW a fv uv)[5]? =some (.int .i64 a.Raw.Account) from rfl] at c5
        refine iR ?_
        simp only [Act.put,sA,sB,sC]
        refine iR ?_
        simp only [Act.put,sA,sB,sC]
        refine iR ?_
        simp only [Act.put,sA,sB,sC]
        refine iR ?_
        simp only [Act.put,sA,sB,sC]
        refine iR ?_
        simp only [Act.put,sA,sB,sC]
        refine iR ?_
        simp only [Act.put,sA,sB,sC]
        refine iR ?_
        simp only [Act.put,sA,sB,sC]
        refine g_call (by rfl) rfl Tryz.call13 _ rfl (vals:= #[.int .i64 a.Raw.Account]) (by go_simp;try rfl) (aju HNE.out (HX.out.inv HI.out)) ?_
        rintro r W38 ⟨rfl,hb⟩
        refine ⟨_,rfl,?_⟩
        have HX:=ah (HX.out.next hb)
        clear hb
        simp only [Act.put,sA,sB,sC]
        by_cases h12:1 < a.Raw.Account % 12
        ·have d1:decide (1 < a.Raw.Account % 12)=true:=decide_eq_true h12
         refine iR ?_
         simp only [Act.put,sA,sB,sC]
         refine iR ?_
         simp only [Act.put,sA,sB,sC]
         refine bV ?_
         simp only [Act.put,sA,sB,sC]
         obtain ⟨rfl,rfl⟩:=OJ.out (.inr (.inr ⟨HKK.out,by omega⟩))
         refine wpList_nil ?_
         go_upto_region 14 with fail
         refine wp_region_lit ?_
         refine bV ?_
         simp only [Act.put,sA,sB,sC]
         refine bV ?_
         simp only [Act.put,sA,sB,sC]
         refine iR ?_
         simp only [Act.put,sA,sB,sC]
         refine iR ?_
         simp only [Act.put,sA,sB,sC]
         refine bV ?_
         simp only [Act.put,sA,sB,sC]
         refine bV ?_
         simp only [Act.put,sA,sB,sC]
         refine iR ?_
         simp only [Act.put,sA,sB,sC]
         refine iR ?_
         simp only [Act.put,sA,sB,sC]
         refine iR ?_
         simp only [Act.put,sA,sB,sC]
         refine bV ?_
         simp only [Act.put,sA,sB,sC]
         refine bV ?_
         simp only [Act.put,sA,sB,sC]
         refine wpList_nil ?_
         go_wp2_with fail
         go_ret
         exact ⟨rfl,HX.out.below⟩
        ·have d1:decide (1 < a.Raw.Account % 12)=false:=decide_eq_false h12
         refine iR ?_
         simp only [Act.put,sA,sB,sC]
         refine iR ?_
         simp only [Act.put,sA,sB,sC]
         refine bV ?_
         simp only [Act.put,sA,sB,sC]
         refine wpList_nil ?_
         go_wp2_with fail
         go_ret
         exact ⟨rfl,HX.out.below⟩
       ·have d0:(a.Kind==0)=false:=by simp [hk]
        refine iR ?_
        simp only [Act.put,sA,sB,sC]
        refine iR ?_
        simp only [Act.put,sA,sB,sC]
        refine iR ?_
        simp only [Act.put,sA,sB,sC]
        refine iR ?_
        simp only [Act.put,sA,sB,sC]
        refine aW ?_
        simp only [Act.put,sA,sB,sC]
        refine aW ?_
        simp only [Act.put,sA,sB,sC]
        refine aW ?_
        simp only [Act.put,sA,sB,sC]
        refine aW ?_
        simp only [Act.put,sA,sB,sC]
        refine aW ?_
        simp only [Act.put,sA,sB,sC]
        refine iR ?_
        simp only [Act.put,sA,sB,sC]
        refine bV ?_
        simp only [Act.put,sA,sB,sC]
        refine wpList_nil ?_
        go_wp2_with fail
        go_ret
        exact ⟨rfl,HX.out.below⟩
end Go.Proofs.YtnegekppaoedgaaGreatDoor

/-
The law's walk: all calls of both stores, side by side.
-/
import Derived.Test.YtmgcnoigihdhpaaGreatDoorQ19
import Derived.Deep.DeepCutAuto
import Derived.Deep.CutBlock
namespace Go.Proofs.YtmgcnoigihdhpaaGreatDoor
open Go.RowKit Go.Maps Go.Shelf
theorem load26 {W:World} {b:Nat} {C:Array Value} (h:W.heap[b]? =some (.cells C 26 (0,0))) (hC:C.size=22):(Instr.loadAt 26 (.pointer (some ⟨b,0,none⟩))).run Tryz.prog W= .ok (.agg C) W:=by
 have hr:W.rangeAt b 0 C.toList:=fun j v hv=> by
  rw [cell_of_row _ _ _ C 26 (0,0) h,Nat.zero_add,←hv]
  simp
 have:=run_loadAt_mid W b 0 26 C.toList _ hr Tryz.underlying26 rfl (by rw [Array.length_toList,hC];kernel_rfl)
 simpa using this
theorem e_load26 {o:Oper} {a:Act} {W:World} (x:Operand) (ho:o.op= .load 26 x) {C:Array Value} {b:Nat} (hx:a.eval x= .pointer (some ⟨b,0,none⟩)) (h:W.heap[b]? =some (.cells C 26 (0,0))) (hC:C.size=22):(execOp a.eval o).run Tryz.prog W= .ok (.value (.agg C)) W:=by
 unfold execOp
 simp only [ho,hx,Sem.run_bind,load26 h hC,Result.andThen_ok,Sem.run_pure]
section
variable {P : Program} {ops : Array Oper} {rest : List Oper} {o : Oper} {a : Act} {w : World} {Q : Exit → Act → World → Prop}
theorem g_want (hw:Region.wanted o (yielded ops a.tmps)=true) (h:∀K:Act→World→Prop,(∀a w,wpList P ops Q rest a w→K a w)→o.wp P a w K Q):wpList P ops Q (o::rest) a w:=
 wpList_step fun K hK=> by rw [if_pos hw];exact h K hK
theorem g_read (hw:Region.wanted o (yielded ops a.tmps)=true) (dst:Option Tmp) (hdst:o.dst=dst) (v:Value) (hrun:(execOp a.eval o).run P w= .ok (.value v) w) (h:wpList P ops Q rest (a.put dst v) w):wpList P ops Q (o::rest) a w:=
 g_want hw fun K hK=> by
  unfold Oper.wp
  rw [hrun]
  exact hK _ _ (hdst ▸ h)
theorem g_call (hw:Region.wanted o (yielded ops a.tmps)=true) {fid:FuncId} {args:Array Operand} {ts:Array TypeId} (ho:o.op= .call ⟨.value (.func fid),args,ts⟩) (hcf:∀(vs:Array Value) (w:World),(callFunc fid vs).run P w= .ok (.enter fid vs) w) (dst:Option Tmp) (hdst:o.dst=dst) {vals:Array Value} (hv:args.map a.eval=vals)
  {R:Ending→World→Prop} (hc:Calls P fid vals w R) (hR:∀e w',R e w'→∃v,e= .returned v∧wpList P ops Q rest (a.put dst v) w'):wpList P ops Q (o::rest) a w:=
 g_want hw fun K hK=> by
  have hrun:(execOp a.eval o).run P w= .ok (.enter fid vals) w:=by
   unfold execOp
   simp only [ho]
   show (callFunc fid (#[] ++ args.map a.eval ++ #[])).run P w=_
   rw [hv,Array.empty_append,Array.append_empty]
   exact hcf _ _
  unfold Oper.wp
  rw [hrun]
  show Calls P _ _ w _
  refine hc.mono ?_
  intro e w' h
  obtain ⟨v,rfl,h2⟩:=hR e w' h
  exact hK _ _ (hdst ▸ h2)
end
theorem rgT {P:Program} {ops:Array Oper} {rest:List Oper} {o:Oper} {a:Act} {w:World} {Q:Exit→Act→World→Prop} {dst:Option Tmp} {v:Value} (h:wpList P ops Q rest (a.put dst v) w) (hw:Region.wanted o (yielded ops a.tmps)=true:=by rfl) (hdst:o.dst=dst:=by rfl) (hrun:(execOp a.eval o).run P w= .ok (.value v) w:=by go_simp;first | done | with_reducible rfl):wpList P ops Q (o::rest) a w:=g_read hw dst hdst v hrun h
theorem cells34 {W:World} {b:Nat} {o:linguaref38_Op} (h:W.heap[b]? =some (.cells #[.int .i64 o.Do,.int .i64 o.Tenant,.int .i64 o.Name,.string o.Text] 34 (0,0))):W.cell? ⟨b,0,none⟩=some (.int .i64 o.Do)∧W.cell? ⟨b,1,none⟩=some (.int .i64 o.Tenant)∧W.cell? ⟨b,2,none⟩=some (.int .i64 o.Name)∧W.cell? ⟨b,3,none⟩=some (.string o.Text):=by
 have v:∀j x,(#[.int .i64 o.Do,.int .i64 o.Tenant,.int .i64 o.Name,.string o.Text]:Array Value)[j]? =some x→W.cell? ⟨b,j,none⟩=some x:=fun j x hx=> by rw [cell_of_row _ _ _ _ 34 (0,0) h,hx]
 exact ⟨v 0 _ rfl,v 1 _ rfl,v 2 _ rfl,v 3 _ rfl⟩
structure Base26 (w:World) (C:Array Value) (B:Nat) (W:World):Prop where
 below:Below w.heap.size w W
 box:W.heap[w.heap.size]? =some (.cells C 26 (0,0))
 lt:w.heap.size < B
 le:B≤W.heap.size
section
variable {w W W' : World} {B : Nat} {C : Array Value}
theorem Base26.next (h:Base26 w C B W) (hb:Below B W W'):Base26 w C B W':=⟨h.below.trans (hb.mono (Nat.le_of_lt h.lt)),(hb.block _ h.lt).trans h.box,h.lt,Nat.le_trans h.le hb.size⟩
theorem Base26.next' (h:Base26 w C B W) (hb:Below W.heap.size W W'):Base26 w C B W':=h.next (hb.mono h.le)
theorem Base26.at_ (h:Base26 w C B W):Base26 w C W.heap.size W:=⟨h.below,h.box,Nat.lt_of_lt_of_le h.lt h.le,Nat.le_refl _⟩
theorem Base26.inv (h:Base26 w C B W) (hI:Inv w):Inv W:=inv_below hI h.below
theorem Base26.rel (h:Base26 w C B W) {x:D} {v:Value} (hx:RelD (fun b=> b < w.heap.size) w x v):RelD (fun b=> b < w.heap.size) W x v:=relD_below (fun _ h=> h) hx h.below
theorem Base26.old (h:Base26 w C B W):∀b,b < w.heap.size→b < W.heap.size:=fun _ hb=> Nat.lt_trans hb (Nat.lt_of_lt_of_le h.lt h.le)
end
structure LS (w:World) (C:Array Value) (B n m:Nat) (Ta To:Nat→Ten) (eb:Nat) (o:linguaref38_Op) (W:World):Prop where
 base:Base26 w C B W
 two:Two B n m Ta To W
 obox:W.heap[eb]? =some (.cells #[.int .i64 o.Do,.int .i64 o.Tenant,.int .i64 o.Name,.string o.Text] 34 (0,0))
 eb_le:B + 28≤eb
section
variable {w W W' : World} {B n m eb : Nat} {C : Array Value} {Ta To : Nat → Ten} {o : linguaref38_Op}
theorem LS.lt (h:LS w C B n m Ta To eb o W):eb < W.heap.size:=(Array.getElem?_eq_some_iff.1 h.obox).1
theorem LS.next (h:LS w C B n m Ta To eb o W) (hb:Below W.heap.size W W'):LS w C B n m Ta To eb o W':=⟨h.base.next' hb,h.two.below hb,(hb.block _ h.lt).trans h.obox,h.eb_le⟩
theorem LS.step (h:LS w C B n m Ta To eb o W) {n' m':Nat} {Ta' To':Nat→Ten} (ht:Two B n' m' Ta' To' W') (hb:Below B W W') (hk:∀k,B + 28≤k→k < W.heap.size→W'.heap[k]? =W.heap[k]?):LS w C B n' m' Ta' To' eb o W':=⟨h.base.next hb,ht,(hk _ h.eb_le h.lt).trans h.obox,h.eb_le⟩
theorem LS.cells (h:LS w C B n m Ta To eb o W) {p:api_Profile} {tv:Value} (hC:pcells p tv=C):W.cell? ⟨eb,0,none⟩=some (.int .i64 o.Do)∧W.cell? ⟨eb,1,none⟩=some (.int .i64 o.Tenant)∧W.cell? ⟨eb,2,none⟩=some (.int .i64 o.Name)∧W.cell? ⟨eb,3,none⟩=some (.string o.Text)∧W.cell? ⟨w.heap.size,12,none⟩=some tv:=by
 obtain ⟨f0,f1,f2,f3⟩:=cells34 h.obox
 exact ⟨f0,f1,f2,f3,by rw [cell_of_row _ _ _ C 26 (0,0) h.base.box,←hC];rfl⟩
end
set_option maxRecDepth 100000 in
set_option maxHeartbeats 8000000 in
theorem law_walk (w:World) (hI:Inv w) (l:List linguaref38_Op) (cs:List api_Change) (kind:ByteArray) (p:api_Profile) (x:Int) (hQ:∀o∈l,inI o.Name) (lv cv tv:Value) (hl:RelD (fun b=> b < w.heap.size) w (.fz (l.map linguaref38_Op.enc)) lv) (hc:RelD (fun b=> b < w.heap.size) w (.fz (cs.map api_Change.enc)) cv) (ht:RelD (fun b=> b < w.heap.size) w (.fz (p.Types.map encS)) tv):
  Calls Tryz.prog 3 #[lv,cv,.string kind,.agg (pcells p tv),.int .i64 x] w fun e W=> e= .returned (.bool true)∧Below w.heap.size w W:=by
 obtain ⟨la,lc,rfl,hop⟩:=op_slice (fun _ h=> h) hl
 have HOP:=Lib.hid hop
 clear hop
 obtain ⟨r5,h5,q5⟩:=few38 l
 obtain ⟨r6,h6,q6⟩:=few39 cs kind
 obtain ⟨r7,h7,q7⟩:=few13 p
 have HI:=Lib.hid hI
 have HL:=Lib.hid hl
 have HC:=Lib.hid hc
 have HT:=Lib.hid ht
 have HQ:=Lib.hid hQ
 have H5:=Lib.hid h5
 have H6:=Lib.hid h6
 have H7:=Lib.hid h7
 have Q5:=Lib.hid q5
 have Q6:=Lib.hid q6
 have Q7:=Lib.hid q7
 clear hI hl hc ht hQ h5 h6 h7 q5 q6 q7
 have HPC:Hid ((pcells p tv).size=22):=Lib.hid rfl
 generalize hpc:pcells p tv=C at *
 have HCE:=Lib.hid hpc
 clear hpc
 generalize hlm:l.length=lm at *
 have HLM:=Lib.hid hlm
 clear hlm
 go_enter Tryz.func3,Tryz.ntmps3
 go_upto_region 1 with fail
 have HX1:Hid (Base26 w C (w.heap.size + 1) (w.alloc (.cells C 26))):=Lib.hid ⟨below_alloc w _,heap_alloc_new w _,by omega,by simp⟩
 generalize w.alloc (.cells C 26)=W1 at HX1 ⊢
 go_upto_region 2 with (go_at_call 4;refine (head_says (HX1.out.inv HI.out)).mono ?_;rintro r W2 ⟨rfl,hb2⟩;have HX2:=Lib.hid (HX1.out.next' hb2);clear hb2)
 cases r5 with
 | false=>
  go_upto_region 3 with (go_at_call 5;refine (fn_bool (ref38_Few_fn H5.out) (HX2.out.inv HI.out) HX2.out.old (.cons (.d (HX2.out.rel HL.out)) (.cons (.d (.v _ rfl)) (.nil _)))).mono ?_;rintro r W3 ⟨rfl,hb⟩;have HX3:=Lib.hid (HX2.out.next' hb);clear hb)
  go_wp2_with fail
  go_ret
  exact ⟨rfl,HX3.out.below⟩
 | true=>
  cases r6 with
  | false=>
   go_upto_region 3 with (first | (go_at_call 5;refine (fn_bool (ref38_Few_fn H5.out) (HX2.out.inv HI.out) HX2.out.old (.cons (.d (HX2.out.rel HL.out)) (.cons (.d (.v _ rfl)) (.nil _)))).mono ?_;rintro r W3 ⟨rfl,hb⟩;have HX3:=Lib.hid (HX2.out.next' hb);clear hb) | (go_at_call 6;refine (fn_bool (ref39_Few_fn H6.out) (HX3.out.inv HI.out) HX3.out.old (.cons (.d (HX3.out.rel HC.out)) (.cons (.d (.v _ rfl)) (.cons (.d (.fz0 none 0 fun _=> rfl)) (.nil _))))).mono ?_;rintro r W4 ⟨rfl,hb⟩;have HX4:=Lib.hid (HX3.out.next' hb);clear hb))
   go_wp2_with fail
   go_ret
   exact ⟨rfl,HX4.out.below⟩
  | true=>
   refine wp_region_lit ?_
   (refine rdT ?_;simp only [Act.put,sA,sB,sC])
   refine g_call (by rfl) rfl Tryz.call5 _ rfl (vals:= #[.slice la lm lc,.int .i64 40]) (by go_simp;try rfl) (fn_bool (ref38_Few_fn H5.out) (HX2.out.inv HI.out) HX2.out.old (.cons (.d (HX2.out.rel HL.out)) (.cons (.d (.v _ rfl)) (.nil _)))) ?_;rintro r W3 ⟨rfl,hb⟩;refine ⟨_,rfl,?_⟩;have HX3:=Lib.hid (HX2.out.next' hb);clear hb
   (simp only [Act.put,sA,sB,sC])
   (refine rdT ?_;simp only [Act.put,sA,sB,sC])
   (refine rdT ?_;simp only [Act.put,sA,sB,sC])
   (refine rgT ?_;simp only [Act.put,sA,sB,sC])
   (refine rgT ?_;simp only [Act.put,sA,sB,sC])
   refine g_call (by rfl) rfl Tryz.call6 _ rfl (vals:= #[cv,.string kind,.slice none 0 0]) (by go_simp;try rfl) (fn_bool (ref39_Few_fn H6.out) (HX3.out.inv HI.out) HX3.out.old (.cons (.d (HX3.out.rel HC.out)) (.cons (.d (.v _ rfl)) (.cons (.d (.fz0 none 0 fun _=> rfl)) (.nil _))))) ?_;rintro r W4 ⟨rfl,hb⟩;refine ⟨_,rfl,?_⟩;have HX4:=Lib.hid (HX3.out.next' hb);clear hb
   (simp only [Act.put,sA,sB,sC])
   (refine rgT ?_;simp only [Act.put,sA,sB,sC])
   (refine rdT ?_;simp only [Act.put,sA,sB,sC])
   (refine rdT ?_;simp only [Act.put,sA,sB,sC])
   refine g_read (by rfl) _ rfl (.agg C) (e_load26 (.tmp 8) rfl rfl HX4.out.box HPC.out) ?_
   (simp only [Act.put,sA,sB,sC])
   refine g_call (by rfl) rfl Tryz.call7 _ rfl (vals:= #[.agg C]) (by go_simp;try rfl) (fn_bool (ref13_Few_fn H7.out) (HX4.out.inv HI.out) HX4.out.old (.cons (by rw [←HCE.out];exact prof_rel (HX4.out.rel HT.out)) (.nil _))) ?_;rintro r W5 ⟨rfl,hb⟩;refine ⟨_,rfl,?_⟩;have HX5:=Lib.hid (HX4.out.next' hb);clear hb
   (simp only [Act.put,sA,sB,sC])
   (refine rgT ?_;simp only [Act.put,sA,sB,sC])
   (refine rdT ?_;simp only [Act.put,sA,sB,sC])
   refine wpList_nil ?_
   cases r7 with
   | false=>
    go_wp2_with fail
    go_ret
    exact ⟨rfl,HX5.out.below⟩
   | true=>
    have HB5:=Lib.hid (Q5.out rfl)
    have HB6:=Lib.hid (Q6.out rfl)
    have HB7:=Lib.hid (Q7.out rfl)
    clear H5 H6 H7 Q5 Q6 Q7 HX1 HX2 HX3 HX4
    go_upto_region 5 with (go_at_call 8;refine (new_walk _).mono ?_;rintro r W6 ⟨rfl,hn⟩;have HN1:=Lib.hid hn;clear hn)
    go_upto_region 6 with (go_at_call 8;refine (new_walk _).mono ?_;rintro r W7 ⟨rfl,hn⟩;have HN2:=Lib.hid hn;clear hn)
    have HTW:=Lib.hid (two_new HN1.out HN2.out).1
    have HX:=Lib.hid (HX5.out.at_.next (two_new HN1.out HN2.out).2)
    have e6:W6.heap.size=W5.heap.size + 14:=by
     have h1:=HN1.out.size
     omega
    rw [e6]
    clear HN1 HN2 e6 HX5
    generalize W5.heap.size=B at HTW HX ⊢
    go_wp2_with fail
    go_loopg [14] lm (fun q y W=> ∃(i n m:Nat) (Ta To:Nat→Ten),i + q=lm∧y= .int .i64 i∧Hid (Two B n m Ta To W∧Ag x Ta To∧Fit p Ta∧n≤i * 10000∧m≤i * 10000)∧Hid (Base26 w C B W))
    case atStart=> exact ⟨0,0,0,T0,T0,by omega,rfl,Lib.hid ⟨HTW.out,fun _=> rfl,fit0 p,by omega,by omega⟩,HX⟩
    case round=>
     clear HTW HX
     obtain ⟨i,n,m,Ta,To,hi,rfl,HTW,HX⟩:=hrel
     by_cases hlt:i < lm
     ·obtain ⟨o,ho⟩:∃o,l[i]? =some o:=⟨_,List.getElem?_eq_getElem (by rw [HLM.out];exact hlt)⟩
      obtain ⟨ob,oo,rfl,hob,k0,k1,k2,k3⟩:=HOP.out i o ho
      have HO:=Lib.hid (List.mem_of_getElem? ho)
      have e0:wr.cell? ⟨ob,oo + i * 4,none⟩=some (.int .i64 o.Do):=by rw [HX.out.below.cell (p:=⟨ob,oo + i * 4,none⟩) hob];exact k0
      have e1:wr.cell? ⟨ob,oo + i * 4 + 1,none⟩=some (.int .i64 o.Tenant):=by rw [HX.out.below.cell (p:=⟨ob,oo + i * 4 + 1,none⟩) hob];exact k1
      have e2:wr.cell? ⟨ob,oo + i * 4 + 2,none⟩=some (.int .i64 o.Name):=by rw [HX.out.below.cell (p:=⟨ob,oo + i * 4 + 2,none⟩) hob];exact k2
      have e3:wr.cell? ⟨ob,oo + i * 4 + 3,none⟩=some (.string o.Text):=by rw [HX.out.below.cell (p:=⟨ob,oo + i * 4 + 3,none⟩) hob];exact k3
      clear k0 k1 k2 k3 hob ho
      go_upto_region 12 with fail
      have HS:Hid (LS w C B n m Ta To wr.heap.size o (wr.alloc (.cells #[.int .i64 o.Do,.int .i64 o.Tenant,.int .i64 o.Name,.string o.Text] 34))):=Lib.hid ⟨HX.out.next' (below_alloc wr (.cells #[.int .i64 o.Do,.int .i64 o.Tenant,.int .i64 o.Name,.string o.Text] 34)),HTW.out.1.below (below_alloc wr (.cells #[.int .i64 o.Do,.int .i64 o.Tenant,.int .i64 o.Name,.string o.Text] 34)),heap_alloc_new wr _,HTW.out.1.le⟩
      have HAG:=Lib.hid HTW.out.2.1
      have HFIT:=Lib.hid HTW.out.2.2.1
      have HNM:=Lib.hid HTW.out.2.2.2
      clear e0 e1 e2 e3 HX HTW
      generalize wr.alloc (.cells #[.int .i64 o.Do,.int .i64 o.Tenant,.int .i64 o.Name,.string o.Text] 34)=W1 at HS ⊢
      generalize wr.heap.size=eb at HS ⊢
      obtain ⟨f0,f1,f2,f3,c12⟩:=HS.out.cells HCE.out
      have HOB:=Lib.hid (HB5.out.2 o HO.out)
      have HOQ:=Lib.hid (HQ.out o HO.out)
      have HI40:Hid (i < 40):=Lib.hid (by have:=HB5.out.1;omega)
      have hi6:i < 1000000:=by have:=HI40.out;omega
      go_upto_block 2 with fail
      generalize hmb:(o.Tenant==x)=mine
      have HMB:=Lib.hid hmb
      clear hmb
      go_cut [] (fun W=> ∃(n' m':Nat) (Ta' To':Nat→Ten),Hid (LS w C B n' m' Ta' To' eb o W)∧Hid (Ag x Ta' To')∧Hid (Fit p Ta')∧Hid (n'≤(i + 1) * 10000∧m'≤(i + 1) * 10000))
      case first=>
       cases hd0:(o.Do==0) with
       | true=>
        as_aux_lemma=>
         go_upto_region 16 with (go_at_call 9;refine (path_walk (fun b=> b < w.heap.size) W1 (HS.out.base.inv HI.out) HS.out.base.old cs cv (HS.out.base.rel HC.out) kind p.Types tv (HS.out.base.rel HT.out) _ HB6.out.1 HB6.out.2.1 HB6.out.2.2 (by have:=HB7.out.1;omega)).mono ?_;rintro r W8 ⟨wv,ws,bl,ok,rfl,hb,hin,hlen,hbl⟩;have HS8:=Lib.hid (HS.out.next hb);have HIN:=Lib.hid hin;have HLN:=Lib.hid hlen;have HBL:=Lib.hid hbl;clear hb hin hlen hbl f0 f1 f2 f3 c12;obtain ⟨f0,f1,f2,f3,c12⟩:=HS8.out.cells HCE.out)
         obtain ⟨ld,hld⟩:=lead_total cs kind ws (o.Text.size:Int) (by have:=HLN.out;omega)
         have HLD:=Lib.hid hld
         clear hld HS
         go_upto_region 17 with (go_at_call 10;refine (fn_pair (A:=fun b=> b < W8.heap.size) (ref39_Lead_fn HLD.out) (HS8.out.base.inv HI.out) (fun _ h=> h) (.cons (.d ((HS8.out.base.rel HC.out).mono HS8.out.base.old fun _ _=> rfl)) (.cons (.d (.v _ rfl)) (.cons (.d (HIN.out.relD.mono (fun b hb=> (HBL.out b hb).2) fun _ _=> rfl)) (.cons (.d (.v _ rfl)) (.nil _)))))).mono ?_;rintro r W9 ⟨rfl,hb⟩;have HS9:=Lib.hid (HS8.out.next hb);clear hb f0 f1 f2 f3 c12;obtain ⟨f0,f1,f2,f3,c12⟩:=HS9.out.cells HCE.out)
         clear HS8 HIN HLN HBL HLD
         obtain ⟨l1,l2⟩:=ld
         cases ok with
         | false=>
          go_wp2_with fail
          go_roundg (gk - 1)
          case measure=> omega
          exact ⟨i + 1,n,m,Ta,To,by omega,by rw [Int.natCast_add];rfl,Lib.hid ⟨HS9.out.two,HAG.out,HFIT.out,by have:=HNM.out;omega,by have:=HNM.out;omega⟩,Lib.hid HS9.out.base⟩
         | true=>
          cases l2 with
          | false=>
           go_wp2_with fail
           go_roundg (gk - 1)
           case measure=> omega
           exact ⟨i + 1,n,m,Ta,To,by omega,by rw [Int.natCast_add];rfl,Lib.hid ⟨HS9.out.two,HAG.out,HFIT.out,by have:=HNM.out;omega,by have:=HNM.out;omega⟩,Lib.hid HS9.out.base⟩
          | true=>
           obtain ⟨ft,hft,hfq⟩:=fits_total p l1 (o.Text.size:Int) (by have:=HB7.out.1;omega)
           have HFT:=Lib.hid hft
           have HFQ:=Lib.hid hfq
           clear hft hfq
           refine wp_region_lit ?_
           (refine rdT ?_;simp only [Act.put,sA,sB,sC])
           (refine rdT ?_;simp only [Act.put,sA,sB,sC])
           (refine rdT ?_;simp only [Act.put,sA,sB,sC])
           (refine rgT ?_;simp only [Act.put,sA,sB,sC])
           (refine rgT ?_;simp only [Act.put,sA,sB,sC])
           (refine rdT ?_;simp only [Act.put,sA,sB,sC])
           (refine rdT ?_;simp only [Act.put,sA,sB,sC])
           refine g_read (by rfl) _ rfl (.agg C) (e_load26 (.tmp 8) rfl rfl HS9.out.base.box HPC.out) ?_
           (simp only [Act.put,sA,sB,sC])
           (refine rgT ?_;simp only [Act.put,sA,sB,sC])
           (refine rgT ?_;simp only [Act.put,sA,sB,sC])
           (refine rgT ?_;simp only [Act.put,sA,sB,sC])
           (refine rgT ?_;simp only [Act.put,sA,sB,sC])
           refine g_call (by rfl) rfl Tryz.call11 _ rfl (vals:= #[.agg C,.string l1,.int .i64 (o.Text.size:Int)]) (by go_simp;try rfl) (fn_bool (convert_Fits_fn HFT.out) (HS9.out.base.inv HI.out) HS9.out.base.old (.cons (by rw [←HCE.out];exact prof_rel (HS9.out.base.rel HT.out)) (.cons (.d (.v _ rfl)) (.cons (.d (.v _ rfl)) (.nil _))))) ?_;rintro r W10 ⟨rfl,hb⟩;refine ⟨_,rfl,?_⟩;have HS10:=Lib.hid (HS9.out.next hb);clear hb f0 f1 f2 f3 c12;obtain ⟨f0,f1,f2,f3,c12⟩:=HS10.out.cells HCE.out
           (simp only [Act.put,sA,sB,sC])
           (refine rgT ?_;simp only [Act.put,sA,sB,sC])
           (refine rdT ?_;simp only [Act.put,sA,sB,sC])
           refine wpList_nil ?_
           clear HS9 HFT
           cases ft with
           | false=>
            go_wp2_with fail
            go_roundg (gk - 1)
            case measure=> omega
            exact ⟨i + 1,n,m,Ta,To,by omega,by rw [Int.natCast_add];rfl,Lib.hid ⟨HS10.out.two,HAG.out,HFIT.out,by have:=HNM.out;omega,by have:=HNM.out;omega⟩,Lib.hid HS10.out.base⟩
           | true=>
            go_upto_region 19 with (go_at_call 12;refine (HS10.out.two.put_all (by have:=HNM.out;have:=HI40.out;omega) o.Tenant o.Text HOB.out).mono ?_;rintro r W11 ⟨rfl,h2,hb,hk⟩;have HS11:=Lib.hid (HS10.out.step h2 hb hk);clear h2 hb hk f0 f1 f2 f3 c12;obtain ⟨f0,f1,f2,f3,c12⟩:=HS11.out.cells HCE.out)
            clear HS10
            have HFIT2:=Lib.hid (HFIT.out.put o.Tenant (t:=o.Text.data.toList) (by rw [Array.length_toList];have:=HFQ.out (by trivial);exact ⟨this.2,by omega⟩))
            cases mine with
            | true=>
             have HY:Hid (o.Tenant=x):=Lib.hid (by simpa using HMB.out)
             go_upto_region 21 with (go_at_call 12;refine (HS11.out.two.put_mine (by have:=HNM.out;have:=HI40.out;omega) HAG.out o.Tenant HY.out o.Text HOB.out).mono ?_;rintro r W12 ⟨rfl,h2,hb,hk⟩;have HS12:=Lib.hid (HS11.out.step h2 hb hk);clear h2 hb hk)
             have HA12:Hid (Ag x (putT Ta o.Tenant o.Text.data.toList).1 (putT To o.Tenant o.Text.data.toList).1):=Lib.hid (by have h:=(HAG.out.put_same o.Text.data.toList).1;rw [HY.out];exact h)
             generalize (putT Ta o.Tenant o.Text.data.toList).2.1=a1
             generalize (putT Ta o.Tenant o.Text.data.toList).2.2=a2
             have hq1:(a1 !=a1)=false:=by simp
             have hq2:(a2 !=a2)=false:=by simp
             go_wp2_with fail
             go_meet
             exact ⟨n + 10000,m + 10000,(putT Ta o.Tenant o.Text.data.toList).1,(putT To o.Tenant o.Text.data.toList).1,HS12,HA12,HFIT2,Lib.hid (by have:=HNM.out;omega)⟩
            | false=>
             have HY:Hid (o.Tenant≠x):=Lib.hid (by simpa using HMB.out)
             go_wp2_with fail
             go_meet
             exact ⟨n + 10000,m,(putT Ta o.Tenant o.Text.data.toList).1,To,HS11,Lib.hid (HAG.out.put_other HY.out _),HFIT2,Lib.hid (by have:=HNM.out;omega)⟩
       | false=>
        cases hd1:(o.Do==1) with
        | true=>
         as_aux_lemma=>
          go_upto_region 25 with (go_at_call 13;refine (HS.out.two.get_all o.Tenant o.Name HOQ.out).mono ?_;rintro r W8 ⟨rfl,hb⟩;have HS8:=Lib.hid (HS.out.next hb);clear hb f0 f1 f2 f3 c12;obtain ⟨f0,f1,f2,f3,c12⟩:=HS8.out.cells HCE.out)
          clear HS
          cases mine with
          | true=>
           have HY:Hid (o.Tenant=x):=Lib.hid (by simpa using HMB.out)
           go_upto_region 26 with (go_at_call 13;refine (HS8.out.two.get_mine HAG.out o.Tenant HY.out o.Name HOQ.out).mono ?_;rintro r W9 ⟨rfl,hb⟩;have HS9:=Lib.hid (HS8.out.next hb);clear hb)
           generalize (getOf Ta o.Tenant o.Name).1.toArray=a1
           generalize (getOf Ta o.Tenant o.Name).2=a2
           have hq1:(a1.toList !=a1.toList)=false:=by simp
           have hq2:(a2 !=a2)=false:=by simp
           go_wp2_with fail
           go_meet
           exact ⟨n,m,Ta,To,HS9,HAG,HFIT,Lib.hid (by have:=HNM.out;omega)⟩
          | false=>
           have HY:Hid (o.Tenant≠x):=Lib.hid (by simpa using HMB.out)
           go_upto_region 26 with (go_at_call 13;refine (HS8.out.two.get_own o.Tenant o.Name HOQ.out).mono ?_;rintro r W9 ⟨rfl,hb⟩;have HS9:=Lib.hid (HS8.out.next hb);clear hb)
           go_wp2_with fail
           go_meet
           exact ⟨n,m,Ta,To,HS9,HAG,HFIT,Lib.hid (by have:=HNM.out;omega)⟩
        | false=>
         cases hd2:(o.Do==2) with
         | true=>
          as_aux_lemma=>
           go_upto_region 30 with (go_at_call 14;refine (HS.out.two.drop_all (by have:=HNM.out;have:=HI40.out;omega) o.Tenant o.Name HOQ.out).mono ?_;rintro r W8 ⟨rfl,h2,hb,hk⟩;have HS8:=Lib.hid (HS.out.step h2 hb hk);clear h2 hb hk f0 f1 f2 f3 c12;obtain ⟨f0,f1,f2,f3,c12⟩:=HS8.out.cells HCE.out)
           clear HS
           have HFIT2:=Lib.hid (HFIT.out.drop o.Tenant o.Name)
           cases mine with
           | true=>
            have HY:Hid (o.Tenant=x):=Lib.hid (by simpa using HMB.out)
            have hq2:((dropT Ta o.Tenant o.Name).2 !=(dropT Ta o.Tenant o.Name).2)=false:=by simp
            have HA12:Hid (Ag x (dropT Ta o.Tenant o.Name).1 (dropT To o.Tenant o.Name).1):=Lib.hid (by have h:=(HAG.out.drop_same o.Name).1;rw [HY.out];exact h)
            go_wp2_with (go_at_call 14;refine (HS8.out.two.drop_mine (by have:=HNM.out;have:=HI40.out;omega) HAG.out o.Tenant HY.out o.Name HOQ.out).mono ?_;rintro r W12 ⟨rfl,h2,hb,hk⟩;have HS12:=Lib.hid (HS8.out.step h2 hb hk);clear h2 hb hk)
            go_meet
            exact ⟨n + 10000,m + 10000,(dropT Ta o.Tenant o.Name).1,(dropT To o.Tenant o.Name).1,HS12,HA12,HFIT2,Lib.hid (by have:=HNM.out;omega)⟩
           | false=>
            have HY:Hid (o.Tenant≠x):=Lib.hid (by simpa using HMB.out)
            go_wp2_with fail
            go_meet
            exact ⟨n + 10000,m,(dropT Ta o.Tenant o.Name).1,To,HS8,Lib.hid (HAG.out.drop_other HY.out _),HFIT2,Lib.hid (by have:=HNM.out;omega)⟩
         | false=>
          go_wp2_with fail
          go_meet
          exact ⟨n,m,Ta,To,HS,HAG,HFIT,Lib.hid (by have:=HNM.out;omega)⟩
      case rest=>
       clear HS HAG HFIT HNM f0 f1 f2 f3 c12
       obtain ⟨n',m',Ta',To',HS,HAG,HFIT,HNM⟩:=hcut
       as_aux_lemma=>
        have hq1:((usedOf Ta' x:Int) !=(usedOf Ta' x:Int))=false:=by simp
        have HIS:=Lib.hid (ints_same (namesOf Ta' x) (by have:=HS.out.two.names_len x;have:=HNM.out;have:=HI40.out;omega))
        go_upto_region 32 with fail
        refine wp_region_lit ?_
        (refine rdT ?_;simp only [Act.put,sA,sB,sC])
        (refine rdT ?_;simp only [Act.put,sA,sB,sC])
        refine g_call (by rfl) rfl Tryz.call15 _ rfl (vals:= #[.pointer (some ⟨B + 1,0,none⟩),.int .i64 x]) (by go_simp;try rfl) (HS.out.two.used_all x) ?_;rintro r W8 ⟨rfl,hb⟩;refine ⟨_,rfl,?_⟩;have HS8:=Lib.hid (HS.out.next hb);clear hb
        (simp only [Act.put,sA,sB,sC])
        (refine rdT ?_;simp only [Act.put,sA,sB,sC])
        (refine rdT ?_;simp only [Act.put,sA,sB,sC])
        refine g_call (by rfl) rfl Tryz.call15 _ rfl (vals:= #[.pointer (some ⟨B + 14 + 1,0,none⟩),.int .i64 x]) (by go_simp;try rfl) (HS8.out.two.used_mine HAG.out) ?_;rintro r W9 ⟨rfl,hb⟩;refine ⟨_,rfl,?_⟩;have HS9:=Lib.hid (HS8.out.next hb);clear hb
        (simp only [Act.put,sA,sB,sC])
        generalize (usedOf Ta' x:Int)=us at hq1 ⊢
        (refine rdT ?_;simp only [Act.put,sA,sB,sC])
        (refine rdT ?_;simp only [Act.put,sA,sB,sC])
        (refine rgT ?_;simp only [Act.put,sA,sB,sC])
        (refine rgT ?_;simp only [Act.put,sA,sB,sC])
        refine g_call (by rfl) rfl Tryz.call17 _ rfl (vals:= #[.pointer (some ⟨B + 1,0,none⟩),.int .i64 x]) (by go_simp;try rfl) (HS9.out.two.names_all (by have:=HNM.out;have:=HI40.out;omega) x) ?_;rintro r W10 ⟨v1,rfl,hr1,hb⟩;refine ⟨_,rfl,?_⟩;have HS10:=Lib.hid (HS9.out.next hb);have HR1:=Lib.hid hr1;clear hr1 hb
        (simp only [Act.put,sA,sB,sC])
        (refine rgT ?_;simp only [Act.put,sA,sB,sC])
        (refine rgT ?_;simp only [Act.put,sA,sB,sC])
        refine g_call (by rfl) rfl Tryz.call17 _ rfl (vals:= #[.pointer (some ⟨B + 14 + 1,0,none⟩),.int .i64 x]) (by go_simp;try rfl) (HS10.out.two.names_mine (by have:=HNM.out;have:=HI40.out;omega) HAG.out) ?_;rintro r W11 ⟨v2,rfl,hr2,hb⟩;refine ⟨_,rfl,?_⟩;have HS11:=Lib.hid (HS10.out.next hb);have HR3:=Lib.hid (HR1.out.mono (fun b h=> Nat.lt_of_lt_of_le h hb.size) fun b h=> hb.block b h);have HR2:=Lib.hid hr2;clear hr2 hb
        (simp only [Act.put,sA,sB,sC])
        refine g_call (by rfl) rfl Tryz.call16 _ rfl (vals:= #[v1,v2]) (by go_simp;try rfl) (fn_bool (A:=fun b=> b < W11.heap.size) (ref10_Ints_fn HIS.out) (HS11.out.base.inv HI.out) (fun _ h=> h) (.cons (.d HR3.out) (.cons (.d HR2.out) (.nil _)))) ?_;rintro r W12 ⟨rfl,hb⟩;refine ⟨_,rfl,?_⟩;have HS12:=Lib.hid (HS11.out.next hb);clear hb
        (simp only [Act.put,sA,sB,sC])
        (refine rgT ?_;simp only [Act.put,sA,sB,sC])
        (refine rdT ?_;simp only [Act.put,sA,sB,sC])
        refine wpList_nil ?_
        clear hq1 HIS HR1 HR2 HR3 HS8 HS9 HS10 HS11
        go_wp2_with fail
        go_roundg (gk - 1)
        case measure=> omega
        exact ⟨i + 1,n',m',Ta',To',by omega,by rw [Int.natCast_add];rfl,Lib.hid ⟨HS12.out.two,HAG.out,HFIT.out,HNM.out.1,HNM.out.2⟩,Lib.hid HS12.out.base⟩
     ·obtain rfl:i=lm:=by omega
      as_aux_lemma=>
       go_upto_region 34 with fail
       have HBD:Hid (n≤1000000):=Lib.hid (by have:=HTW.out.2.2.2.1;have:=HB5.out.1;omega)
       go_upto_region 35 with (go_at_call 17;refine (HTW.out.1.names_all HBD.out x).mono ?_;rintro r W8 ⟨nv,rfl,hr,hb⟩;have HT8:=Lib.hid (HTW.out.1.below hb);have HX8:=Lib.hid (HX.out.next' hb);have HR:=Lib.hid hr;have HFIT:=Lib.hid HTW.out.2.2.1;clear hr hb)
       clear HTW HX
       obtain ⟨na,nc,rfl,hnc⟩:=ints_slice HR.out
       have HNC:=Lib.hid hnc
       clear hnc HR
       generalize hln:(namesOf Ta x).length=ln at *
       have HLN:=Lib.hid hln
       clear hln
       go_wp2_with fail
       go_loopg [31] ln (fun q y W=> ∃j:Nat,j + q=ln∧y= .int .i64 j∧Hid (Two B n m Ta To W)∧Hid (Base26 w C B W)∧Hid (Below W8.heap.size W8 W))
       case atStart=> exact ⟨0,by omega,rfl,HT8,HX8,Lib.hid (Below.refl _ _)⟩
       case round=>
        clear HT8 HX8
        obtain ⟨j,hj,rfl,HT,HX,HW⟩:=hrel
        by_cases hlt:j < ln
        ·obtain ⟨k,hk⟩:∃k,(namesOf Ta x)[j]? =some k:=⟨_,List.getElem?_eq_getElem (by rw [HLN.out];exact hlt)⟩
         obtain ⟨nb,no,rfl,hnb,hcell⟩:=HNC.out j k hk
         have HK:=Lib.hid (List.mem_of_getElem? hk)
         have e0:wr.cell? ⟨nb,no + j,none⟩=some (.int .i64 k):=by rw [HW.out.cell (p:=⟨nb,no + j,none⟩) hnb];exact hcell
         have hj6:j < 1000000:=by have:=HT.out.names_len x;rw [HLN.out] at this;have:=HBD.out;omega
         clear hcell hnb hk
         go_upto_region 39 with (go_at_call 13;refine (HT.out.get_named HFIT.out HK.out).mono ?_;rintro r W9 ⟨s,rfl,h1,h2,hb⟩;have HT9:=Lib.hid (HT.out.below hb);have HX9:=Lib.hid (HX.out.next' hb);have HW9:=Lib.hid (HW.out.trans (hb.mono HW.out.size));have hs1:decide (p.Bytes < (s.size:Int))=false:=decide_eq_false (by omega);have hs2:decide (p.Files < 1)=false:=decide_eq_false (by omega);clear h1 h2 hb e0)
         have c10:W9.cell? ⟨w.heap.size,10,none⟩=some (.int .i64 p.Files):=by rw [cell_of_row _ _ _ C 26 (0,0) HX9.out.box,←HCE.out];rfl
         have c11:W9.cell? ⟨w.heap.size,11,none⟩=some (.int .i64 p.Bytes):=by rw [cell_of_row _ _ _ C 26 (0,0) HX9.out.box,←HCE.out];rfl
         go_wp2_with fail
         go_roundg (gk - 1)
         case measure=> omega
         exact ⟨j + 1,by omega,by rw [Int.natCast_add];rfl,HT9,HX9,HW9⟩
        ·obtain rfl:j=ln:=by omega
         go_wp2_with fail
         go_ret
         exact ⟨rfl,HX.out.below⟩
end Go.Proofs.YtmgcnoigihdhpaaGreatDoor

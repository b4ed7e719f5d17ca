/-
gate.Read: an input is read.
-/
import Derived.Test.YtnegekppaoedgaaGreatDoorWS
import Derived.Deep.DeepCutAuto
import Derived.Deep.CutBlock
set_option linter.all false
namespace Go.Proofs.YtnegekppaoedgaaGreatDoor
open Go.RowKit Go.Shelf
attribute [local go_sem] uo GY GZ lS
set_option maxRecDepth 100000 in
set_option maxHeartbeats 8000000 in
theorem Ig (t:List UInt8) (w:World) (hI:Inv w) (ht:t.length≤1000000):
  Calls Tryz.prog 7 #[.string ⟨t.toArray⟩] w fun e W=> ∃fv uv,e= .returned (.tuple #[.agg (bW (readA t) fv uv),.int .i64 (jQ t)])∧Below w.heap.size w W∧aV (fun b=> w.heap.size≤b∧b < W.heap.size) W (.fz ((readA t).Raw.Files.map (encI .i64))) fv∧aV (fun b=> w.heap.size≤b∧b < W.heap.size) W (.fz ((readA t).Up.map jo)) uv:=by
 have HI:=ah hI
 have HT:=ah ht
 clear hI ht
 go_enter Tryz.func7,Tryz.ntmps7
 go_upto_region 0 with fail
 refine wp_region_lit ?_
 refine sO rfl rfl ?_
 refine bV ?_
 simp only [Act.put,sA,sB,sC]
 refine wpList_nil ?_
 go_upto_region 2 with (go_at_call 23;refine (YO t _).mono ?_;rintro r W1 ⟨rfl,rfl⟩)
 have HZ:Hid (Y6 w (some t) ((w.alloc (.cells (bW dF o0 o0) 37)).alloc (.cells #[.string ⟨t.toArray⟩,.bool false] 121))):=ah (by
  have e:(w.alloc (.cells (bW dF o0 o0) 37)).heap.size=w.heap.size + 1:=by simp
  refine ⟨?_,?_,(bC w _).trans ((bC _ _).mono (by rw [e];omega)),HT.out⟩
  ·show ((w.alloc _).alloc _).heap[w.heap.size + 1]? =_
   rw [←e]
   exact heap_alloc_new _ _
  ·rw [heap_alloc_old _ _ (by rw [e];omega)]
   exact heap_alloc_new _ _)
 generalize (w.alloc (.cells (bW dF o0 o0) 37)).alloc (.cells #[.string ⟨t.toArray⟩,.bool false] 121)=W1 at HZ ⊢
 refine wp_region_lit ?_
 refine bV ?_
 simp only [Act.put,sA,sB,sC]
 refine g_call (by rfl) rfl Tryz.call24 _ rfl (vals:= #[.pointer (some ⟨w.heap.size + 1,0,none⟩)]) (by go_simp;try rfl) (HZ.out.num HI.out) ?_
 rintro r W2 ⟨rfl,hz⟩
 refine ⟨_,rfl,?_⟩
 have HZ:=ah hz
 clear hz
 simp only [Act.put,sA,sB,sC]
 have HRP:Hid (nJ t=jl (rN (some t)).1 (rN (some t)).2):=ah rfl
 have alL:=ah (zq (some t))
 generalize (rN (some t)).1=k at HRP alL ⊢
 generalize (rN (some t)).2=s at HRP HZ
 refine wpList_buildTo rfl 37 _ rfl _ rfl (bW {dF with Kind:=k} o0 o0) (by kernel_rfl) ?_
 simp only [Act.put,sA,sB,sC]
 refine sO rfl rfl ?_
 simp only [Act.put,sA,sB,sC]
 have HR:=ah HZ.out.box
 generalize W2.alloc (.cells (bW dF o0 o0) 37)=W3 at HR ⊢
 generalize W2.heap.size=ib at HR ⊢
 clear HZ
 refine jm rfl 37 _ _ rfl (bW {dF with Kind:=k} o0 o0).toList (bW {dF with Kind:=k} o0 o0) rfl rfl HR.out.box rfl uH (Nat.le_of_ble_eq_true rfl) (pU rfl rfl) rfl ?_
 have HR:=ah (HR.out.put (bW {dF with Kind:=k} o0 o0))
 simp only [Act.put,sA,sB,sC]
 generalize W3.setRow ib (bW {dF with Kind:=k} o0 o0)=W4 at HR ⊢
 refine wpList_nil ?_
 have HSL:=ah HR.out.z.len
 have c0:W4.cell? ⟨ib,0,none⟩=some (.int .i64 k):=by rw [cell_of_row _ _ _ _ 37 (0,0) HR.out.box];rfl
 go_upto_block 0 with fail
 clear c0
 go_cut [6] (fun _ W=> ∃(st:RS) (a:ak) (fv uv:Value),Hid (jl k s=(a,st))∧Hid (qK w ib st (bW a fv uv) W)∧Hid (lZ ib a.Raw.Files fv W)∧Hid (nS ib a.Up uv W))
 case first=>
  by_cases hk:0≤k∧k≤9
  ·have:k=0∨k=1∨k=2∨k=3∨k=4∨k=5∨k=6∨k=7∨k=8∨k=9:=by omega
   clear hk
   rcases this with rfl | rfl | rfl | rfl | rfl | rfl | rfl | rfl | rfl | rfl
   ·go_upto_region 5 with fail
    refine wp_region_lit ?_
    refine bV ?_
    simp only [Act.put,sA,sB,sC]
    refine g_call (by rfl) rfl Tryz.call24 _ rfl (vals:= #[.pointer (some ⟨w.heap.size + 1,0,none⟩)]) (by go_simp;try rfl) (HR.out.num HI.out) ?_
    rintro r W11 ⟨rfl,ho,hr⟩
    refine ⟨_,rfl,?_⟩
    have HR:=ah hr
    clear ho hr
    refine bV ?_
    simp only [Act.put,sA,sB,sC]
    refine g_call (by rfl) rfl Tryz.call24 _ rfl (vals:= #[.pointer (some ⟨w.heap.size + 1,0,none⟩)]) (by go_simp;try rfl) (HR.out.num HI.out) ?_
    rintro r W12 ⟨rfl,ho,hr⟩
    refine ⟨_,rfl,?_⟩
    have HR:=ah hr
    clear ho hr
    refine bV ?_
    simp only [Act.put,sA,sB,sC]
    refine g_call (by rfl) rfl Tryz.call24 _ rfl (vals:= #[.pointer (some ⟨w.heap.size + 1,0,none⟩)]) (by go_simp;try rfl) (HR.out.num HI.out) ?_
    rintro r W13 ⟨rfl,ho,hr⟩
    refine ⟨_,rfl,?_⟩
    have HR:=ah hr
    clear ho hr
    refine bV ?_
    simp only [Act.put,sA,sB,sC]
    refine g_call (by rfl) rfl Tryz.call24 _ rfl (vals:= #[.pointer (some ⟨w.heap.size + 1,0,none⟩)]) (by go_simp;try rfl) (HR.out.num HI.out) ?_
    rintro r W14 ⟨rfl,ho,hr⟩
    refine ⟨_,rfl,?_⟩
    have HR:=ah hr
    clear ho hr
    refine bV ?_
    simp only [Act.put,sA,sB,sC]
    refine g_call (by rfl) rfl Tryz.call25 _ rfl (vals:= #[.pointer (some ⟨w.heap.size + 1,0,none⟩)]) (by go_simp;try rfl) (HR.out.int HI.out) ?_
    rintro r W15 ⟨rfl,ho,hr⟩
    refine ⟨_,rfl,?_⟩
    have HR:=ah hr
    clear ho hr
    refine bV ?_
    simp only [Act.put,sA,sB,sC]
    refine g_call (by rfl) rfl Tryz.call25 _ rfl (vals:= #[.pointer (some ⟨w.heap.size + 1,0,none⟩)]) (by go_simp;try rfl) (HR.out.int HI.out) ?_
    rintro r W16 ⟨rfl,ho,hr⟩
    refine ⟨_,rfl,?_⟩
    have HR:=ah hr
    clear ho hr
    refine bV ?_
    simp only [Act.put,sA,sB,sC]
    refine g_call (by rfl) rfl Tryz.call25 _ rfl (vals:= #[.pointer (some ⟨w.heap.size + 1,0,none⟩)]) (by go_simp;try rfl) (HR.out.int HI.out) ?_
    rintro r W17 ⟨rfl,ho,hr⟩
    refine ⟨_,rfl,?_⟩
    have HR:=ah hr
    clear ho hr
    refine bV ?_
    simp only [Act.put,sA,sB,sC]
    refine g_call (by rfl) rfl Tryz.call24 _ rfl (vals:= #[.pointer (some ⟨w.heap.size + 1,0,none⟩)]) (by go_simp;try rfl) (HR.out.num HI.out) ?_
    rintro r W18 ⟨rfl,ho,hr⟩
    refine ⟨_,rfl,?_⟩
    have HR:=ah hr
    clear ho hr
    refine bV ?_
    simp only [Act.put,sA,sB,sC]
    refine g_call (by rfl) rfl Tryz.call26 _ rfl (vals:= #[.pointer (some ⟨w.heap.size + 1,0,none⟩)]) (by go_simp;try rfl) (HR.out.nums HI.out) ?_
    rintro r W19 ⟨fv,rfl,ho,hr,hf⟩
    obtain ⟨fx,fn,fc,rfl⟩:=hf.slice
    refine ⟨_,rfl,?_⟩
    have HF:=ah hf
    have HR:=ah hr
    clear ho hr hf
    refine bV ?_
    simp only [Act.put,sA,sB,sC]
    refine g_call (by rfl) rfl Tryz.call27 _ rfl (vals:= #[.pointer (some ⟨w.heap.size + 1,0,none⟩)]) (by go_simp;try rfl) (HR.out.text HI.out) ?_
    rintro r W20 ⟨rfl,ho,hr⟩
    refine ⟨_,rfl,?_⟩
    have HF:=ah (HF.out.ob ho (by have:=hr.lo;omega))
    have HR:=ah hr
    clear ho hr
    simp only [Act.put,sA,sB,sC]
    refine wpList_buildTo rfl 24 _ rfl _ rfl #[.int .i64 (rN s).1,.int .i64 (rN (rN s).2).1,.int .i64 (rN (rN (rN s).2).2).1,.int .i64 (rN (rN (rN (rN s).2).2).2).1,.int .i64 (rI (rN (rN (rN (rN s).2).2).2).2).1,.int .i64 (rI (rI (rN (rN (rN (rN s).2).2).2).2).2).1,.int .i64 (rI (rI (rI (rN (rN (rN (rN s).2).2).2).2).2).2).1,.int .i64 (rN (rI (rI (rI (rN (rN (rN (rN s).2).2).2).2).2).2).2).1,.string ⟨(pJ (jB (rN (rI (rI (rI (rN (rN (rN (rN s).2).2).2).2).2).2).2).2).2).1.toArray⟩,.slice fx fn fc] (by kernel_rfl) ?_
    refine bV ?_
    simp only [Act.put,sA,sB,sC]
    refine jm rfl 24 _ _ rfl [.int .i64 (rN s).1,.int .i64 (rN (rN s).2).1,.int .i64 (rN (rN (rN s).2).2).1,.int .i64 (rN (rN (rN (rN s).2).2).2).1,.int .i64 (rI (rN (rN (rN (rN s).2).2).2).2).1,.int .i64 (rI (rI (rN (rN (rN (rN s).2).2).2).2).2).1,.int .i64 (rI (rI (rI (rN (rN (rN (rN s).2).2).2).2).2).2).1,.int .i64 (rN (rI (rI (rI (rN (rN (rN (rN s).2).2).2).2).2).2).2).1,.string ⟨(pJ (jB (rN (rI (rI (rI (rN (rN (rN (rN s).2).2).2).2).2).2).2).2).2).1.toArray⟩,.slice fx fn fc] (bW {dF with Kind:=0,Raw:=(qJ s).1} (.slice fx fn fc) o0) rfl rfl HR.out.box rfl (by kernel_rfl) (Nat.le_of_ble_eq_true rfl) (by intro u hu;simp only [List.mem_cons,List.not_mem_nil,or_false] at hu;rcases hu with rfl | rfl | rfl | rfl | rfl | rfl | rfl | rfl | rfl | rfl <;> first | rfl | exact HF.out.one) rfl ?_
    have HF:=ah (HF.out.ob (Ob.setRow ib (bW {dF with Kind:=0,Raw:=(qJ s).1} (.slice fx fn fc) o0) _) (Nat.le_refl _))
    have HR:=ah (HR.out.put (bW {dF with Kind:=0,Raw:=(qJ s).1} (.slice fx fn fc) o0))
    simp only [Act.put,sA,sB,sC]
    refine wpList_nil ?_
    go_wp2_with fail
    go_meet
    exact ⟨(qJ s).2,{dF with Kind:=0,Raw:=(qJ s).1},.slice fx fn fc,o0,ah rfl,HR,ah (HF.out),ah (nS.nil _ _)⟩
   ·go_upto_region 7 with fail
    refine wp_region_lit ?_
    refine bV ?_
    simp only [Act.put,sA,sB,sC]
    refine g_call (by rfl) rfl Tryz.call24 _ rfl (vals:= #[.pointer (some ⟨w.heap.size + 1,0,none⟩)]) (by go_simp;try rfl) (HR.out.num HI.out) ?_
    rintro r W21 ⟨rfl,ho,hr⟩
    refine ⟨_,rfl,?_⟩
    have HR:=ah hr
    clear ho hr
    refine bV ?_
    simp only [Act.put,sA,sB,sC]
    refine g_call (by rfl) rfl Tryz.call24 _ rfl (vals:= #[.pointer (some ⟨w.heap.size + 1,0,none⟩)]) (by go_simp;try rfl) (HR.out.num HI.out) ?_
    rintro r W22 ⟨rfl,ho,hr⟩
    refine ⟨_,rfl,?_⟩
    have HR:=ah hr
    clear ho hr
    refine bV ?_
    simp only [Act.put,sA,sB,sC]
    refine g_call (by rfl) rfl Tryz.call24 _ rfl (vals:= #[.pointer (some ⟨w.heap.size + 1,0,none⟩)]) (by go_simp;try rfl) (HR.out.num HI.out) ?_
    rintro r W23 ⟨rfl,ho,hr⟩
    refine ⟨_,rfl,?_⟩
    have HR:=ah hr
    clear ho hr
    refine bV ?_
    simp only [Act.put,sA,sB,sC]
    refine g_call (by rfl) rfl Tryz.call24 _ rfl (vals:= #[.pointer (some ⟨w.heap.size + 1,0,none⟩)]) (by go_simp;try rfl) (HR.out.num HI.out) ?_
    rintro r W24 ⟨rfl,ho,hr⟩
    refine ⟨_,rfl,?_⟩
    have HR:=ah hr
    clear ho hr
    refine bV ?_
    simp only [Act.put,sA,sB,sC]
    refine jm rfl 3 _ _ rfl [.int .i64 (rN s).1] (bW {dF with Kind:=1,Net:=(rN s).1} o0 o0) rfl rfl HR.out.box rfl (by kernel_rfl) (Nat.le_of_ble_eq_true rfl) (by intro u hu;simp only [List.mem_cons,List.not_mem_nil,or_false] at hu;rcases hu with rfl <;> first | rfl | exact HF.out.one) rfl ?_
    have HR:=ah (HR.out.put (bW {dF with Kind:=1,Net:=(rN s).1} o0 o0))
    refine bV ?_
    simp only [Act.put,sA,sB,sC]
    refine jm rfl 3 _ _ rfl [.int .i64 (rN (rN s).2).1] (bW {dF with Kind:=1,Net:=(rN s).1,Event:=(rN (rN s).2).1} o0 o0) rfl rfl HR.out.box rfl (by kernel_rfl) (Nat.le_of_ble_eq_true rfl) (by intro u hu;simp only [List.mem_cons,List.not_mem_nil,or_false] at hu;rcases hu with rfl <;> first | rfl | exact HF.out.one) rfl ?_
    have HR:=ah (HR.out.put (bW {dF with Kind:=1,Net:=(rN s).1,Event:=(rN (rN s).2).1} o0 o0))
    refine bV ?_
    simp only [Act.put,sA,sB,sC]
    refine jm rfl 3 _ _ rfl [.int .i64 (rN (rN (rN s).2).2).1] (bW {dF with Kind:=1,Net:=(rN s).1,Event:=(rN (rN s).2).1,N:=(rN (rN (rN s).2).2).1} o0 o0) rfl rfl HR.out.box rfl (by kernel_rfl) (Nat.le_of_ble_eq_true rfl) (by intro u hu;simp only [List.mem_cons,List.not_mem_nil,or_false] at hu;rcases hu with rfl <;> first | rfl | exact HF.out.one) rfl ?_
    have HR:=ah (HR.out.put (bW {dF with Kind:=1,Net:=(rN s).1,Event:=(rN (rN s).2).1,N:=(rN (rN (rN s).2).2).1} o0 o0))
    refine bV ?_
    simp only [Act.put,sA,sB,sC]
    refine jm rfl 3 _ _ rfl [.int .i64 (rN (rN (rN (rN s).2).2).2).1] (bW {dF with Kind:=1,Net:=(rN s).1,Event:=(rN (rN s).2).1,N:=(rN (rN (rN s).2).2).1,Local:=(rN (rN (rN (rN s).2).2).2).1} o0 o0) rfl rfl HR.out.box rfl (by kernel_rfl) (Nat.le_of_ble_eq_true rfl) (by intro u hu;simp only [List.mem_cons,List.not_mem_nil,or_false] at hu;rcases hu with rfl <;> first | rfl | exact HF.out.one) rfl ?_
    have HR:=ah (HR.out.put (bW {dF with Kind:=1,Net:=(rN s).1,Event:=(rN (rN s).2).1,N:=(rN (rN (rN s).2).2).1,Local:=(rN (rN (rN (rN s).2).2).2).1} o0 o0))
    simp only [Act.put,sA,sB,sC]
    refine wpList_nil ?_
    go_wp2_with fail
    go_meet
    exact ⟨(rN (rN (rN (rN s).2).2).2).2,{dF with Kind:=1,Net:=(rN s).1,Event:=(rN (rN s).2).1,N:=(rN (rN (rN s).2).2).1,Local:=(rN (rN (rN (rN s).2).2).2).1},o0,o0,ah rfl,HR,ah (lZ.nil _ _),ah (nS.nil _ _)⟩
   ·go_upto_region 9 with fail
    refine wp_region_lit ?_
    refine bV ?_
    simp only [Act.put,sA,sB,sC]
    refine g_call (by rfl) rfl Tryz.call24 _ rfl (vals:= #[.pointer (some ⟨w.heap.size + 1,0,none⟩)]) (by go_simp;try rfl) (HR.out.num HI.out) ?_
    rintro r W25 ⟨rfl,ho,hr⟩
    refine ⟨_,rfl,?_⟩
    have HR:=ah hr
    clear ho hr
    refine bV ?_
    simp only [Act.put,sA,sB,sC]
    refine jm rfl 3 _ _ rfl [.int .i64 (rN s).1] (bW {dF with Kind:=2,Net:=(rN s).1} o0 o0) rfl rfl HR.out.box rfl (by kernel_rfl) (Nat.le_of_ble_eq_true rfl) (by intro u hu;simp only [List.mem_cons,List.not_mem_nil,or_false] at hu;rcases hu with rfl <;> first | rfl | exact HF.out.one) rfl ?_
    have HR:=ah (HR.out.put (bW {dF with Kind:=2,Net:=(rN s).1} o0 o0))
    simp only [Act.put,sA,sB,sC]
    refine wpList_nil ?_
    go_upto_region 10 with fail
    refine wp_region_lit ?_
    refine bV ?_
    simp only [Act.put,sA,sB,sC]
    refine g_call (by rfl) rfl Tryz.call24 _ rfl (vals:= #[.pointer (some ⟨w.heap.size + 1,0,none⟩)]) (by go_simp;try rfl) (HR.out.num HI.out) ?_
    rintro r W26 ⟨rfl,ho,hr⟩
    refine ⟨_,rfl,?_⟩
    have HR:=ah hr
    clear ho hr
    refine bV ?_
    simp only [Act.put,sA,sB,sC]
    refine g_call (by rfl) rfl Tryz.call24 _ rfl (vals:= #[.pointer (some ⟨w.heap.size + 1,0,none⟩)]) (by go_simp;try rfl) (HR.out.num HI.out) ?_
    rintro r W27 ⟨rfl,ho,hr⟩
    refine ⟨_,rfl,?_⟩
    have HR:=ah hr
    clear ho hr
    refine bV ?_
    simp only [Act.put,sA,sB,sC]
    refine g_call (by rfl) rfl Tryz.call24 _ rfl (vals:= #[.pointer (some ⟨w.heap.size + 1,0,none⟩)]) (by go_simp;try rfl) (HR.out.num HI.out) ?_
    rintro r W28 ⟨rfl,ho,hr⟩
    refine ⟨_,rfl,?_⟩
    have HR:=ah hr
    clear ho hr
    refine bV ?_
    simp only [Act.put,sA,sB,sC]
    refine g_call (by rfl) rfl Tryz.call24 _ rfl (vals:= #[.pointer (some ⟨w.heap.size + 1,0,none⟩)]) (by go_simp;try rfl) (HR.out.num HI.out) ?_
    rintro r W29 ⟨rfl,ho,hr⟩
    refine ⟨_,rfl,?_⟩
    have HR:=ah hr
    clear ho hr
    refine bV ?_
    simp only [Act.put,sA,sB,sC]
    refine wpList_buildTo rfl 26 _ rfl _ rfl #[.int .i64 (rN (rN s).2).1,.int .i64 (rN (rN (rN s).2).2).1,.int .i64 (rN (rN (rN (rN s).2).2).2).1,.int .i64 0,.bool ((rN (rN (rN (rN (rN s).2).2).2).2).1==1)] (by kernel_rfl) ?_
    refine bV ?_
    simp only [Act.put,sA,sB,sC]
    refine jm rfl 26 _ _ rfl [.int .i64 (rN (rN s).2).1,.int .i64 (rN (rN (rN s).2).2).1,.int .i64 (rN (rN (rN (rN s).2).2).2).1,.int .i64 0,.bool ((rN (rN (rN (rN (rN s).2).2).2).2).1==1)] (bW {dF with Kind:=2,Net:=(rN s).1,Note:=⟨(rN (rN s).2).1,(rN (rN (rN s).2).2).1,(rN (rN (rN (rN s).2).2).2).1,0,(rN (rN (rN (rN (rN s).2).2).2).2).1==1⟩} o0 o0) rfl rfl HR.out.box rfl (by kernel_rfl) (Nat.le_of_ble_eq_true rfl) (by intro u hu;simp only [List.mem_cons,List.not_mem_nil,or_false] at hu;rcases hu with rfl | rfl | rfl | rfl | rfl <;> first | rfl | exact HF.out.one) rfl ?_
    have HR:=ah (HR.out.put (bW {dF with Kind:=2,Net:=(rN s).1,Note:=⟨(rN (rN s).2).1,(rN (rN (rN s).2).2).1,(rN (rN (rN (rN s).2).2).2).1,0,(rN (rN (rN (rN (rN s).2).2).2).2).1==1⟩} o0 o0))
    simp only [Act.put,sA,sB,sC]
    refine wpList_nil ?_
    go_wp2_with fail
    go_meet
    exact ⟨(rN (rN (rN (rN (rN s).2).2).2).2).2,{dF with Kind:=2,Net:=(rN s).1,Note:=⟨(rN (rN s).2).1,(rN (rN (rN s).2).2).1,(rN (rN (rN (rN s).2).2).2).1,0,(rN (rN (rN (rN (rN s).2).2).2).2).1==1⟩},o0,o0,ah rfl,HR,ah (lZ.nil _ _),ah (nS.nil _ _)⟩
   ·go_upto_region 12 with fail
    refine wp_region_lit ?_
    refine bV ?_
    simp only [Act.put,sA,sB,sC]
    refine g_call (by rfl) rfl Tryz.call24 _ rfl (vals:= #[.pointer (some ⟨w.heap.size + 1,0,none⟩)]) (by go_simp;try rfl) (HR.out.num HI.out) ?_
    rintro r W30 ⟨rfl,ho,hr⟩
    refine ⟨_,rfl,?_⟩
    have HR:=ah hr
    clear ho hr
    refine bV ?_
    simp only [Act.put,sA,sB,sC]
    refine g_call (by rfl) rfl Tryz.call24 _ rfl (vals:= #[.pointer (some ⟨w.heap.size + 1,0,none⟩)]) (by go_simp;try rfl) (HR.out.num HI.out) ?_
    rintro r W31 ⟨rfl,ho,hr⟩
    refine ⟨_,rfl,?_⟩
    have HR:=ah hr
    clear ho hr
    refine bV ?_
    simp only [Act.put,sA,sB,sC]
    refine g_call (by rfl) rfl Tryz.call24 _ rfl (vals:= #[.pointer (some ⟨w.heap.size + 1,0,none⟩)]) (by go_simp;try rfl) (HR.out.num HI.out) ?_
    rintro r W32 ⟨rfl,ho,hr⟩
    refine ⟨_,rfl,?_⟩
    have HR:=ah hr
    clear ho hr
    simp only [Act.put,sA,sB,sC]
    refine wpList_buildTo rfl 28 _ rfl _ rfl #[.int .i64 (rN s).1,.int .i64 (rN (rN s).2).1,.int .i64 (rN (rN (rN s).2).2).1] (by kernel_rfl) ?_
    refine bV ?_
    simp only [Act.put,sA,sB,sC]
    refine jm rfl 28 _ _ rfl [.int .i64 (rN s).1,.int .i64 (rN (rN s).2).1,.int .i64 (rN (rN (rN s).2).2).1] (bW {dF with Kind:=3,Proof:=⟨(rN s).1,(rN (rN s).2).1,(rN (rN (rN s).2).2).1⟩} o0 o0) rfl rfl HR.out.box rfl (by kernel_rfl) (Nat.le_of_ble_eq_true rfl) (by intro u hu;simp only [List.mem_cons,List.not_mem_nil,or_false] at hu;rcases hu with rfl | rfl | rfl <;> first | rfl | exact HF.out.one) rfl ?_
    have HR:=ah (HR.out.put (bW {dF with Kind:=3,Proof:=⟨(rN s).1,(rN (rN s).2).1,(rN (rN (rN s).2).2).1⟩} o0 o0))
    simp only [Act.put,sA,sB,sC]
    refine wpList_nil ?_
    go_wp2_with fail
    go_meet
    exact ⟨(rN (rN (rN s).2).2).2,{dF with Kind:=3,Proof:=⟨(rN s).1,(rN (rN s).2).1,(rN (rN (rN s).2).2).1⟩},o0,o0,ah rfl,HR,ah (lZ.nil _ _),ah (nS.nil _ _)⟩
   ·go_upto_region 14 with fail
    refine wp_region_lit ?_
    refine bV ?_
    simp only [Act.put,sA,sB,sC]
    refine g_call (by rfl) rfl Tryz.call24 _ rfl (vals:= #[.pointer (some ⟨w.heap.size + 1,0,none⟩)]) (by go_simp;try rfl) (HR.out.num HI.out) ?_
    rintro r W33 ⟨rfl,ho,hr⟩
    refine ⟨_,rfl,?_⟩
    have HR:=ah hr
    clear ho hr
    refine bV ?_
    simp only [Act.put,sA,sB,sC]
    refine g_call (by rfl) rfl Tryz.call24 _ rfl (vals:= #[.pointer (some ⟨w.heap.size + 1,0,none⟩)]) (by go_simp;try rfl) (HR.out.num HI.out) ?_
    rintro r W34 ⟨rfl,ho,hr⟩
    refine ⟨_,rfl,?_⟩
    have HR:=ah hr
    clear ho hr
    refine bV ?_
    simp only [Act.put,sA,sB,sC]
    refine wpList_buildTo rfl 30 _ rfl _ rfl #[.int .i64 (rN s).1,.int .i64 0,.bool ((rN (rN s).2).1==1)] (by kernel_rfl) ?_
    refine bV ?_
    simp only [Act.put,sA,sB,sC]
    refine jm rfl 30 _ _ rfl [.int .i64 (rN s).1,.int .i64 0,.bool ((rN (rN s).2).1==1)] (bW {dF with Kind:=4,aB:=⟨(rN s).1,0,(rN (rN s).2).1==1⟩} o0 o0) rfl rfl HR.out.box rfl (by kernel_rfl) (Nat.le_of_ble_eq_true rfl) (by intro u hu;simp only [List.mem_cons,List.not_mem_nil,or_false] at hu;rcases hu with rfl | rfl | rfl <;> first | rfl | exact HF.out.one) rfl ?_
    have HR:=ah (HR.out.put (bW {dF with Kind:=4,aB:=⟨(rN s).1,0,(rN (rN s).2).1==1⟩} o0 o0))
    simp only [Act.put,sA,sB,sC]
    refine wpList_nil ?_
    go_wp2_with fail
    go_meet
    exact ⟨(rN (rN s).2).2,{dF with Kind:=4,aB:=⟨(rN s).1,0,(rN (rN s).2).1==1⟩},o0,o0,ah rfl,HR,ah (lZ.nil _ _),ah (nS.nil _ _)⟩
   ·go_upto_region 16 with fail
    refine wp_region_lit ?_
    refine bV ?_
    simp only [Act.put,sA,sB,sC]
    refine g_call (by rfl) rfl Tryz.call24 _ rfl (vals:= #[.pointer (some ⟨w.heap.size + 1,0,none⟩)]) (by go_simp;try rfl) (HR.out.num HI.out) ?_
    rintro r W35 ⟨rfl,ho,hr⟩
    refine ⟨_,rfl,?_⟩
    have HR:=ah hr
    clear ho hr
    refine bV ?_
    simp only [Act.put,sA,sB,sC]
    refine g_call (by rfl) rfl Tryz.call24 _ rfl (vals:= #[.pointer (some ⟨w.heap.size + 1,0,none⟩)]) (by go_simp;try rfl) (HR.out.num HI.out) ?_
    rintro r W36 ⟨rfl,ho,hr⟩
    refine ⟨_,rfl,?_⟩
    have HR:=ah hr
    clear ho hr
    simp only [Act.put,sA,sB,sC]
    refine wpList_buildTo rfl 32 _ rfl _ rfl #[.int .i64 (rN s).1,.int .i64 (rN (rN s).2).1,.int .i64 0,.int .i64 0] (by kernel_rfl) ?_
    refine bV ?_
    simp only [Act.put,sA,sB,sC]
    refine jm rfl 32 _ _ rfl [.int .i64 (rN s).1,.int .i64 (rN (rN s).2).1,.int .i64 0,.int .i64 0] (bW {dF with Kind:=5,Hold:=⟨(rN s).1,(rN (rN s).2).1,0,0⟩} o0 o0) rfl rfl HR.out.box rfl (by kernel_rfl) (Nat.le_of_ble_eq_true rfl) (by intro u hu;simp only [List.mem_cons,List.not_mem_nil,or_false] at hu;rcases hu with rfl | rfl | rfl | rfl <;> first | rfl | exact HF.out.one) rfl ?_
    have HR:=ah (HR.out.put (bW {dF with Kind:=5,Hold:=⟨(rN s).1,(rN (rN s).2).1,0,0⟩} o0 o0))
    simp only [Act.put,sA,sB,sC]
    refine wpList_nil ?_
    go_wp2_with fail
    go_meet
    exact ⟨(rN (rN s).2).2,{dF with Kind:=5,Hold:=⟨(rN s).1,(rN (rN s).2).1,0,0⟩},o0,o0,ah rfl,HR,ah (lZ.nil _ _),ah (nS.nil _ _)⟩
   ·go_upto_region 18 with fail
    refine wp_region_lit ?_
    refine bV ?_
    simp only [Act.put,sA,sB,sC]
    refine g_call (by rfl) rfl Tryz.call24 _ rfl (vals:= #[.pointer (some ⟨w.heap.size + 1,0,none⟩)]) (by go_simp;try rfl) (HR.out.num HI.out) ?_
    rintro r W37 ⟨rfl,ho,hr⟩
    refine ⟨_,rfl,?_⟩
    have HR:=ah hr
    clear ho hr
    refine bV ?_
    simp only [Act.put,sA,sB,sC]
    refine jm rfl 3 _ _ rfl [.int .i64 (rN s).1] (bW {dF with Kind:=6,N:=(rN s).1} o0 o0) rfl rfl HR.out.box rfl (by kernel_rfl) (Nat.le_of_ble_eq_true rfl) (by intro u hu;simp only [List.mem_cons,List.not_mem_nil,or_false] at hu;rcases hu with rfl <;> first | rfl | exact HF.out.one) rfl ?_
    have HR:=ah (HR.out.put (bW {dF with Kind:=6,N:=(rN s).1} o0 o0))
    simp only [Act.put,sA,sB,sC]
    refine wpList_nil ?_
    go_wp2_with fail
    go_meet
    exact ⟨(rN s).2,{dF with Kind:=6,N:=(rN s).1},o0,o0,ah rfl,HR,ah (lZ.nil _ _),ah (nS.nil _ _)⟩
   ·go_upto_region 20 with fail
    refine wp_region_lit ?_
    refine bV ?_
    simp only [Act.put,sA,sB,sC]
    refine g_call (by rfl) rfl Tryz.call24 _ rfl (vals:= #[.pointer (some ⟨w.heap.size + 1,0,none⟩)]) (by go_simp;try rfl) (HR.out.num HI.out) ?_
    rintro r W38 ⟨rfl,ho,hr⟩
    refine ⟨_,rfl,?_⟩
    have HR:=ah hr
    clear ho hr
    refine bV ?_
    simp only [Act.put,sA,sB,sC]
    refine g_call (by rfl) rfl Tryz.call24 _ rfl (vals:= #[.pointer (some ⟨w.heap.size + 1,0,none⟩)]) (by go_simp;try rfl) (HR.out.num HI.out) ?_
    rintro r W39 ⟨rfl,ho,hr⟩
    refine ⟨_,rfl,?_⟩
    have HR:=ah hr
    clear ho hr
    refine bV ?_
    simp only [Act.put,sA,sB,sC]
    refine g_call (by rfl) rfl Tryz.call24 _ rfl (vals:= #[.pointer (some ⟨w.heap.size + 1,0,none⟩)]) (by go_simp;try rfl) (HR.out.num HI.out) ?_
    rintro r W40 ⟨rfl,ho,hr⟩
    refine ⟨_,rfl,?_⟩
    have HR:=ah hr
    clear ho hr
    simp only [Act.put,sA,sB,sC]
    refine wpList_buildTo rfl 34 _ rfl _ rfl #[.int .i64 (rN s).1,.int .i64 (rN (rN s).2).1,.int .i64 (rN (rN (rN s).2).2).1,.int .i64 0] (by kernel_rfl) ?_
    refine bV ?_
    simp only [Act.put,sA,sB,sC]
    refine jm rfl 34 _ _ rfl [.int .i64 (rN s).1,.int .i64 (rN (rN s).2).1,.int .i64 (rN (rN (rN s).2).2).1,.int .i64 0] (bW {dF with Kind:=7,Order:=⟨(rN s).1,(rN (rN s).2).1,(rN (rN (rN s).2).2).1,0⟩} o0 o0) rfl rfl HR.out.box rfl (by kernel_rfl) (Nat.le_of_ble_eq_true rfl) (by intro u hu;simp only [List.mem_cons,List.not_mem_nil,or_false] at hu;rcases hu with rfl | rfl | rfl | rfl <;> first | rfl | exact HF.out.one) rfl ?_
    have HR:=ah (HR.out.put (bW {dF with Kind:=7,Order:=⟨(rN s).1,(rN (rN s).2).1,(rN (rN (rN s).2).2).1,0⟩} o0 o0))
    simp only [Act.put,sA,sB,sC]
    refine wpList_nil ?_
    go_wp2_with fail
    go_meet
    exact ⟨(rN (rN (rN s).2).2).2,{dF with Kind:=7,Order:=⟨(rN s).1,(rN (rN s).2).1,(rN (rN (rN s).2).2).1,0⟩},o0,o0,ah rfl,HR,ah (lZ.nil _ _),ah (nS.nil _ _)⟩
   ·go_upto_region 22 with fail
    refine wp_region_lit ?_
    refine bV ?_
    simp only [Act.put,sA,sB,sC]
    refine g_call (by rfl) rfl Tryz.call24 _ rfl (vals:= #[.pointer (some ⟨w.heap.size + 1,0,none⟩)]) (by go_simp;try rfl) (HR.out.num HI.out) ?_
    rintro r W41 ⟨rfl,ho,hr⟩
    refine ⟨_,rfl,?_⟩
    have HR:=ah hr
    clear ho hr
    refine bV ?_
    simp only [Act.put,sA,sB,sC]
    refine g_call (by rfl) rfl Tryz.call24 _ rfl (vals:= #[.pointer (some ⟨w.heap.size + 1,0,none⟩)]) (by go_simp;try rfl) (HR.out.num HI.out) ?_
    rintro r W42 ⟨rfl,ho,hr⟩
    refine ⟨_,rfl,?_⟩
    have HR:=ah hr
    clear ho hr
    refine bV ?_
    simp only [Act.put,sA,sB,sC]
    refine jm rfl 3 _ _ rfl [.int .i64 (rN s).1] (bW {dF with Kind:=8,Net:=(rN s).1} o0 o0) rfl rfl HR.out.box rfl (by kernel_rfl) (Nat.le_of_ble_eq_true rfl) (by intro u hu;simp only [List.mem_cons,List.not_mem_nil,or_false] at hu;rcases hu with rfl <;> first | rfl | exact HF.out.one) rfl ?_
    have HR:=ah (HR.out.put (bW {dF with Kind:=8,Net:=(rN s).1} o0 o0))
    refine bV ?_
    simp only [Act.put,sA,sB,sC]
    refine jm rfl 3 _ _ rfl [.int .i64 (rN (rN s).2).1] (bW {dF with Kind:=8,Net:=(rN s).1,Event:=(rN (rN s).2).1} o0 o0) rfl rfl HR.out.box rfl (by kernel_rfl) (Nat.le_of_ble_eq_true rfl) (by intro u hu;simp only [List.mem_cons,List.not_mem_nil,or_false] at hu;rcases hu with rfl <;> first | rfl | exact HF.out.one) rfl ?_
    have HR:=ah (HR.out.put (bW {dF with Kind:=8,Net:=(rN s).1,Event:=(rN (rN s).2).1} o0 o0))
    simp only [Act.put,sA,sB,sC]
    refine wpList_nil ?_
    go_wp2_with fail
    go_meet
    exact ⟨(rN (rN s).2).2,{dF with Kind:=8,Net:=(rN s).1,Event:=(rN (rN s).2).1},o0,o0,ah rfl,HR,ah (lZ.nil _ _),ah (nS.nil _ _)⟩
   ·go_upto_region 24 with fail
    refine wp_region_lit ?_
    refine bV ?_
    simp only [Act.put,sA,sB,sC]
    refine g_call (by rfl) rfl Tryz.call24 _ rfl (vals:= #[.pointer (some ⟨w.heap.size + 1,0,none⟩)]) (by go_simp;try rfl) (HR.out.num HI.out) ?_
    rintro r W43 ⟨rfl,ho,hr⟩
    refine ⟨_,rfl,?_⟩
    have HR:=ah hr
    clear ho hr
    refine bV ?_
    simp only [Act.put,sA,sB,sC]
    refine wpList_nil ?_
    have HN:=ah (zq s)
    have HN0:Hid (0≤(rN s).1):=ah (nI s 59 (least:=0) (by omega))
    go_wp2_with fail
    go_loopg [6] (stM (rN s).2) (fun q y W=> ∃(z:Int) (s1:RS) (acc:List Bool) (uv:Value),y= .int .i64 z∧Hid (stM s1≤q)∧Hid (UpS w ib W43.heap.size (rN s).1.toNat (rN s).2 z s1 acc uv W))
    case atStart=> exact ⟨(rN s).1,(rN s).2,[],o0,rfl,ah (Nat.le_refl _),ah ⟨HN0.out,HN.out.2,rfl,HR.out,lt_of_block HR.out.box,Nat.le_refl _,World.ownsRow_nil _ _ _ _,by have h1:=ND (rN s).2;have h2:=HR.out.z.len;rw [List.length_nil];omega⟩⟩
    case round=>
     obtain ⟨z,s1,acc,uv,rfl,HQ,HU⟩:=hrel
     have HB0:Hid (ib < W43.heap.size):=ah (lt_of_block HR.out.box)
     clear HR
     by_cases hz:0 < z
     ·have d1:decide (0 < z)=true:=decide_eq_true hz
      by_cases hl:0 < (s1.getD []).length
      ·have d2:decide (0 < ((s1.getD []).length:Int))=true:=decide_eq_true (by omega)
       have c34:wr.cell? ⟨ib,34,none⟩=some uv:=by rw [cell_of_row _ _ _ _ 37 (0,0) HU.out.rd.box];rfl
       have HZ:=ah hz
       have HL:=ah hl
       clear hz
       go_upto_region 27 with (go_at_call 28;refine HU.out.rd.left.mono ?_;rintro r W5 ⟨rfl,rfl⟩)
       clear hl
       refine wp_region_held_drew (S:=fun _=> True) (by kernel_rfl) ?_ (fun hHeld=> ?_)
       focus (exact trivial)
       refine aY (by kernel_rfl) (fun d _ _ _ _ h=> by cases d <;> exact h) [0,2] 7 _ _ _ ?_ _ (by rfl) (by kernel_rfl) ?_ (by exact trivial) ?_
       rotate_left
       focus
        simp only [aK,tA,tB,tC,tD]
        (refine Ai ?_;try simp only [Act.put,sA,sC,sB])
        (refine Ai ?_;try simp only [Act.put,sA,sC,sB])
        exact Takes.done
       refine pW 1 3 (fuel:=6) (by kernel_rfl) (by rfl) (fun K hK=> ?_) (fun K hK=> ?_)
       ·simp only [aK,tA,tB,tC,tD,fV]
        go_simp
        refine hK.out _ _ ?_ (fun hHeld=> ?_)
        focus (exact trivial)
        clear hK K
        try simp only [Act.put,sA,sC,sB]
        refine bK 3 (fuel:=5) (by kernel_rfl) (by rfl) (fun K hK=> ?_)
        simp only [aK,tA,tB,tC,tD,fV]
        go_simp
        (go_at_call 24;refine (HU.out.rd.drew.num HI.out).mono ?_;rintro r W6 ⟨rfl,ho,hr⟩;have Y7:=ah hr;have HO6:=ah ho;clear ho hr)
        refine hK.out _ _ ?_ (fun hHeld=> ?_)
        focus (exact trivial)
        clear hK K
        try simp only [Act.put,sA,sC,sB]
        have c34:W6.cell? ⟨ib,34,none⟩=some uv:=by rw [cell_of_row _ _ _ _ 37 (0,0) Y7.out.box];rfl
        refine aY (by kernel_rfl) (fun d _ _ _ _ h=> by cases d <;> exact h) [4] 4 _ _ _ ?_ _ (by rfl) (by kernel_rfl) ?_ (by exact trivial) ?_
        rotate_left
        focus
         simp only [aK,tA,tB,tC,tD]
         (refine Ai ?_;try simp only [Act.put,sA,sC,sB])
         exact Takes.done
        refine bK 5 (fuel:=3) (by kernel_rfl) (by rfl) (fun K hK=> ?_)
        simp only [aK,tA,tB,tC,tD,fV]
        go_simp
        have Rq:=ah (Y7.out.alloc (.cells #[.bool ((rN s1).1==1)] 4))
        have Xh:=ah (heap_alloc_new W6 (.cells #[.bool ((rN s1).1==1)] 4))
        have JY:Hid (W43.heap.size≤(W6.alloc (.cells #[.bool ((rN s1).1==1)] 4)).heap.size∧(W6.alloc (.cells #[.bool ((rN s1).1==1)] 4)).ownsRow W43.heap.size 4 1 uv acc.length (acc.map .bool)):=ah (by
         have h1:=HU.out.hi
         have h2:=HO6.out.size
         have h3:=(bC W6 (.cells #[.bool ((rN s1).1==1)] 4)).size
         have h4:w.heap.size + 1 < W43.heap.size:=by have:=Y7.out.lo;have:=HB0.out;omega
         have q1:=jM HU.out.row (Ob.drew (w.heap.size + 1) _) h4
         have q2:=jM q1 HO6.out h4
         exact ⟨Nat.le_trans (Nat.le_trans h1 h2) h3,jM q2 (Ob.of_below (b:=ib) (bC W6 _)) HB0.out⟩)
        generalize W6.alloc (.cells #[.bool ((rN s1).1==1)] 4)=W7 at Rq Xh JY ⊢
        generalize W6.heap.size=g7 at Xh ⊢
        refine hK.out _ _ ?_ (fun hHeld=> ?_)
        focus (exact trivial)
        clear hK K
        try simp only [Act.put,sA,sC,sB]
        have c34:W7.cell? ⟨ib,34,none⟩=some uv:=by rw [cell_of_row _ _ _ _ 37 (0,0) Rq.out.box];rfl
        refine bK 6 (fuel:=2) (by kernel_rfl) (by rfl) (fun K hK=> ?_)
        simp only [aK,tA,tB,tC,tD,fV]
        rw [if_pos (by rfl)]
        obtain ⟨v8,W8,hrun,hown,hg8⟩:=NP JY.out.2 JY.out.1 (by have:=HU.out.len;omega) (g:=g7) (cap:=1) (x:=((rN s1).1==1)) (by rw [cell_of_row _ _ _ _ 4 (0,0) Xh.out];rfl)
        refine wp_append_run _ (.tmp 132) (.tmp 136) 35 35 rfl _ _ v8 W8 rfl rfl (hrun _) ?_
        refine hK.out _ _ ?_ (fun hHeld=> ?_)
        focus (exact trivial)
        clear hK K
        try simp only [Act.put,sA,sC,sB]
        obtain ⟨hup,hlt⟩:=HU.out.step HZ.out HL.out rfl Rq.out JY.out.1 hown hg8
        have H8:=ah (Rq.out.grown hg8 fun q hq=> Nat.lt_of_lt_of_le HB0.out (JY.out.2.lt q hq).1)
        have H8v:=ah (nS.one (ib:=ib) ⟨_,HB0.out,hown⟩)
        have HUP:=ah hup
        have HLT:=ah hlt
        clear hup hlt hrun hown hg8
        refine aY (by kernel_rfl) (fun d _ _ _ _ h=> by cases d <;> exact h) [7] 1 _ _ _ ?_ _ (by rfl) (by kernel_rfl) ?_ (by exact trivial) ?_
        rotate_left
        focus
         simp only [aK,tA,tB,tC,tD]
         (refine Ai ?_;try simp only [Act.put,sA,sC,sB])
         exact Takes.done
        refine bK 8 (fuel:=0) (by kernel_rfl) (by rfl) (fun K hK=> ?_)
        simp only [aK,tA,tB,tC,tD,fV]
        rw [if_pos (by rfl)]
        refine Bg 35 _ _ rfl [v8] (bW {dF with Kind:=9} o0 v8) rfl rfl H8.out.box (by show v8.cells.toList= [v8];rw [oneCell_cells H8v.out]) (by kernel_rfl) (Nat.le_of_ble_eq_true rfl) (by intro u hu;rw [List.mem_singleton.1 hu];exact H8v.out) rfl ?_
        refine hK.out _ _ ?_ (fun hHeld=> ?_)
        focus (exact trivial)
        clear hK K
        try simp only [Act.put,sA,sC,sB]
        refine wpAnyH_done (by kernel_rfl) ?_ _
        generalize W8.setRow ib (bW {dF with Kind:=9} o0 v8)=W9 at HUP ⊢
        have hw:IntKind.i64.wrap (z - 1)=z - 1:=wrap64 (by have:=HU.out.z0;omega) (by have:=HU.out.z1;omega)
        clear c34 H8 H8v Rq Xh JY HO6 Y7
        go_wp2_with fail
        go_roundg (stM (rN s1).2)
        case measure=> have h1:=HLT.out;have h2:=HQ.out;omega
        exact ⟨z - 1,(rN s1).2,acc ++ [(rN s1).1==1],v8,rfl,ah (Nat.le_refl _),HUP⟩
       ·simp only [aK,tA,tB,tC,tD,fV]
        go_simp
        (go_at_call 24;refine (HU.out.rd.drew.num HI.out).mono ?_;rintro r W6 ⟨rfl,ho,hr⟩;have Y7:=ah hr;have HO6:=ah ho;clear ho hr)
        refine hK.out _ _ ?_ (fun hHeld=> ?_)
        focus (exact trivial)
        clear hK K
        try simp only [Act.put,sA,sC,sB]
        have c34:W6.cell? ⟨ib,34,none⟩=some uv:=by rw [cell_of_row _ _ _ _ 37 (0,0) Y7.out.box];rfl
        refine aY (by kernel_rfl) (fun d _ _ _ _ h=> by cases d <;> exact h) [4] 5 _ _ _ ?_ _ (by rfl) (by kernel_rfl) ?_ (by exact trivial) ?_
        rotate_left
        focus
         simp only [aK,tA,tB,tC,tD]
         (refine Ai ?_;try simp only [Act.put,sA,sC,sB])
         exact Takes.done
        refine pW 1 5 (fuel:=4) (by kernel_rfl) (by rfl) (fun K hK=> ?_) (fun K hK=> ?_)
        ·simp only [aK,tA,tB,tC,tD,fV]
         go_simp
         refine hK.out _ _ ?_ (fun hHeld=> ?_)
         focus (exact trivial)
         clear hK K
         try simp only [Act.put,sA,sC,sB]
         refine bK 5 (fuel:=3) (by kernel_rfl) (by rfl) (fun K hK=> ?_)
         simp only [aK,tA,tB,tC,tD,fV]
         go_simp
         have Rq:=ah (Y7.out.alloc (.cells #[.bool ((rN s1).1==1)] 4))
         have Xh:=ah (heap_alloc_new W6 (.cells #[.bool ((rN s1).1==1)] 4))
         have JY:Hid (W43.heap.size≤(W6.alloc (.cells #[.bool ((rN s1).1==1)] 4)).heap.size∧(W6.alloc (.cells #[.bool ((rN s1).1==1)] 4)).ownsRow W43.heap.size 4 1 uv acc.length (acc.map .bool)):=ah (by
          have h1:=HU.out.hi
          have h2:=HO6.out.size
          have h3:=(bC W6 (.cells #[.bool ((rN s1).1==1)] 4)).size
          have h4:w.heap.size + 1 < W43.heap.size:=by have:=Y7.out.lo;have:=HB0.out;omega
          have q1:=jM HU.out.row (Ob.drew (w.heap.size + 1) _) h4
          have q2:=jM q1 HO6.out h4
          exact ⟨Nat.le_trans (Nat.le_trans h1 h2) h3,jM q2 (Ob.of_below (b:=ib) (bC W6 _)) HB0.out⟩)
         generalize W6.alloc (.cells #[.bool ((rN s1).1==1)] 4)=W7 at Rq Xh JY ⊢
         generalize W6.heap.size=g7 at Xh ⊢
         refine hK.out _ _ ?_ (fun hHeld=> ?_)
         focus (exact trivial)
         clear hK K
         try simp only [Act.put,sA,sC,sB]
         have c34:W7.cell? ⟨ib,34,none⟩=some uv:=by rw [cell_of_row _ _ _ _ 37 (0,0) Rq.out.box];rfl
         refine bK 6 (fuel:=2) (by kernel_rfl) (by rfl) (fun K hK=> ?_)
         simp only [aK,tA,tB,tC,tD,fV]
         rw [if_pos (by rfl)]
         obtain ⟨v8,W8,hrun,hown,hg8⟩:=NP JY.out.2 JY.out.1 (by have:=HU.out.len;omega) (g:=g7) (cap:=1) (x:=((rN s1).1==1)) (by rw [cell_of_row _ _ _ _ 4 (0,0) Xh.out];rfl)
         refine wp_append_run _ (.tmp 132) (.tmp 136) 35 35 rfl _ _ v8 W8 rfl rfl (hrun _) ?_
         refine hK.out _ _ ?_ (fun hHeld=> ?_)
         focus (exact trivial)
         clear hK K
         try simp only [Act.put,sA,sC,sB]
         obtain ⟨hup,hlt⟩:=HU.out.step HZ.out HL.out rfl Rq.out JY.out.1 hown hg8
         have H8:=ah (Rq.out.grown hg8 fun q hq=> Nat.lt_of_lt_of_le HB0.out (JY.out.2.lt q hq).1)
         have H8v:=ah (nS.one (ib:=ib) ⟨_,HB0.out,hown⟩)
         have HUP:=ah hup
         have HLT:=ah hlt
         clear hup hlt hrun hown hg8
         refine aY (by kernel_rfl) (fun d _ _ _ _ h=> by cases d <;> exact h) [7] 1 _ _ _ ?_ _ (by rfl) (by kernel_rfl) ?_ (by exact trivial) ?_
         rotate_left
         focus
          simp only [aK,tA,tB,tC,tD]
          (refine Ai ?_;try simp only [Act.put,sA,sC,sB])
          exact Takes.done
         refine bK 8 (fuel:=0) (by kernel_rfl) (by rfl) (fun K hK=> ?_)
         simp only [aK,tA,tB,tC,tD,fV]
         rw [if_pos (by rfl)]
         refine Bg 35 _ _ rfl [v8] (bW {dF with Kind:=9} o0 v8) rfl rfl H8.out.box (by show v8.cells.toList= [v8];rw [oneCell_cells H8v.out]) (by kernel_rfl) (Nat.le_of_ble_eq_true rfl) (by intro u hu;rw [List.mem_singleton.1 hu];exact H8v.out) rfl ?_
         refine hK.out _ _ ?_ (fun hHeld=> ?_)
         focus (exact trivial)
         clear hK K
         try simp only [Act.put,sA,sC,sB]
         refine wpAnyH_done (by kernel_rfl) ?_ _
         generalize W8.setRow ib (bW {dF with Kind:=9} o0 v8)=W9 at HUP ⊢
         have hw:IntKind.i64.wrap (z - 1)=z - 1:=wrap64 (by have:=HU.out.z0;omega) (by have:=HU.out.z1;omega)
         clear c34 H8 H8v Rq Xh JY HO6 Y7
         go_wp2_with fail
         go_roundg (stM (rN s1).2)
         case measure=> have h1:=HLT.out;have h2:=HQ.out;omega
         exact ⟨z - 1,(rN s1).2,acc ++ [(rN s1).1==1],v8,rfl,ah (Nat.le_refl _),HUP⟩
        ·simp only [aK,tA,tB,tC,tD,fV]
         go_simp
         have Rq:=ah (Y7.out.alloc (.cells #[.bool ((rN s1).1==1)] 4))
         have Xh:=ah (heap_alloc_new W6 (.cells #[.bool ((rN s1).1==1)] 4))
         have JY:Hid (W43.heap.size≤(W6.alloc (.cells #[.bool ((rN s1).1==1)] 4)).heap.size∧(W6.alloc (.cells #[.bool ((rN s1).1==1)] 4)).ownsRow W43.heap.size 4 1 uv acc.length (acc.map .bool)):=ah (by
          have h1:=HU.out.hi
          have h2:=HO6.out.size
          have h3:=(bC W6 (.cells #[.bool ((rN s1).1==1)] 4)).size
          have h4:w.heap.size + 1 < W43.heap.size:=by have:=Y7.out.lo;have:=HB0.out;omega
          have q1:=jM HU.out.row (Ob.drew (w.heap.size + 1) _) h4
          have q2:=jM q1 HO6.out h4
          exact ⟨Nat.le_trans (Nat.le_trans h1 h2) h3,jM q2 (Ob.of_below (b:=ib) (bC W6 _)) HB0.out⟩)
         generalize W6.alloc (.cells #[.bool ((rN s1).1==1)] 4)=W7 at Rq Xh JY ⊢
         generalize W6.heap.size=g7 at Xh ⊢
         refine hK.out _ _ ?_ (fun hHeld=> ?_)
         focus (exact trivial)
         clear hK K
         try simp only [Act.put,sA,sC,sB]
         have c34:W7.cell? ⟨ib,34,none⟩=some uv:=by rw [cell_of_row _ _ _ _ 37 (0,0) Rq.out.box];rfl
         refine bK 1 (fuel:=3) (by kernel_rfl) (by rfl) (fun K hK=> ?_)
         simp only [aK,tA,tB,tC,tD,fV]
         go_simp
         refine hK.out _ _ ?_ (fun hHeld=> ?_)
         focus (exact trivial)
         clear hK K
         try simp only [Act.put,sA,sC,sB]
         refine bK 6 (fuel:=2) (by kernel_rfl) (by rfl) (fun K hK=> ?_)
         simp only [aK,tA,tB,tC,tD,fV]
         rw [if_pos (by rfl)]
         obtain ⟨v8,W8,hrun,hown,hg8⟩:=NP JY.out.2 JY.out.1 (by have:=HU.out.len;omega) (g:=g7) (cap:=1) (x:=((rN s1).1==1)) (by rw [cell_of_row _ _ _ _ 4 (0,0) Xh.out];rfl)
         refine wp_append_run _ (.tmp 132) (.tmp 136) 35 35 rfl _ _ v8 W8 rfl rfl (hrun _) ?_
         refine hK.out _ _ ?_ (fun hHeld=> ?_)
         focus (exact trivial)
         clear hK K
         try simp only [Act.put,sA,sC,sB]
         obtain ⟨hup,hlt⟩:=HU.out.step HZ.out HL.out rfl Rq.out JY.out.1 hown hg8
         have H8:=ah (Rq.out.grown hg8 fun q hq=> Nat.lt_of_lt_of_le HB0.out (JY.out.2.lt q hq).1)
         have H8v:=ah (nS.one (ib:=ib) ⟨_,HB0.out,hown⟩)
         have HUP:=ah hup
         have HLT:=ah hlt
         clear hup hlt hrun hown hg8
         refine aY (by kernel_rfl) (fun d _ _ _ _ h=> by cases d <;> exact h) [7] 1 _ _ _ ?_ _ (by rfl) (by kernel_rfl) ?_ (by exact trivial) ?_
         rotate_left
         focus
          simp only [aK,tA,tB,tC,tD]
          (refine Ai ?_;try simp only [Act.put,sA,sC,sB])
          exact Takes.done
         refine bK 8 (fuel:=0) (by kernel_rfl) (by rfl) (fun K hK=> ?_)
         simp only [aK,tA,tB,tC,tD,fV]
         rw [if_pos (by rfl)]
         refine Bg 35 _ _ rfl [v8] (bW {dF with Kind:=9} o0 v8) rfl rfl H8.out.box (by show v8.cells.toList= [v8];rw [oneCell_cells H8v.out]) (by kernel_rfl) (Nat.le_of_ble_eq_true rfl) (by intro u hu;rw [List.mem_singleton.1 hu];exact H8v.out) rfl ?_
         refine hK.out _ _ ?_ (fun hHeld=> ?_)
         focus (exact trivial)
         clear hK K
         try simp only [Act.put,sA,sC,sB]
         refine wpAnyH_done (by kernel_rfl) ?_ _
         generalize W8.setRow ib (bW {dF with Kind:=9} o0 v8)=W9 at HUP ⊢
         have hw:IntKind.i64.wrap (z - 1)=z - 1:=wrap64 (by have:=HU.out.z0;omega) (by have:=HU.out.z1;omega)
         clear c34 H8 H8v Rq Xh JY HO6 Y7
         go_wp2_with fail
         go_roundg (stM (rN s1).2)
         case measure=> have h1:=HLT.out;have h2:=HQ.out;omega
         exact ⟨z - 1,(rN s1).2,acc ++ [(rN s1).1==1],v8,rfl,ah (Nat.le_refl _),HUP⟩
      ·have d2:decide (0 < ((s1.getD []).length:Int))=false:=decide_eq_false (by omega)
       have hs:=HU.out.done (.inr (by omega))
       have HE:Hid (jl 9 s=({dF with Kind:=9,Up:=acc},s1)):=ah (by show (({dF with Kind:=9,Up:=(qL (rN s).1.toNat (rN s).2 []).1}:ak),(qL (rN s).1.toNat (rN s).2 []).2)=_;rw [hs])
       clear hs
       go_wp2_with (go_at_call 28;refine HU.out.rd.left.mono ?_;rintro r W5 ⟨rfl,rfl⟩)
       go_meet
       exact ⟨s1,{dF with Kind:=9,Up:=acc},o0,uv,HE,ah HU.out.rd,ah (lZ.nil _ _),ah ⟨_,HU.out.lo,HU.out.row⟩⟩
     ·have d1:decide (0 < z)=false:=decide_eq_false hz
      have hs:=HU.out.done (.inl hz)
      have HE:Hid (jl 9 s=({dF with Kind:=9,Up:=acc},s1)):=ah (by show (({dF with Kind:=9,Up:=(qL (rN s).1.toNat (rN s).2 []).1}:ak),(qL (rN s).1.toNat (rN s).2 []).2)=_;rw [hs])
      clear hs
      go_wp2_with (go_at_call 28;refine HU.out.rd.left.mono ?_;rintro r W5 ⟨rfl,rfl⟩)
      go_meet
      exact ⟨s1,{dF with Kind:=9,Up:=acc},o0,uv,HE,ah HU.out.rd,ah (lZ.nil _ _),ah ⟨_,HU.out.lo,HU.out.row⟩⟩
  ·have HE:Hid (jl k s=({dF with Kind:=k},s)):=ah (adZ hk s)
   have d0:(k==0)=false:=by simp;omega
   have d1:(k==1)=false:=by simp;omega
   have d2:(k==2)=false:=by simp;omega
   have d3:(k==3)=false:=by simp;omega
   have d4:(k==4)=false:=by simp;omega
   have d5:(k==5)=false:=by simp;omega
   have d6:(k==6)=false:=by simp;omega
   have d7:(k==7)=false:=by simp;omega
   have d8:(k==8)=false:=by simp;omega
   have d9:(k==9)=false:=by simp;omega
   clear hk
   go_wp2_with fail
   go_meet
   exact ⟨s,{dF with Kind:=k},o0,o0,HE,HR,ah (lZ.nil _ _),ah (nS.nil _ _)⟩
 case rest=>
  clear HR
  obtain ⟨st,a,fv,uv,HK,HR,HF,HU⟩:=hcut
  obtain ⟨hin,hfl,Xl⟩:inR a∧a.Raw.Files.length≤1000001∧a.Up.length≤1000001:=by have h:=Xg k alL.out s HSL.out;rw [HK.out] at h;exact h
  have hP:nJ t=(a,st):=HRP.out.trans HK.out
  obtain ⟨c,hc,hcr⟩:=right_eq a hin (by unfold maxLen;omega) (by unfold maxLen;omega)
  have hT:=(text_eq a hin (by unfold maxLen;omega) (by unfold maxLen;omega)).1
  have hB:readB t=(JR st && (@decide (gK a) (Classical.propDecidable _) && (iH a==t))):=by unfold readB;rw [hP]
  have hP2:(nJ t).1=a:=by rw [hP]
  clear hP hin hfl Xl HK HRP alL HSL
  have HC:=ah hc
  clear hc
  go_upto_region 28 with fail
  cases hd:JR st with
  | false=>
   have HA:Hid (readA t=dF∧jQ t=2):=ah (by unfold readA jQ;rw [hB,hd];exact ⟨rfl,rfl⟩)
   clear hB hT hcr
   have hD:=HR.out.done
   rw [hd] at hD
   refine wp_region_lit ?_
   refine bV ?_
   simp only [Act.put,sA,sB,sC]
   refine g_call (by rfl) rfl Tryz.call29 _ rfl (vals:= #[.pointer (some ⟨w.heap.size + 1,0,none⟩)]) (by go_simp;try rfl) hD ?_
   rintro r W5 ⟨rfl,rfl⟩
   refine ⟨_,rfl,?_⟩
   clear hD
   refine bV ?_
   refine bV ?_
   simp only [Act.put,sA,sB,sC]
   refine aW ?_
   simp only [Act.put,sA,sB,sC]
   refine aW ?_
   simp only [Act.put,sA,sB,sC]
   refine aW ?_
   refine bV ?_
   refine bV ?_
   simp only [Act.put,sA,sB,sC]
   refine aW ?_
   simp only [Act.put,sA,sB,sC]
   refine aW ?_
   simp only [Act.put,sA,sB,sC]
   refine aW ?_
   simp only [Act.put,sA,sB,sC]
   refine aW ?_
   refine bV ?_
   simp only [Act.put,sA,sB,sC]
   refine wpList_nil ?_
   go_upto_region 29 with fail
   refine wp_region_lit ?_
   refine wpList_buildTo rfl 37 _ rfl _ rfl (bW dF o0 o0) (by kernel_rfl) ?_
   simp only [Act.put,sA,sB,sC]
   refine jm rfl 37 _ _ rfl (bW dF o0 o0).toList (bW dF o0 o0) rfl rfl HR.out.z.res rfl uH (Nat.le_of_ble_eq_true rfl) (pU rfl rfl) rfl ?_
   refine bV ?_
   simp only [Act.put,sA,sB,sC]
   refine wpList_nil ?_
   go_wp2_with fail
   try simp only [Exit.inBlock,Exit.then]
   refine bodyPost_ret (Bc rfl rfl (setRow_heap _ _ _ _ 37 (0,0) HR.out.z.res) rfl) rfl ?_
   exact ⟨o0,o0,by rw [HA.out.1,HA.out.2];rfl,nO HR.out.z.below (Ob.setRow _ _ _) (Nat.le_refl _),by rw [HA.out.1];exact .fz0 none 0 fun _=> rfl,by rw [HA.out.1];exact .fz0 none 0 fun _=> rfl⟩
  | true=>
   cases c with
   | false=>
    have HA:Hid (readA t=dF∧jQ t=2):=ah (by unfold readA jQ;rw [hB,@decide_eq_false _ (Classical.propDecidable _) (fun h=> by have:=hcr.2 h;cases this),hd];exact ⟨rfl,rfl⟩)
    clear hB hT hcr
    have hD:=HR.out.done
    rw [hd] at hD
    refine wp_region_lit ?_
    refine bV ?_
    simp only [Act.put,sA,sB,sC]
    refine g_call (by rfl) rfl Tryz.call29 _ rfl (vals:= #[.pointer (some ⟨w.heap.size + 1,0,none⟩)]) (by go_simp;try rfl) hD ?_
    rintro r W5 ⟨rfl,rfl⟩
    refine ⟨_,rfl,?_⟩
    clear hD
    refine bV ?_
    refine bV ?_
    simp only [Act.put,sA,sB,sC]
    refine iC (by rfl) _ rfl (.agg (bW a fv uv)) (dB (.tmp 5) rfl rfl HR.out.box rfl) ?_
    simp only [Act.put,sA,sB,sC]
    refine g_call (by rfl) rfl Tryz.call8 _ rfl (vals:= #[.agg (bW a fv uv)]) (by go_simp;try rfl) (jv HC.out (HR.out.z.inv HI.out) (HF.out.rel fun _ _ h=> h) (HU.out.rel fun _ _ h=> h)) ?_
    rintro r W6 ⟨rfl,hb⟩
    refine ⟨_,rfl,?_⟩
    have HF:=ah (HF.out.ob (Ob.of_below (b:=ib) hb) (Nat.le_refl _))
    have HU:=ah (HU.out.ob (Ob.of_below (b:=ib) hb) (Nat.le_refl _))
    have HR:=ah (HR.out.next hb)
    clear hb
    simp only [Act.put,sA,sB,sC]
    refine iR ?_
    refine bV ?_
    refine bV ?_
    simp only [Act.put,sA,sB,sC]
    refine aW ?_
    simp only [Act.put,sA,sB,sC]
    refine aW ?_
    simp only [Act.put,sA,sB,sC]
    refine aW ?_
    simp only [Act.put,sA,sB,sC]
    refine aW ?_
    refine bV ?_
    simp only [Act.put,sA,sB,sC]
    refine wpList_nil ?_
    go_upto_region 29 with fail
    refine wp_region_lit ?_
    refine wpList_buildTo rfl 37 _ rfl _ rfl (bW dF o0 o0) (by kernel_rfl) ?_
    simp only [Act.put,sA,sB,sC]
    refine jm rfl 37 _ _ rfl (bW dF o0 o0).toList (bW dF o0 o0) rfl rfl HR.out.z.res rfl uH (Nat.le_of_ble_eq_true rfl) (pU rfl rfl) rfl ?_
    refine bV ?_
    simp only [Act.put,sA,sB,sC]
    refine wpList_nil ?_
    go_wp2_with fail
    try simp only [Exit.inBlock,Exit.then]
    refine bodyPost_ret (Bc rfl rfl (setRow_heap _ _ _ _ 37 (0,0) HR.out.z.res) rfl) rfl ?_
    exact ⟨o0,o0,by rw [HA.out.1,HA.out.2];rfl,nO HR.out.z.below (Ob.setRow _ _ _) (Nat.le_refl _),by rw [HA.out.1];exact .fz0 none 0 fun _=> rfl,by rw [HA.out.1];exact .fz0 none 0 fun _=> rfl⟩
   | true=>
    have hr:gK a:=hcr.1 rfl
    rw [@decide_eq_true _ (Classical.propDecidable _) hr,hd] at hB
    have HTX:=ah (hT hr)
    clear hT hcr hr
    cases he:(iH a==t) with
    | false=>
     have HA:Hid (readA t=dF∧jQ t=2):=ah (by unfold readA jQ;rw [hB,he];exact ⟨rfl,rfl⟩)
     clear hB
     have hD:=HR.out.done
     rw [hd] at hD
     refine wp_region_lit ?_
     refine bV ?_
     simp only [Act.put,sA,sB,sC]
     refine g_call (by rfl) rfl Tryz.call29 _ rfl (vals:= #[.pointer (some ⟨w.heap.size + 1,0,none⟩)]) (by go_simp;try rfl) hD ?_
     rintro r W5 ⟨rfl,rfl⟩
     refine ⟨_,rfl,?_⟩
     clear hD
     refine bV ?_
     refine bV ?_
     simp only [Act.put,sA,sB,sC]
     refine iC (by rfl) _ rfl (.agg (bW a fv uv)) (dB (.tmp 5) rfl rfl HR.out.box rfl) ?_
     simp only [Act.put,sA,sB,sC]
     refine g_call (by rfl) rfl Tryz.call8 _ rfl (vals:= #[.agg (bW a fv uv)]) (by go_simp;try rfl) (jv HC.out (HR.out.z.inv HI.out) (HF.out.rel fun _ _ h=> h) (HU.out.rel fun _ _ h=> h)) ?_
     rintro r W6 ⟨rfl,hb⟩
     refine ⟨_,rfl,?_⟩
     have HF:=ah (HF.out.ob (Ob.of_below (b:=ib) hb) (Nat.le_refl _))
     have HU:=ah (HU.out.ob (Ob.of_below (b:=ib) hb) (Nat.le_refl _))
     have HR:=ah (HR.out.next hb)
     clear hb
     simp only [Act.put,sA,sB,sC]
     refine iR ?_
     refine bV ?_
     refine bV ?_
     simp only [Act.put,sA,sB,sC]
     refine iC (by rfl) _ rfl (.agg (bW a fv uv)) (dB (.tmp 5) rfl rfl HR.out.box rfl) ?_
     simp only [Act.put,sA,sB,sC]
     refine g_call (by rfl) rfl Tryz.call6 _ rfl (vals:= #[.agg (bW a fv uv)]) (by go_simp;try rfl) (Aw HTX.out (HR.out.z.inv HI.out) (HF.out.rel fun _ _ h=> h) (HU.out.rel fun _ _ h=> h)) ?_
     rintro r W7 ⟨rfl,hb⟩
     refine ⟨_,rfl,?_⟩
     have HF:=ah (HF.out.ob (Ob.of_below (b:=ib) hb) (Nat.le_refl _))
     have HU:=ah (HU.out.ob (Ob.of_below (b:=ib) hb) (Nat.le_refl _))
     have HR:=ah (HR.out.next hb)
     clear hb
     simp only [Act.put,sA,sB,sC]
     refine iR ?_
     simp only [Act.put,sA,sB,sC]
     refine iR ?_
     refine bV ?_
     simp only [Act.put,sA,sB,sC]
     refine wpList_nil ?_
     go_upto_region 29 with fail
     refine wp_region_lit ?_
     refine wpList_buildTo rfl 37 _ rfl _ rfl (bW dF o0 o0) (by kernel_rfl) ?_
     simp only [Act.put,sA,sB,sC]
     refine jm rfl 37 _ _ rfl (bW dF o0 o0).toList (bW dF o0 o0) rfl rfl HR.out.z.res rfl uH (Nat.le_of_ble_eq_true rfl) (pU rfl rfl) rfl ?_
     refine bV ?_
     simp only [Act.put,sA,sB,sC]
     refine wpList_nil ?_
     go_wp2_with fail
     try simp only [Exit.inBlock,Exit.then]
     refine bodyPost_ret (Bc rfl rfl (setRow_heap _ _ _ _ 37 (0,0) HR.out.z.res) rfl) rfl ?_
     exact ⟨o0,o0,by rw [HA.out.1,HA.out.2];rfl,nO HR.out.z.below (Ob.setRow _ _ _) (Nat.le_refl _),by rw [HA.out.1];exact .fz0 none 0 fun _=> rfl,by rw [HA.out.1];exact .fz0 none 0 fun _=> rfl⟩
    | true=>
     have HA:Hid (readA t=a∧jQ t=0):=ah (by unfold readA jQ;rw [hB,he];exact ⟨hP2,rfl⟩)
     clear hB
     have hD:=HR.out.done
     rw [hd] at hD
     refine wp_region_lit ?_
     refine bV ?_
     simp only [Act.put,sA,sB,sC]
     refine g_call (by rfl) rfl Tryz.call29 _ rfl (vals:= #[.pointer (some ⟨w.heap.size + 1,0,none⟩)]) (by go_simp;try rfl) hD ?_
     rintro r W5 ⟨rfl,rfl⟩
     refine ⟨_,rfl,?_⟩
     clear hD
     refine bV ?_
     refine bV ?_
     simp only [Act.put,sA,sB,sC]
     refine iC (by rfl) _ rfl (.agg (bW a fv uv)) (dB (.tmp 5) rfl rfl HR.out.box rfl) ?_
     simp only [Act.put,sA,sB,sC]
     refine g_call (by rfl) rfl Tryz.call8 _ rfl (vals:= #[.agg (bW a fv uv)]) (by go_simp;try rfl) (jv HC.out (HR.out.z.inv HI.out) (HF.out.rel fun _ _ h=> h) (HU.out.rel fun _ _ h=> h)) ?_
     rintro r W6 ⟨rfl,hb⟩
     refine ⟨_,rfl,?_⟩
     have HF:=ah (HF.out.ob (Ob.of_below (b:=ib) hb) (Nat.le_refl _))
     have HU:=ah (HU.out.ob (Ob.of_below (b:=ib) hb) (Nat.le_refl _))
     have HR:=ah (HR.out.next hb)
     clear hb
     simp only [Act.put,sA,sB,sC]
     refine iR ?_
     refine bV ?_
     refine bV ?_
     simp only [Act.put,sA,sB,sC]
     refine iC (by rfl) _ rfl (.agg (bW a fv uv)) (dB (.tmp 5) rfl rfl HR.out.box rfl) ?_
     simp only [Act.put,sA,sB,sC]
     refine g_call (by rfl) rfl Tryz.call6 _ rfl (vals:= #[.agg (bW a fv uv)]) (by go_simp;try rfl) (Aw HTX.out (HR.out.z.inv HI.out) (HF.out.rel fun _ _ h=> h) (HU.out.rel fun _ _ h=> h)) ?_
     rintro r W7 ⟨rfl,hb⟩
     refine ⟨_,rfl,?_⟩
     have HF:=ah (HF.out.ob (Ob.of_below (b:=ib) hb) (Nat.le_refl _))
     have HU:=ah (HU.out.ob (Ob.of_below (b:=ib) hb) (Nat.le_refl _))
     have HR:=ah (HR.out.next hb)
     clear hb
     simp only [Act.put,sA,sB,sC]
     refine iR ?_
     simp only [Act.put,sA,sB,sC]
     refine iR ?_
     refine bV ?_
     simp only [Act.put,sA,sB,sC]
     refine wpList_nil ?_
     go_upto_region 30 with fail
     refine wp_region_lit ?_
     refine Great.wpList_readTo rfl _ rfl (.agg (bW a fv uv)) (dB (.tmp 5) rfl rfl HR.out.box rfl) ?_
     simp only [Act.put,sA,sB,sC]
     refine jm rfl 37 _ _ rfl (bW a fv uv).toList (bW a fv uv) rfl rfl HR.out.z.res rfl uH (Nat.le_of_ble_eq_true rfl) (pU HF.out.one HU.out.one) rfl ?_
     refine bV ?_
     simp only [Act.put,sA,sB,sC]
     refine wpList_nil ?_
     go_wp2_with fail
     try simp only [Exit.inBlock,Exit.then]
     refine bodyPost_ret (Bc rfl rfl (setRow_heap _ _ _ _ 37 (0,0) HR.out.z.res) rfl) rfl ?_
     have hlo:=HR.out.lo
     have HF:=HF.out.ob (Ob.setRow w.heap.size (bW a fv uv) _) (by omega)
     have HU:=HU.out.ob (Ob.setRow w.heap.size (bW a fv uv) _) (by omega)
     exact ⟨fv,uv,by rw [HA.out.1,HA.out.2];rfl,nO HR.out.z.below (Ob.setRow _ _ _) (Nat.le_refl _),by rw [HA.out.1];exact HF.rel fun b h1 h2=> ⟨by omega,h2⟩,by rw [HA.out.1];exact HU.rel fun b h1 h2=> ⟨by omega,h2⟩⟩
end Go.Proofs.YtnegekppaoedgaaGreatDoor

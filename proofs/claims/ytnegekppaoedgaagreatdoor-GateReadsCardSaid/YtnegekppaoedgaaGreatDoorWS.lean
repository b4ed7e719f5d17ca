/-
gate.Read: what is read lies in range; the list of truth values that grows; what is returned.
-/
import Derived.Test.YtnegekppaoedgaaGreatDoorWQ
import Derived.Test.YtnegekppaoedgaaGreatDoorQ16
set_option linter.all false
namespace Go.Proofs.YtnegekppaoedgaaGreatDoor
open Go.RowKit Go.Shelf
theorem zq (s:RS): -9223372036854775808≤(rN s).1∧(rN s).1≤9223372036854775807:=⟨by have:=nI s 59 (least:=0) (by omega);show _≤(dA s 59 0).1;omega,vH s 59 0⟩
theorem asK (s:RS): -9223372036854775808≤(rI s).1∧(rI s).1≤9223372036854775807:=⟨nI s 59 (least:=dw) (by decide),vH s 59 dw⟩
theorem JZ:∀(k:Nat) (st:RS) (acc:List Int),(jc k st acc).1.length≤acc.length + stM st
 | 0,st,acc=> by rw [vG];exact Nat.le_add_right _ _
 | k + 1,none,acc=> Nat.le_add_right _ _
 | k + 1,some s,acc=> by
  have ih:=JZ k (dA (some s) 59 dw).2 (acc ++ [(dA (some s) 59 dw).1])
  have h:=Ba s 59 dw
  rw [List.length_append,List.length_singleton] at ih
  exact Nat.le_trans ih (by omega)
theorem Rt:∀(k:Nat) (st:RS) (acc:List Bool),(qL k st acc).1.length≤acc.length + stM st
 | 0,st,acc=> Nat.le_add_right _ _
 | k + 1,st,acc=> by
  rw [qL]
  split
  ·exact Nat.le_add_right _ _
  ·rename_i hne
   cases st with
   | none=> exact absurd rfl hne
   | some s=>
    have ih:=Rt k (rN (some s)).2 (acc ++ [(rN (some s)).1==1])
    have h:stM (rN (some s)).2 < stM (some s):=Ba s 59 0
    rw [List.length_append,List.length_singleton] at ih
    exact Nat.le_trans ih (by omega)
theorem YX (st:RS):(jB st).1.length≤(st.getD []).length + 1:=by
 have e:jB st=match fF (jc (dA st 91 0).1.toNat (dA st 91 0).2 []).2 93 with
  | none=> ([],none)
  | some r=> ((jc (dA st 91 0).1.toNat (dA st 91 0).2 []).1,some r):=rfl
 rw [e]
 have h1:=jd st 91 0
 have h2:=JZ (dA st 91 0).1.toNat (dA st 91 0).2 []
 have h3:=ND (dA st 91 0).2
 rw [List.length_nil] at h2
 split
 ·exact Nat.zero_le _
 ·simp only
  omega
theorem vJ (s:RS):((rN s).2.getD []).length≤(s.getD []).length:=jd s 59 0
theorem Vb (s:RS):((rI s).2.getD []).length≤(s.getD []).length:=jd s 59 dw
theorem z64: -9223372036854775808≤(0:Int)∧(0:Int)≤9223372036854775807:=by decide
theorem Xg (k:Int) (hk: -9223372036854775808≤k∧k≤9223372036854775807) (s:RS) (hs:(s.getD []).length≤1000000):inR (jl k s).1∧(jl k s).1.Raw.Files.length≤1000001∧(jl k s).1.Up.length≤1000001:=by
 by_cases h:0≤k∧k≤9
 ·have:k=0∨k=1∨k=2∨k=3∨k=4∨k=5∨k=6∨k=7∨k=8∨k=9:=by omega
  rcases this with rfl | rfl | rfl | rfl | rfl | rfl | rfl | rfl | rfl | rfl
  ·refine ⟨⟨fun j=> ?_,by show (0:Int)≤_;decide⟩,?_,Nat.zero_le _⟩
   ·unfold GR
    split <;> first | exact z64 | exact zq _ | exact asK _ | exact hk
   ·have h1:=vJ s
    have h2:=vJ (rN s).2
    have h3:=vJ (rN (rN s).2).2
    have h4:=vJ (rN (rN (rN s).2).2).2
    have h5:=Vb (rN (rN (rN (rN s).2).2).2).2
    have h6:=Vb (rI (rN (rN (rN (rN s).2).2).2).2).2
    have h7:=Vb (rI (rI (rN (rN (rN (rN s).2).2).2).2).2).2
    have h8:=vJ (rI (rI (rI (rN (rN (rN (rN s).2).2).2).2).2).2).2
    have h9:=YX (rN (rI (rI (rI (rN (rN (rN (rN s).2).2).2).2).2).2).2).2
    show (jB (rN (rI (rI (rI (rN (rN (rN (rN s).2).2).2).2).2).2).2).2).1.length≤_
    omega
  ·refine ⟨⟨fun j=> ?_,by show (0:Int)≤_;decide⟩,Nat.zero_le _,Nat.zero_le _⟩
   unfold GR
   split <;> first | exact z64 | exact zq _ | exact hk
  ·refine ⟨⟨fun j=> ?_,by show (0:Int)≤_;decide⟩,Nat.zero_le _,Nat.zero_le _⟩
   unfold GR
   split <;> first | exact z64 | exact zq _ | exact hk
  ·refine ⟨⟨fun j=> ?_,by show (0:Int)≤_;decide⟩,Nat.zero_le _,Nat.zero_le _⟩
   unfold GR
   split <;> first | exact z64 | exact zq _ | exact hk
  ·refine ⟨⟨fun j=> ?_,by show (0:Int)≤_;decide⟩,Nat.zero_le _,Nat.zero_le _⟩
   unfold GR
   split <;> first | exact z64 | exact zq _ | exact hk
  ·refine ⟨⟨fun j=> ?_,by show (0:Int)≤_;decide⟩,Nat.zero_le _,Nat.zero_le _⟩
   unfold GR
   split <;> first | exact z64 | exact zq _ | exact hk
  ·refine ⟨⟨fun j=> ?_,by show (0:Int)≤_;decide⟩,Nat.zero_le _,Nat.zero_le _⟩
   unfold GR
   split <;> first | exact z64 | exact zq _ | exact hk
  ·refine ⟨⟨fun j=> ?_,by show (0:Int)≤_;decide⟩,Nat.zero_le _,Nat.zero_le _⟩
   unfold GR
   split <;> first | exact z64 | exact zq _ | exact hk
  ·refine ⟨⟨fun j=> ?_,by show (0:Int)≤_;decide⟩,Nat.zero_le _,Nat.zero_le _⟩
   unfold GR
   split <;> first | exact z64 | exact zq _ | exact hk
  ·have h1:=vJ s
   have h2:=Rt (rN s).1.toNat (rN s).2 []
   have h3:=ND (rN s).2
   rw [List.length_nil] at h2
   have h4:(jl 9 s).1.Up.length≤1000001:=by
    show (qL (rN s).1.toNat (rN s).2 []).1.length≤_
    omega
   refine ⟨⟨fun j=> ?_,by omega⟩,Nat.zero_le _,h4⟩
   unfold GR
   split <;> first | exact z64 | exact zq _ | exact hk
 ·have e:jl k s=({dF with Kind:=k},s):=by
   unfold jl
   split <;> first | rfl | (exfalso;exact h (by decide))
  rw [e]
  refine ⟨⟨fun j=> ?_,by show (0:Int)≤_;decide⟩,Nat.zero_le _,Nat.zero_le _⟩
  unfold GR
  split <;> first | exact hk | exact z64
theorem adZ {k:Int} (h:¬(0≤k∧k≤9)) (s:RS):jl k s=({dF with Kind:=k},s):=by
 unfold jl
 split <;> first | rfl | (exfalso;exact h (by decide))
section
variable {w W W' : World} {ib : Nat} {st : RS} {C : Array Value}
theorem qK.next (h:qK w ib st C W) (hb:Below W.heap.size W W'):qK w ib st C W':=
 ⟨⟨(hb.block _ (lt_of_block h.z.rd)).trans h.z.rd,(hb.block _ (lt_of_block h.z.res)).trans h.z.res,h.z.below.trans (hb.mono h.z.below.size),h.z.len⟩,(hb.block _ (lt_of_block h.box)).trans h.box,h.lo⟩
theorem qK.grown (h:qK w ib st C W) {row:Option Nat} (hg:W.grownBy W' row) (hr:∀k,row=some k→ib < k):qK w ib st C W':=by
 have hlo:=h.lo
 refine ⟨⟨(hg.block _ (lt_of_block h.z.rd) fun e=> ?_).trans h.z.rd,(hg.block _ (lt_of_block h.z.res) fun e=> ?_).trans h.z.res,⟨hg.os.trans h.z.below.os,hg.tape.trans h.z.below.tape,hg.output.trans h.z.below.output,Nat.le_trans h.z.below.size hg.size,fun k hk=> (hg.block k (Nat.lt_of_lt_of_le hk h.z.below.size) fun e=> ?_).trans (h.z.below.block k hk)⟩,h.z.len⟩,(hg.block _ (lt_of_block h.box) fun e=> ?_).trans h.box,hlo⟩
 all_goals
  have:=hr _ e.symm
  omega
theorem lZ.slice {fl:List Int} {fv:Value} (h:lZ ib fl fv W):∃a n c,fv= .slice a n c:=by
 obtain ⟨_,_,hr⟩:=h
 rcases hr.2 with ⟨rfl,_⟩ | ⟨b,cap,cur,rfl,_⟩
 ·exact ⟨_,_,_,rfl⟩
 ·exact ⟨_,_,_,rfl⟩
theorem lZ.one {fl:List Int} {fv:Value} (h:lZ ib fl fv W):fv.oneCell'=true:=(h.rel (S:=fun _=> True) fun _ _ _=> trivial).one
theorem nS.one {ul:List Bool} {uv:Value} (h:nS ib ul uv W):uv.oneCell'=true:=(h.rel (S:=fun _=> True) fun _ _ _=> trivial).one
end
theorem alM:∃i z,Tryz.prog.info? 4=some i∧i.zero=some z∧i.size=1∧i.bytes=1∧z.cells.size=1:=⟨Tryz.t4,_,by kernel_rfl,rfl,rfl,rfl,rfl⟩
theorem NP {W:World} {B:Nat} {uv:Value} {acc:List Bool} (h:W.ownsRow B 4 1 uv acc.length (acc.map .bool)) (hlo:B≤W.heap.size) (hl:acc.length≤1000001) {g cap:Nat} {x:Bool} (hc:W.cell? ⟨g,0,none⟩=some (.bool x)):
  ∃v' W',(∀ty,(Builtin.append_ #[35,35] ty #[uv,.slice (some ⟨g,0,none⟩) 1 cap]).run Tryz.prog W= .ok v' W')∧W'.ownsRow B 4 1 v' (acc ++ [x]).length ((acc ++ [x]).map .bool)∧W.grownBy W' uv.ownBlock:=by
 obtain ⟨i,z,hi,hz,h1,h2,h3⟩:=alM
 have key:∀ty,∃v' W',(Builtin.append_ #[35,35] ty #[uv,.slice (some ⟨g,0,none⟩) 1 cap]).run Tryz.prog W= .ok v' W'∧W'.ownsRow B 4 1 v' (acc ++ [x]).length ((acc ++ [x]).map .bool)∧W.grownBy W' uv.ownBlock:=fun ty=> by
  obtain ⟨v',W',hrun,ho,hg,_⟩:=run_append_own (P:=Tryz.prog) W B 35 ty 4 i z 1 1 Tryz.underlying35 hi hz h1 h2 h3 (by omega) uv acc.length (acc.map .bool) h ⟨g,0,none⟩ 1 cap [.bool x] rfl (fun j u hj=> by match j,hj with | 0,hj=> rw [Addr.add_mid,hc,←Option.some.inj hj]) (by intro u hu;rw [List.mem_singleton.1 hu];rfl) (by simp only [maxLen];omega) (by omega) hlo
  refine ⟨v',W',hrun,?_,hg⟩
  rw [List.length_append,List.map_append]
  exact ho
 obtain ⟨v',W',hrun,h1,h2⟩:=key 0
 exact ⟨v',W',fun ty=> hrun,h1,h2⟩
structure UpS (w:World) (ib B n0:Nat) (s0:RS) (z:Int) (s:RS) (acc:List Bool) (uv:Value) (W:World):Prop where
 z0:0≤z
 z1:z≤9223372036854775807
 sum:qL z.toNat s acc=qL n0 s0 []
 rd:qK w ib s (bW {dF with Kind:=9} o0 uv) W
 lo:ib < B
 hi:B≤W.heap.size
 row:W.ownsRow B 4 1 uv acc.length (acc.map .bool)
 len:acc.length + stM s≤1000001
theorem UpS.done {w W:World} {ib B n0:Nat} {s0 s:RS} {z:Int} {acc:List Bool} {uv:Value} (h:UpS w ib B n0 s0 z s acc uv W) (hz:¬0 < z∨(s.getD []).length=0):qL n0 s0 []=(acc,s):=by
 rw [←h.sum]
 rcases hz with hz | hz
 ·have:=h.z0
  rw [show z.toNat=0 by omega]
  rfl
 ·cases z.toNat with
  | zero=> rfl
  | succ k=> rw [qL,if_pos hz]
theorem UpS.step {w W W7 W8:World} {ib B n0:Nat} {s0 s:RS} {z:Int} {acc:List Bool} {uv v':Value} {x:Bool} (h:UpS w ib B n0 s0 z s acc uv W) (hz:0 < z) (hl:0 < (s.getD []).length) (hx:x=((rN s).1==1))
  (hr:qK w ib (rN s).2 (bW {dF with Kind:=9} o0 uv) W7) (hB:B≤W7.heap.size) (hown:W8.ownsRow B 4 1 v' (acc ++ [x]).length ((acc ++ [x]).map .bool)) (hg:W7.grownBy W8 uv.ownBlock):
  UpS w ib B n0 s0 (z - 1) (rN s).2 (acc ++ [x]) v' (W8.setRow ib (bW {dF with Kind:=9} o0 v'))∧stM (rN s).2 < stM s:=by
 have hm:stM (rN s).2 < stM s:=by
  cases s with
  | none=> exact absurd hl (Nat.lt_irrefl 0)
  | some l=> exact Ba l 59 0
 have h8:=hr.grown hg fun k hk=> Nat.lt_of_lt_of_le h.lo (h.row.lt k hk).1
 refine ⟨⟨by omega,by have:=h.z1;omega,?_,h8.put _,h.lo,?_,jM hown (Ob.setRow ib _ _) h.lo,?_⟩,hm⟩
 ·rw [←h.sum]
  obtain ⟨k,hk⟩:∃k,z.toNat=k + 1:=⟨z.toNat - 1,by omega⟩
  rw [hk,show (z - 1).toNat=k by omega,qL,if_neg (by omega),hx]
 ·rw [setRow_size]
  exact Nat.le_trans hB hg.size
 ·have:=h.len
  rw [List.length_append,List.length_singleton]
  omega
theorem Bc {fn:Func} {p u:Tmp} (h:fn.results= #[.cell p 37,.tmp u]) {tmps:Array Value} {W:World} {b:Nat} {C:Array Value} (hp:tmps.getD p undef= .pointer (some ⟨b,0,none⟩)) (hb:W.heap[b]? =some (.cells C 37 (0,0))) (hC:C.size=35):(results fn tmps).run Tryz.prog W= .ok (.tuple #[.agg C,tmps.getD u undef]) W:=by
 have hl:=adV hb hC
 simp only [Instr.loadAt,Instr.sureAddr,Sem.run_bind,Sem.run_pure,Result.andThen_ok] at hl
 rw [results_cell_tmp h,hp]
 simp only [asAddr,Sem.run_pure,Result.andThen_ok,hl]
open Classical in
noncomputable def readB (t:List UInt8):Bool:=JR (nJ t).2 && (decide (gK (nJ t).1) && (iH (nJ t).1==t))
noncomputable def readA (t:List UInt8):ak:=bif readB t then (nJ t).1 else dF
noncomputable def jQ (t:List UInt8):Int:=bif readB t then 0 else 2
theorem YZ {f:FuncId} {args:List AV} {r:ByteArray} (h:Fn False Tryz.prog f args (VS r)) {A:Nat→Prop} {W:World} {vals:Array Value} (hI:Inv W) (hA:∀b,A b→b < W.heap.size) (hr:bT (G6 A W) args vals.toList):
  Calls Tryz.prog f vals W fun e W'=> e= .returned (.string r)∧Below W.heap.size W W':=by
 refine (h.2 W A vals hI hA hr).mono ?_
 rintro e W' ⟨v,S',bs,rfl,hb,_,hres,_,_⟩
 obtain ⟨b,_,h1⟩:=hres
 have hrel:aV S' W' (.v (.string r)) v:=h1.1
 rw [fG hrel]
 exact ⟨rfl,hb.toBelow⟩
theorem jv {a:ak} {c:Bool} (hc:fO a=some c) {W:World} {fv uv:Value} (hI:Inv W) (hf:aV (fun b=> b < W.heap.size) W (.fz (a.Raw.Files.map (encI .i64))) fv) (hu:aV (fun b=> b < W.heap.size) W (.fz (a.Up.map jo)) uv):
  Calls Tryz.prog 8 #[.agg (bW a fv uv)] W fun e W'=> e= .returned (.bool c)∧Below W.heap.size W W':=xU (lD hc) hI (fun _ h=> h) (.cons (xY hf hu) (.nil _))
theorem Aw {a:ak} {r:ByteArray} (hc:cZ a=some r) {W:World} {fv uv:Value} (hI:Inv W) (hf:aV (fun b=> b < W.heap.size) W (.fz (a.Raw.Files.map (encI .i64))) fv) (hu:aV (fun b=> b < W.heap.size) W (.fz (a.Up.map jo)) uv):
  Calls Tryz.prog 6 #[.agg (bW a fv uv)] W fun e W'=> e= .returned (.string r)∧Below W.heap.size W W':=YZ (NJ hc) hI (fun _ h=> h) (.cons (xY hf hu) (.nil _))
end Go.Proofs.YtnegekppaoedgaaGreatDoor

/-
DERIVED: THE SHELF's CONTRACTS AT THIS DUMP, IN PLAIN WORDS (tools/lay-plain.mjs out of 'YtmgcnoigihdhpaaGreatDoorShelfB.lean', which tools/lay-shelf.mjs wrote): THE SAME DECLARATIONS UNDER THE SAME NAMES: 'import', 'namespace', 'open', 'def', 'theorem' AND NOTHING ELSE: no command of the shelf's: FOR A HAND-IN. Each laying: the table of numbers ('.._ren') and one theorem, a field a fact of the dump's own or the kernel's comparison; each contract: ONE APPLICATION.
-/
import Derived.Shelf.SlGeneric
import Derived.Shelf.SlIterI.Nil
import Derived.Shelf.SortM.Plain
import Derived.Shelf.SortM.SortNone
import Derived.Ground.GgzProg
import Derived.Ground.SlgmProg
import Derived.Test.YtmgcnoigihdhpaaGreatDoorProg
import Derived.Test.YtmgcnoigihdhpaaGreatDoorQ06
import Derived.Test.YtmgcnoigihdhpaaGreatDoorQ01
import Derived.Maps.RangeWalk
import Derived.Maps.OwnSet
import Derived.Sort.KeysCollected
import Derived.OrdersHeld
import Derived.Deep.RegionHeld3
import Derived.WalkKit
import Derived.WideKeyEntry
namespace Go.Proofs
open Go.Shelf
def Tryz.keys410_ren:Go.Shelf.Ren:=⟨fun | 7=> 410 | 10=> 451 | n=> n,fun | 23=> 373 | 26=> 3 | 3=> 4 | 28=> 119 | 0=> 0 | 27=> 118 | 33=> 198 | 4=> 4 | n=> n,fun | n=> n⟩
theorem Tryz.keys410:Go.Proofs.SlLaysZI.n7 Tryz.prog Tryz.keys410_ren:={
 mixed:=by kernel_rfl
 f7:=⟨Tryz.f410.name,by decide,Tryz.func410.trans (congrArg some (by kernel_rfl))⟩
 f10:=⟨Tryz.f451.name,by decide,Tryz.func451.trans (congrArg some (by kernel_rfl))⟩
 t0:=Tryz.underlying0
 a0:=Tryz.isAgg0
 z0:=Tryz.sizeOf0
 v0:=Tryz.zeroValue0
 t4:=Tryz.underlying4
 a4:=Tryz.isAgg4
 z4:=Tryz.sizeOf4
 v4:=Tryz.zeroValue4
 t23:=Tryz.underlying373
 a23:=Tryz.isAgg373
 z23:=Tryz.sizeOf373
 v23:=Tryz.zeroValue373
 t26:=Tryz.underlying3
 a26:=Tryz.isAgg3
 z26:=Tryz.sizeOf3
 v26:=Tryz.zeroValue3
 t27:=Tryz.underlying118
 a27:=Tryz.isAgg118
 z27:=Tryz.sizeOf118
 v27:=Tryz.zeroValue118
 t28:=Tryz.underlying119
 a28:=Tryz.isAgg119
 z28:=Tryz.sizeOf119
 v28:=Tryz.zeroValue119
 t33:=Tryz.underlying198
 a33:=Tryz.isAgg198
 z33:=Tryz.sizeOf198
 v33:=Tryz.zeroValue198}
def Tryz.keys32_ren:Go.Shelf.Ren:=⟨fun | 7=> 32 | 10=> 77 | n=> n,fun | 23=> 95 | 26=> 3 | 3=> 108 | 28=> 119 | 0=> 0 | 27=> 118 | 33=> 198 | 4=> 4 | n=> n,fun | n=> n⟩
theorem Tryz.keys32:Go.Proofs.SlLaysZI.n7 Tryz.prog Tryz.keys32_ren:={
 mixed:=by kernel_rfl
 f7:=⟨Tryz.f32.name,by decide,Tryz.func32.trans (congrArg some (by kernel_rfl))⟩
 f10:=⟨Tryz.f77.name,by decide,Tryz.func77.trans (congrArg some (by kernel_rfl))⟩
 t0:=Tryz.underlying0
 a0:=Tryz.isAgg0
 z0:=Tryz.sizeOf0
 v0:=Tryz.zeroValue0
 t4:=Tryz.underlying4
 a4:=Tryz.isAgg4
 z4:=Tryz.sizeOf4
 v4:=Tryz.zeroValue4
 t23:=Tryz.underlying95
 a23:=Tryz.isAgg95
 z23:=Tryz.sizeOf95
 v23:=Tryz.zeroValue95
 t26:=Tryz.underlying3
 a26:=Tryz.isAgg3
 z26:=Tryz.sizeOf3
 v26:=Tryz.zeroValue3
 t27:=Tryz.underlying118
 a27:=Tryz.isAgg118
 z27:=Tryz.sizeOf118
 v27:=Tryz.zeroValue118
 t28:=Tryz.underlying119
 a28:=Tryz.isAgg119
 z28:=Tryz.sizeOf119
 v28:=Tryz.zeroValue119
 t33:=Tryz.underlying198
 a33:=Tryz.isAgg198
 z33:=Tryz.sizeOf198
 v33:=Tryz.zeroValue198}
def Tryz.sorted31_ren:Go.Shelf.Ren:=⟨fun | 6=> 31 | 8=> 75 | 9=> 76 | 11=> 107 | 13=> 109 | 12=> 108 | 23=> 192 | 24=> 193 | 14=> 183 | 15=> 184 | 16=> 185 | 17=> 186 | 18=> 187 | 19=> 188 | 20=> 189 | 21=> 190 | 22=> 191 | 25=> 282 | 26=> 283 | 27=> 284 | 28=> 285 | 29=> 286 | 30=> 287 | 31=> 374 | n=> n,fun | 26=> 3 | 28=> 119 | 24=> 35 | 0=> 0 | 3=> 3 | 37=> 225 | 48=> 311 | 50=> 313 | 4=> 4 | 40=> 304 | 39=> 303 | 45=> 308 | 5=> 5 | 9=> 9 | 51=> 380 | 55=> 384 | 57=> 462 | 58=> 463 | 33=> 198 | n=> n,fun | n=> n⟩
theorem Tryz.sorted31:Go.Proofs.SlLaysZI.n6 Tryz.prog Tryz.sorted31_ren:={
 mixed:=by kernel_rfl
 f6:=⟨Tryz.f31.name,by decide,Tryz.func31.trans (congrArg some (by kernel_rfl))⟩
 f8:=⟨Tryz.f75.name,by decide,Tryz.func75.trans (congrArg some (by kernel_rfl))⟩
 f11:=⟨Tryz.f107.name,by decide,Tryz.func107.trans (congrArg some (by kernel_rfl))⟩
 t0:=Tryz.underlying0
 a0:=Tryz.isAgg0
 z0:=Tryz.sizeOf0
 v0:=Tryz.zeroValue0
 t24:=Tryz.underlying35
 a24:=Tryz.isAgg35
 z24:=Tryz.sizeOf35
 v24:=Tryz.zeroValue35
 t26:=Tryz.underlying3
 a26:=Tryz.isAgg3
 z26:=Tryz.sizeOf3
 v26:=Tryz.zeroValue3
 t28:=Tryz.underlying119
 a28:=Tryz.isAgg119
 z28:=Tryz.sizeOf119
 v28:=Tryz.zeroValue119
 i26:=by kernel_rfl}
def Tryz.sortK_ren:Go.Shelf.Ren:=⟨fun | 5=> 76 | 8=> 109 | 7=> 108 | 19=> 192 | 20=> 193 | 10=> 183 | 11=> 184 | 12=> 185 | 13=> 186 | 14=> 187 | 15=> 188 | 16=> 189 | 17=> 190 | 18=> 191 | 30=> 282 | 31=> 283 | 32=> 284 | 33=> 285 | 34=> 286 | 35=> 287 | 40=> 374 | n=> n,fun | 23=> 35 | 25=> 3 | 3=> 3 | 32=> 225 | 22=> 35 | 0=> 0 | 44=> 311 | 46=> 313 | 4=> 4 | 36=> 304 | 35=> 303 | 41=> 308 | 5=> 5 | 9=> 9 | 53=> 380 | 57=> 384 | 63=> 462 | 64=> 463 | n=> n,fun | n=> n⟩
theorem Tryz.sortK:Go.Proofs.SlLaysM.n5 Tryz.prog Tryz.sortK_ren:={
 mixed:=by kernel_rfl
 f5:=⟨Tryz.f76.name,by decide,Tryz.func76.trans (congrArg some (by kernel_rfl))⟩
 f7:=⟨Tryz.f108.name,by decide,Tryz.func108.trans (congrArg some (by kernel_rfl))⟩
 f8:=Tryz.func109.trans (congrArg some (by kernel_rfl))
 f10:=⟨Tryz.f183.name,by decide,Tryz.func183.trans (congrArg some (by kernel_rfl))⟩
 f11:=⟨Tryz.f184.name,by decide,Tryz.func184.trans (congrArg some (by kernel_rfl))⟩
 f12:=⟨Tryz.f185.name,by decide,Tryz.func185.trans (congrArg some (by kernel_rfl))⟩
 f13:=⟨Tryz.f186.name,by decide,Tryz.func186.trans (congrArg some (by kernel_rfl))⟩
 f14:=⟨Tryz.f187.name,by decide,Tryz.func187.trans (congrArg some (by kernel_rfl))⟩
 f15:=⟨Tryz.f188.name,by decide,Tryz.func188.trans (congrArg some (by kernel_rfl))⟩
 f16:=⟨Tryz.f189.name,by decide,Tryz.func189.trans (congrArg some (by kernel_rfl))⟩
 f17:=⟨Tryz.f190.name,by decide,Tryz.func190.trans (congrArg some (by kernel_rfl))⟩
 f18:=⟨Tryz.f191.name,by decide,Tryz.func191.trans (congrArg some (by kernel_rfl))⟩
 f19:=Tryz.func192.trans (congrArg some (by kernel_rfl))
 f20:=Tryz.func193.trans (congrArg some (by kernel_rfl))
 f30:=⟨Tryz.f282.name,by decide,Tryz.func282.trans (congrArg some (by kernel_rfl))⟩
 f31:=Tryz.func283.trans (congrArg some (by kernel_rfl))
 f32:=Tryz.func284.trans (congrArg some (by kernel_rfl))
 f33:=⟨Tryz.f285.name,by decide,Tryz.func285.trans (congrArg some (by kernel_rfl))⟩
 f34:=⟨Tryz.f286.name,by decide,Tryz.func286.trans (congrArg some (by kernel_rfl))⟩
 f35:=⟨Tryz.f287.name,by decide,Tryz.func287.trans (congrArg some (by kernel_rfl))⟩
 f40:=⟨Tryz.f374.name,by decide,Tryz.func374.trans (congrArg some (by kernel_rfl))⟩
 t0:=Tryz.underlying0
 a0:=Tryz.isAgg0
 z0:=Tryz.sizeOf0
 v0:=Tryz.zeroValue0
 t3:=Tryz.underlying3
 a3:=Tryz.isAgg3
 z3:=Tryz.sizeOf3
 v3:=Tryz.zeroValue3
 t4:=Tryz.underlying4
 a4:=Tryz.isAgg4
 z4:=Tryz.sizeOf4
 v4:=Tryz.zeroValue4
 t5:=Tryz.underlying5
 a5:=Tryz.isAgg5
 z5:=Tryz.sizeOf5
 v5:=Tryz.zeroValue5
 t9:=Tryz.underlying9
 a9:=Tryz.isAgg9
 z9:=Tryz.sizeOf9
 v9:=Tryz.zeroValue9
 t22:=Tryz.underlying35
 a22:=Tryz.isAgg35
 z22:=Tryz.sizeOf35
 v22:=Tryz.zeroValue35
 t23:=Tryz.underlying35
 a23:=Tryz.isAgg35
 z23:=Tryz.sizeOf35
 v23:=Tryz.zeroValue35
 t25:=Tryz.underlying3
 a25:=Tryz.isAgg3
 z25:=Tryz.sizeOf3
 v25:=Tryz.zeroValue3
 t32:=Tryz.underlying225
 a32:=Tryz.isAgg225
 z32:=Tryz.sizeOf225
 v32:=Tryz.zeroValue225
 t35:=Tryz.underlying303
 a35:=Tryz.isAgg303
 z35:=Tryz.sizeOf303
 v35:=Tryz.zeroValue303
 t36:=Tryz.underlying304
 a36:=Tryz.isAgg304
 z36:=Tryz.sizeOf304
 v36:=Tryz.zeroValue304
 t41:=Tryz.underlying308
 a41:=Tryz.isAgg308
 z41:=Tryz.sizeOf308
 v41:=Tryz.zeroValue308
 t44:=Tryz.underlying311
 a44:=Tryz.isAgg311
 z44:=Tryz.sizeOf311
 v44:=Tryz.zeroValue311
 t46:=Tryz.underlying313
 a46:=Tryz.isAgg313
 z46:=Tryz.sizeOf313
 v46:=Tryz.zeroValue313
 t53:=Tryz.underlying380
 a53:=Tryz.isAgg380
 z53:=Tryz.sizeOf380
 v53:=Tryz.zeroValue380
 t57:=Tryz.underlying384
 a57:=Tryz.isAgg384
 z57:=Tryz.sizeOf384
 v57:=Tryz.zeroValue384
 t63:=Tryz.underlying462
 a63:=Tryz.isAgg462
 z63:=Tryz.sizeOf462
 v63:=Tryz.zeroValue462
 t64:=Tryz.underlying463
 a64:=Tryz.isAgg463
 z64:=Tryz.sizeOf463
 v64:=Tryz.zeroValue463}
end Go.Proofs
namespace Go.Proofs.YtmgcnoigihdhpaaGreatDoor.Ci
open Go.RowKit Go.Shelf Go.Proofs
theorem lays240:Lays.n240 Tryz.prog Tryz.lays156_ren:={
 mixed:=Tryz.lays156.mixed
 f240:=Tryz.lays156.f240
 f276:=Tryz.lays156.f276
 t0:=Tryz.lays156.t0
 a0:=Tryz.lays156.a0
 z0:=Tryz.lays156.z0
 v0:=Tryz.lays156.v0
 t4:=Tryz.lays156.t4
 a4:=Tryz.lays156.a4
 z4:=Tryz.lays156.z4
 v4:=Tryz.lays156.v4
 t9:=Tryz.lays156.t9
 a9:=Tryz.lays156.a9
 z9:=Tryz.lays156.z9
 v9:=Tryz.lays156.v9
 t20:=Tryz.lays156.t20
 a20:=Tryz.lays156.a20
 z20:=Tryz.lays156.z20
 v20:=Tryz.lays156.v20
 t70:=Tryz.lays156.t70
 a70:=Tryz.lays156.a70
 z70:=Tryz.lays156.z70
 v70:=Tryz.lays156.v70
 t72:=Tryz.lays156.t72
 a72:=Tryz.lays156.a72
 z72:=Tryz.lays156.z72
 v72:=Tryz.lays156.v72
 t164:=Tryz.lays156.t164
 a164:=Tryz.lays156.a164
 z164:=Tryz.lays156.z164
 v164:=Tryz.lays156.v164
 }
theorem builderX:Builder.Extra Tryz.prog Tryz.lays156_ren:={
 sizeBuilder:=by kernel_rfl
 liesBuilder:=by kernel_rfl
 t5:=Tryz.underlying5
 a5:=Tryz.isAgg5
 z5:=Tryz.sizeOf5
 v5:=Tryz.zeroValue5
 infoByte:=by kernel_rfl
 cellsByte:=by kernel_rfl
 sizeByte:=by kernel_rfl
 neB5:=by decide
 }
abbrev Ext:=FuncId→List CV→Tr Blk→Nat→Option Res
noncomputable def extL (more:Ext):Ext:=fun f args h nx=> ifB (Nat.beq f 106) (xCopy 192 h nx args) (ifB (Nat.beq f 104) (xItoa h nx args) (ifB (Nat.beq f 43) (xJoin h nx args) (ifB (Nat.beq f 357) (xIdx h nx args) (ifB (Nat.beq f 248) (xAtoi h nx args) (ifB (Nat.beq f 503) (xCut h nx args) (ifB (Nat.beq f 31) (xSort 451 h nx args) (more f args h nx)))))))
theorem sortsIn:AnyZI.SortsIn Tryz.prog Tryz.sorted31_ren Fence.wide 4:=⟨fun blk off cap ss W hH hblk hsz=> callsIn_wide.2 (AnyM.slices_Sort_int Tryz.sortK blk off cap ss W hH hblk hsz),fun p cap W=> callsIn_wide.2 (AnyM.slices_Sort_int_none Tryz.sortK p cap W)⟩
theorem extL_ok {G:Base→Prop} (htab:∀w0 w,G w0→BelowF w0 w→Lib.TabIs Tryz.prog w "internal/strconv.uint64pow10" .u64 Lib.pow10Tab) (hmx:∀w0 w,G w0→BelowF w0 w→∃m,w.cell? ⟨Tryz.laysCut_ren.g 1,0,none⟩=some (.int .i64 m)) {more:Ext} (hm:ExtOk Tryz.prog G more):ExtOk Tryz.prog G (extL more):=by
 intro f args H nx v H' nx' h w0 σ w vals hG hr hL
 rcases ifB_cases (show ifB (Nat.beq f 106) (xCopy 192 H nx args) _=_ from h) with ⟨e,h1⟩ | ⟨_,h1⟩
 ·have e:=beq_eq' e
  subst e
  exact ⟨Tryz.call106 vals w,copy_ext (ρ:=Tryz.lays156_ren) lays240 builderX.toX72 h1 hr hL⟩
 rcases ifB_cases h1 with ⟨e,h2⟩ | ⟨_,h2⟩
 ·have e:=beq_eq' e
  subst e
  exact ⟨Tryz.call104 vals w,itoa_ext (ρ:=Tryz.laysItoa_ren) Tryz.laysItoa htab h2 hG hr hL⟩
 rcases ifB_cases h2 with ⟨e,h3⟩ | ⟨_,h3⟩
 ·have e:=beq_eq' e
  subst e
  exact ⟨Tryz.call43 vals w,join_ext (ρ:=Tryz.lays156_ren) Tryz.lays156 builderX h3 hr hL⟩
 rcases ifB_cases h3 with ⟨e,h4⟩ | ⟨_,h4⟩
 ·have e:=beq_eq' e
  subst e
  exact ⟨Tryz.call357 vals w,idx_ext (ρ:=Tryz.laysIdx_ren) Tryz.laysIdx h4 hr hL⟩
 rcases ifB_cases h4 with ⟨e,h5⟩ | ⟨_,h5⟩
 ·have e:=beq_eq' e
  subst e
  exact ⟨Tryz.call248 vals w,atoi_ext (ρ:=Tryz.laysAtoi_ren) Tryz.laysAtoi h5 hr hL⟩
 rcases ifB_cases h5 with ⟨e,h6⟩ | ⟨_,h6⟩
 ·have e:=beq_eq' e
  subst e
  exact ⟨Tryz.call503 vals w,cut_ext (ρ:=Tryz.laysCut_ren) Tryz.laysCut hmx h6 hG hr hL⟩
 rcases ifB_cases h6 with ⟨e,h7⟩ | ⟨_,h7⟩
 ·have e:=beq_eq' e
  subst e
  exact ⟨Tryz.call31 vals w,sort_ext (ρ:=Tryz.keys410_ren) (σr:=Tryz.sorted31_ren) Tryz.keys410 Tryz.sorted31 sortsIn Tryz.call76 Tryz.call451 h7 hr hL⟩
 ·exact hm f args H nx v H' nx' h7 w0 σ w vals hG hr hL
theorem mixed:Tryz.prog.follows .mixedOrders=true:=Tryz.lays156.mixed
end Go.Proofs.YtmgcnoigihdhpaaGreatDoor.Ci
namespace Go.Proofs.YtmgcnoigihdhpaaGreatDoor
open Go.RowKit Go.Maps Go.Shelf
structure Bld (B b:Nat) (p v:Value) (bs:List Value) (w:World):Prop where
 ge:B≤b
 at_:w.heap[b]? =some (.cells #[p,v] 192 (0,0))
 own:w.ownsRow B 5 1 v bs.length bs
 ne:v.ownBlock≠some b
theorem Bld.lt {B b:Nat} {p v:Value} {bs:List Value} {w:World} (h:Bld B b p v bs w):b < w.heap.size:=(Array.getElem?_eq_some_iff.1 h.at_).1
set_option maxHeartbeats 2000000 in
set_option maxRecDepth 100000 in
theorem write_used (B b:Nat) (v:Value) (bs:List Value) (ad:Addr) (m c:Nat) (news:List Value) (w0 w:World) (h:Bld B b (.pointer (some ⟨b,0,none⟩)) v bs w)
  (hc:Calls Tryz.prog 106 #[.pointer (some ⟨b,0,none⟩)] w0 fun e w'=> e= .returned (.tuple #[])∧w'=w) (hb0:Below B w0 w)
  (hl:news.length=m) (hnews:∀j u,news[j]? =some u→w.cell? (ad.add j)=some u) (h1:∀u∈news,u.oneCell'=true) (hlen:bs.length + m≤1000000000) (hBw:B≤w.heap.size):
  Calls Tryz.prog 73 #[.pointer (some ⟨b,0,none⟩),.slice (some ad) m c] w0 fun e w'=> e= .returned (.tuple #[.int .i64 m,.nilIface])∧∃v',Bld B b (.pointer (some ⟨b,0,none⟩)) v' (bs ++ news) w'∧Below B w0 w':=by
 obtain ⟨i0,hi,hz0,hz1,hz2⟩:=info_parts Ci.builderX.infoByte
 have hbk:=h.at_
 have hown:=h.own
 have hne:=h.ne
 have hB:=h.ge
 have hlt:=h.lt
 clear h
 have c0:w.cell? ⟨b,0,none⟩=some (.pointer (some ⟨b,0,none⟩)):=by rw [Lib.cell_of_heap hbk];rfl
 have c1:w.cell? ⟨b,1,none⟩=some v:=by rw [Lib.cell_of_heap hbk];rfl
 have HB0:=Lib.hid hb0
 clear hb0
 go_enter Tryz.func73,Tryz.ntmps73
 go_wp2_with (first
  | (go_at_call 106;refine hc.mono ?_;rintro r w1 ⟨rfl,rfl⟩)
  | (at_builtin;refine wpList_append_own _ rfl _ _ 189 rfl B 5 i0 (.int .u8 0) 1 1 Tryz.underlying189 hi hz0 hz1 hz2 rfl (by decide) _ _ _ rfl hown ad m c news rfl (by omega) hnews h1 (by simp only [maxLen];omega) (by omega) hBw ?_;intro v' w2 hown' hgrow _;have hb2:w2.heap[b]? =some (.cells #[.pointer (some ⟨b,0,none⟩),v] 192 (0,0)):=(hgrow.block b hlt (fun e=> hne e.symm)).trans hbk;have f1:w2.frozen? ⟨b,1,none⟩=false:=Lib.frozen_of_heap hb2 1;have d1:w2.cell? ⟨b,1,none⟩=some v:=(by rw [Lib.cell_of_heap hb2];rfl);obtain ⟨ao,n',cap,rfl⟩:∃ao n' cap,v'= .slice ao n' cap:=(by rcases hown'.2 with ⟨hv,_⟩ | ⟨g,cap,cur,hv,_⟩ <;> exact ⟨_,_,_,hv⟩)))
 go_ret2
 obtain ⟨_,v2,hh,ho,hn⟩:=Lib.BuilderAt.put (T:=192) (e:=5) hB hb2 (bs':=bs ++ news) (by simpa [hl] using hown') (by decide)
 exact ⟨rfl,v2,⟨hB,hh,ho,hn⟩,(HB0.out.grown hgrow hBw fun k hk=> (hown.lt k hk).1).setCell (p:=⟨b,1,none⟩) hB _⟩
theorem write_any (B b:Nat) (p v:Value) (bs:List Value) (ad:Addr) (m c:Nat) (news:List Value) (w:World) (h:Bld B b p v bs w) (hp:p= .pointer none∨p= .pointer (some ⟨b,0,none⟩))
  (hl:news.length=m) (hnews:∀j u,news[j]? =some u→w.cell? (ad.add j)=some u) (hadb:ad.block≠b) (h1:∀u∈news,u.oneCell'=true) (hlen:bs.length + m≤1000000000) (hBw:B≤w.heap.size):
  Calls Tryz.prog 73 #[.pointer (some ⟨b,0,none⟩),.slice (some ad) m c] w fun e w'=> e= .returned (.tuple #[.int .i64 m,.nilIface])∧∃v',Bld B b (.pointer (some ⟨b,0,none⟩)) v' (bs ++ news) w'∧Below B w w':=by
 have hbk:=h.at_
 rcases hp with rfl | rfl
 ·have hc:=Any.Builder_copyCheck_fresh (ρ:=Tryz.lays156_ren) Ci.lays240 Ci.builderX.toX72 b w (by rw [Lib.cell_of_heap hbk];rfl) (by simp [World.shape?,hbk];rfl) (Lib.frozen_of_heap hbk 0)
  have hset:(w.setCell ⟨b,0,none⟩ (.pointer (some ⟨b,0,none⟩))).heap[b]? =some (.cells #[.pointer (some ⟨b,0,none⟩),v] 192 (0,0)):=by
   have:=Lib.heap_setCell_same (i:=0) hbk (.pointer (some ⟨b,0,none⟩))
   simpa using this
  have hgr:=Lib.grownBy_setCell w b 0 (.pointer (some ⟨b,0,none⟩))
  refine write_used B b v bs ad m c news w _ ⟨h.ge,hset,h.own.kept hgr (Or.inr h.ne),h.ne⟩ hc ((Below.refl B w).setCell (p:=⟨b,0,none⟩) h.ge _) hl (fun j u hj=> ?_) h1 hlen (by simpa [World.setCell] using hBw)
  rw [World.cell?_of_block (hgr.block _ (World.block_lt_of_cell? w _ (hnews j u hj)) (fun e=> ?_))]
  ·exact hnews j u hj
  ·unfold Addr.add at e
   split at e <;> (injection e with e;exact hadb e)
 ·exact write_used B b v bs ad m c news w w h (Any.Builder_copyCheck_used (ρ:=Tryz.lays156_ren) Ci.lays240 Ci.builderX.toX72 b w (by rw [Lib.cell_of_heap hbk];rfl)) (Below.refl _ _) hl hnews h1 hlen hBw
theorem lays169:Lays.n169 Tryz.prog Tryz.lays156_ren:={
 mixed:=Tryz.lays156.mixed
 f169:=Tryz.lays156.f169
 t0:=Tryz.lays156.t0
 a0:=Tryz.lays156.a0
 z0:=Tryz.lays156.z0
 v0:=Tryz.lays156.v0
 t3:=Tryz.lays156.t3
 a3:=Tryz.lays156.a3
 z3:=Tryz.lays156.z3
 v3:=Tryz.lays156.v3
 t9:=Tryz.lays156.t9
 a9:=Tryz.lays156.a9
 z9:=Tryz.lays156.z9
 v9:=Tryz.lays156.v9
 t37:=Tryz.lays156.t37
 a37:=Tryz.lays156.a37
 z37:=Tryz.lays156.z37
 v37:=Tryz.lays156.v37
 t70:=Tryz.lays156.t70
 a70:=Tryz.lays156.a70
 z70:=Tryz.lays156.z70
 v70:=Tryz.lays156.v70
 t72:=Tryz.lays156.t72
 a72:=Tryz.lays156.a72
 z72:=Tryz.lays156.z72
 v72:=Tryz.lays156.v72
 t127:=Tryz.lays156.t127
 a127:=Tryz.lays156.a127
 z127:=Tryz.lays156.z127
 v127:=Tryz.lays156.v127}
theorem string_any (B b:Nat) (p v:Value) (l:List UInt8) (w:World) (h:Bld B b p v (Lib.byteCells l) w) (hp:p= .pointer none∨p= .pointer (some ⟨b,0,none⟩)) (hn:l= []→v= .slice none 0 0):
  Calls Tryz.prog 74 #[.pointer (some ⟨b,0,none⟩)] w fun e w'=> e= .returned (.string ⟨l.toArray⟩)∧Below B w w':=by
 by_cases h0:l= []
 ·have hv:=hn h0
  subst h0 hv
  exact Any.Builder_String_nil (ρ:=Tryz.lays156_ren) lays169 Ci.builderX B b p w h.at_
 ·refine Any.Builder_String (ρ:=Tryz.lays156_ren) lays169 Ci.builderX B b l w ?_ h0
  rcases hp with rfl | rfl
  ·exact Or.inl ⟨h.ge,v,h.at_,h.own,h.ne⟩
  ·exact Or.inr ⟨h.ge,v,h.at_,h.own,h.ne⟩
theorem Bld.keep {B b:Nat} {p v:Value} {bs:List Value} {w w':World} (h:Bld B b p v bs w) (hw:Below w.heap.size w w'):Bld B b p v bs w':=by
 refine ⟨h.ge,(hw.block b h.lt).trans h.at_,⟨h.own.1,?_⟩,h.ne⟩
 rcases h.own.2 with h1 | ⟨g,cap,cur,h1,h2,h3,h4⟩
 ·exact Or.inl h1
 ·exact Or.inr ⟨g,cap,cur,h1,h2,(hw.block g (Array.getElem?_eq_some_iff.1 h3).1).trans h3,h4⟩
theorem byte_range (w:World) (c:Ch):(w.alloc (.cells (kl c).toArray 113)).rangeAt w.heap.size 1 (Lib.byteCells c):=fun j v hv=> by
 have hj:j < c.length:=by have:=(List.getElem?_eq_some_iff.1 hv).1;simpa [Lib.byteCells] using this
 have:=new_range w c (1 + j) v (by
  unfold kl pad
  rw [Nat.add_comm,List.getElem?_cons_succ,List.map_append,List.getElem?_append_left (by simpa using hj)]
  exact hv)
 simpa using this
theorem slice_run (w:World) (eb:Nat) {n:Nat} (hn:n≤32):(Instr.sliceAt 111 (.pointer (some ⟨eb,1,none⟩)) none (some (.int .i64 (n:Int))) none).run Tryz.prog w= .ok (.slice (some ⟨eb,1,none⟩) n 32) w:=by
 have ha:Tryz.prog.arrayLen 111=32:=by kernel_rfl
 have he:Tryz.prog.elem 111=5:=by kernel_rfl
 rw [run_sliceAt_array_h (P:=Tryz.prog) w 111 ⟨eb,1,none⟩ (by rw [ha,he];exact Tryz.underlying111) .i64 n (by omega) (by rw [ha];omega),he,Tryz.sizeOf5]
 simp only [Result.andThen_ok,slicedAt,ha]
 simp [Addr.add_mid]
def ftext (f:List Ch):List UInt8:=f.flatten
theorem ftext_len (f:List Ch):(ftext f).length=fsize f:=by simp [ftext,fsize,List.length_flatten]
set_option maxRecDepth 100000 in
set_option maxHeartbeats 4000000 in
theorem text_walk (lo:Nat) (v:Value) (f:List Ch) (w:World) (h:FileAt lo w v f) (hl:f.length≤1000000) (hne:∀c∈f,c≠ []):
  Calls Tryz.prog 29 #[v] w fun e w'=> e= .returned (.string ⟨(ftext f).toArray⟩)∧Below w.heap.size w w':=by
 obtain ⟨a,cap,rfl,hr⟩:=h.slice
 have HR:=Lib.hid hr
 have HO:=Lib.hid h.1
 have HNE:=Lib.hid hne
 clear hr h hne
 generalize hn:f.length=n at *
 have HN:=Lib.hid hn
 clear hn
 go_enter Tryz.func29,Tryz.ntmps29
 go_upto_region 2 with fail
 have HW:Hid (Bld w.heap.size w.heap.size (.pointer none) (.slice none 0 0) [] (w.alloc (.cells #[.pointer none,.slice none 0 0] 192))):=Lib.hid ⟨Nat.le_refl _,heap_alloc_new w _,World.ownsRow_nil _ _ _ _,by simp [Value.ownBlock]⟩
 have HB:Hid (Below w.heap.size w (w.alloc (.cells #[.pointer none,.slice none 0 0] 192))):=Lib.hid (below_alloc w _)
 generalize w.alloc (.cells #[.pointer none,.slice none 0 0] 192)=W0 at HW HB ⊢
 generalize hs:w.heap.size=B at *
 have HS:=Lib.hid hs
 clear hs
 go_wp2_with fail
 go_loopg [8] n (fun q y W=> ∃(k:Nat) (p v:Value),k + q=n∧y= .int .i64 k∧Hid (p= .pointer none∨p= .pointer (some ⟨B,0,none⟩))∧Hid (Bld B B p v (Lib.byteCells (ftext (f.take k))) W)∧Hid (Below B w W)∧Hid (k=0→v= .slice none 0 0))
 case atStart=> exact ⟨0,_,_,by omega,rfl,Lib.hid (Or.inl rfl),HW,HB,Lib.hid fun _=> rfl⟩
 case round=>
  obtain ⟨k,p,v,hk,rfl,HP,HL,HB,HV⟩:=hrel
  clear HW
  by_cases hlt:k < n
  ·obtain ⟨c,hc⟩:∃c,f[k]? =some c:=⟨_,List.getElem?_eq_getElem (by rw [HN.out];exact hlt)⟩
   obtain ⟨g,rfl,_,hg,hat⟩:∃g,a=some ⟨g,0,none⟩∧lo≤g∧g < B∧∀i c,f[i]? =some c→w.rangeAt g (i * 33) (kl c):=HR.out.resolve_left fun e=> by rw [e] at hc;simp at hc
   have hrg:Hid (wr.rangeAt g (k * 33) (kl c)):=Lib.hid fun j u hu=> by
    rw [HB.out.cell (p:=⟨g,k * 33 + j,none⟩) hg]
    exact hat k c hc j u hu
   have hok:=Lib.hid (HO.out c (List.mem_of_getElem? hc))
   have HC:=Lib.hid hc
   clear hat hg hc
   go_upto_region 4 with fail
   refine wp_region_lit ?_
   (refine rdT ?_;simp only [Act.put,sA,sB,sC])
   refine l_load rfl _ rfl hok.out _ _ rfl hrg.out ?_
   (simp only [Act.put,sA,sB,sC])
   refine l_alloc rfl rfl ?_
   (simp only [Act.put,sA,sB,sC])
   refine l_store rfl _ _ rfl rfl _ (by simp [kl_len hok.out]) (all_oneCell_toArray (kl_one c)) rfl rfl ?_
   (simp only [Act.put])
   have hcell:=cell0 wr c
   have HRG:=Lib.hid (byte_range wr c)
   have HB1:=Lib.hid (HB.out.alloc (by have:=HB.out.size;have:=HL.out.lt;omega) (.cells (kl c).toArray 113))
   have HL1:=Lib.hid (HL.out.keep (below_alloc wr (.cells (kl c).toArray 113)))
   have HEB:Hid (wr.heap.size≠B):=Lib.hid (by have:=HL.out.lt;omega)
   generalize wr.alloc (.cells (kl c).toArray 113)=W1 at hcell HB1 HL1 HRG ⊢
   clear hrg HB HL
   generalize wr.heap.size=eb at hcell HRG HEB ⊢
   refine wpList_nil ?_
   have hcl:c.length≤32:=hok.out
   have hsl:(Instr.sliceAt 111 (.pointer (some ⟨eb,1,none⟩)) none (some (.int .i64 (c.length:Int))) none).run Tryz.prog W1= .ok (.slice (some ⟨eb,1,none⟩) c.length 32) W1:=slice_run W1 eb hcl
   have HLE:Hid ((Lib.byteCells (ftext (f.take k))).length + c.length≤1000000000):=Lib.hid (by
    have h1:=fsize_le (f:=f.take k) fun d hd=> HO.out d (List.mem_of_mem_take hd)
    have h2:=List.length_take_le k f
    rw [Lib.byteCells_length,ftext_len]
    omega)
   go_wp2_with (go_at_call 73;refine (write_any B B p v _ ⟨eb,1,none⟩ c.length _ (Lib.byteCells c) W1 HL1.out HP.out (Lib.byteCells_length c) (fun j u hj=> by rw [Addr.add_mid];exact HRG.out j u hj) HEB.out (Lib.byteCells_one c) HLE.out (by have:=HB1.out.size;have:=HS.out;omega)).mono ?_;rintro r W2 ⟨rfl,v2,hb2,hbel⟩;have HL2:=Lib.hid hb2;have HB2:=Lib.hid (HB1.out.trans hbel);clear hb2 hbel)
   go_roundg (gk - 1)
   case measure=> omega
   refine ⟨k + 1,_,v2,by omega,by rw [Int.natCast_add];rfl,Lib.hid (Or.inr rfl),?_,HB2,Lib.hid fun e=> by omega⟩
   have e:ftext (f.take (k + 1))=ftext (f.take k) ++ c:=by
    unfold ftext
    rw [List.take_add_one,HC.out]
    simp
   rw [e]
   have e2:Lib.byteCells (ftext (f.take k) ++ c)=Lib.byteCells (ftext (f.take k)) ++ Lib.byteCells c:=by simp [Lib.byteCells]
   rw [e2]
   exact HL2
  ·obtain rfl:k=n:=by omega
   have hf:f.take k=f:=by rw [←HN.out,List.take_length]
   rw [hf] at HL
   have hfn:ftext f= []→k=0:=fun e=> by
    cases hq:f with
    | nil=> rw [←HN.out,hq];rfl
    | cons c f'=>
     exfalso
     rw [hq] at e
     have:=HNE.out c (by rw [hq];simp)
     unfold ftext at e
     rw [List.flatten_cons,List.append_eq_nil_iff] at e
     exact this e.1
   have HE:=Lib.hid fun e=> HV.out (hfn e)
   clear hfn
   go_wp2_with (go_at_call 74;refine (string_any B B p v (ftext f) wr HL.out HP.out HE.out).mono ?_;rintro r W2 ⟨rfl,hbel⟩;have HB2:=Lib.hid (HB.out.trans hbel);clear hbel)
   go_ret
   exact ⟨rfl,by rw [HS.out];exact HB2.out⟩
end Go.Proofs.YtmgcnoigihdhpaaGreatDoor
namespace Go.Proofs.YtmgcnoigihdhpaaGreatDoor
open Go.RowKit Go.Maps
set_option maxRecDepth 100000 in
set_option maxHeartbeats 4000000 in
theorem of_in (b i:Nat) (w:World) (hi:i < 12):Calls Tryz.prog 26 #[.pointer (some ⟨b,0,none⟩),.int .i64 (i:Int)] w fun e w'=> e= .returned (.tuple #[.pointer (some ⟨b,1 + i * 2,none⟩),.bool true])∧w'=w:=by
 go_enter Tryz.func26,Tryz.ntmps26
 go_wp2_with fail
 go_ret2
 exact ⟨rfl,rfl⟩
set_option maxRecDepth 100000 in
set_option maxHeartbeats 4000000 in
theorem of_out (p:Value) (x:Int) (w:World) (hx:x < 0∨12≤x):Calls Tryz.prog 26 #[p,.int .i64 x] w fun e w'=> e= .returned (.tuple #[.pointer none,.bool false])∧w'=w:=by
 by_cases h0:x < 0
 ·go_enter Tryz.func26,Tryz.ntmps26
  go_wp2_with fail
  go_ret2
  exact ⟨rfl,rfl⟩
 ·have h1:12≤x:=by omega
  go_enter Tryz.func26,Tryz.ntmps26
  go_wp2_with fail
  go_ret2
  exact ⟨rfl,rfl⟩
def inI (a:Int):Prop:=(Lit.int .i64 a).wf=true
theorem inI_nat {k:Nat} (h:k≤1000000):inI (k:Int):=by
 have h1:IntKind.i64.min≤(k:Int):=by show (-9223372036854775808:Int)≤k;omega
 have h2:(k:Int)≤IntKind.i64.max:=by show (k:Int)≤9223372036854775807;omega
 simp [inI,Lit.wf,h1]
 exact h2
theorem keyed3:Keyed Tryz.prog 3:=int_keyed Tryz.underlying3
theorem key3 {k:Int} (h:inI k):keyOf Tryz.prog 3 (.int .i64 k)=some (.int .i64 k):=keyOf_int_mk Tryz.underlying3 h
theorem lit3 {k:Int} (h:inI k):WideAt.IsKeyLit (.int .i64 k):=keyed3.key (key3 h)
def heldR:Value→Option (DataW Value×List MemPlace):=fun v=> some (.held v,[])
abbrev Fls:=List (Int×List Ch)
def getF (L:Fls) (k:Int):Option (List Ch):=(L.find? fun p=> p.1==k).map (·.2)
theorem getF_mem {L:Fls} {k:Int} {f:List Ch} (h:getF L k=some f):(k,f)∈L:=by
 unfold getF at h
 cases hq:L.find? fun p=> p.1==k with
 | none=> rw [hq] at h;cases h
 | some p=>
  rw [hq] at h
  injection h with h
  have h1:=List.find?_some hq
  have h2:=List.mem_of_find?_eq_some hq
  have h3:p.1=k:=by simpa using h1
  rw [←h,←h3]
  exact h2
theorem getF_push {L:Fls} {k:Int} (f:List Ch) (h:∀p∈L,p.1≠k) (j:Int):getF (L ++ [(k,f)]) j=if j=k then some f else getF L j:=by
 by_cases hj:j=k
 ·subst hj
  rw [if_pos rfl]
  unfold getF
  rw [List.find?_append,List.find?_eq_none.2 fun p hp=> by simpa using h p hp]
  simp
 ·rw [if_neg hj]
  unfold getF
  rw [List.find?_append]
  have:(k==j)=false:=by simpa using fun e=> hj e.symm
  simp [this]
theorem getF_drop (L:Fls) (k j:Int):getF (L.filter fun p=> p.1 !=k) j=if j=k then none else getF L j:=by
 unfold getF
 by_cases hj:j=k
 ·subst hj
  rw [if_pos rfl,List.find?_filter,List.find?_eq_none.2 fun p hp=> by
   by_cases h:p.1=j
   ·simp [h]
   ·simp [h]]
  rfl
 ·rw [if_neg hj,List.find?_filter]
  congr 2
  funext p
  by_cases h:p.1=j
  ·have:p.1≠k:=fun e=> hj (h.symm.trans e)
   simp [h,hj]
  ·simp [h]
theorem held_inv {v:Value} {d:DataW Value} {ps:List MemPlace} (h:heldR v=some (d,ps)):DataW.held v=d:=by
 unfold heldR at h
 simp only [Option.some.injEq,Prod.mk.injEq] at h
 exact h.1
structure FMok (L:Fls):Prop where
 ok:∀p∈L,inI p.1
 up:L.Pairwise fun p q=> p.1 < q.1
def FM (rb:Nat) (W:World) (m n:Nat) (L:Fls):Prop:=
 FMok L∧∃D:DataW Value,W.ownsMap Tryz.prog 3 heldR m n D∧∀k,inI k→has D (.int .i64 k)=(getF L k).isSome∧∀f,getF L k=some f→∃v,FileAt rb W v f∧∀z,D.atKey (.int .i64 k) z= .held v
section
variable {rb : Nat} {W : World} {m n : Nat} {L : Fls}
theorem FM.lt (h:FM rb W m n L):m < W.heap.size:=by
 obtain ⟨_,D,h1,_⟩:=h
 exact h1.lt
theorem FM.mono (h:FM rb W m n L) {n':Nat} (hn:n≤n'):FM rb W m n' L:=by
 obtain ⟨h0,D,h1,h2⟩:=h
 exact ⟨h0,D,h1.mono hn,h2⟩
theorem FM.keep (h:FM rb W m n L) {W':World} (hm:W'.heap[m]? =W.heap[m]?) (hb:∀k,rb≤k→k < W.heap.size→W'.heap[k]? =W.heap[k]?):FM rb W' m n L:=by
 obtain ⟨h0,D,⟨es,clock,h1,h3⟩,h2⟩:=h
 refine ⟨h0,D,⟨es,clock,hm.trans h1,h3⟩,fun k hk=> ⟨(h2 k hk).1,fun f hf=> ?_⟩⟩
 obtain ⟨v,hv,hz⟩:=(h2 k hk).2 f hf
 exact ⟨v,hv.keep fun g hg=> (hb g (hf_lt hv g hg).1 (hf_lt hv g hg).2),hz⟩
theorem FM.block (h:FM rb W m n L):∃es clock,W.heap[m]? =some (.map es clock):=by
 obtain ⟨_,D,⟨es,clock,h1,_⟩,_⟩:=h
 exact ⟨es,clock,h1⟩
theorem FileAt.ne_map {v:Value} {f:List Ch} (h:FileAt rb W v f) {es:Array MapEntry} {clock:Nat} (hm:W.heap[m]? =some (.map es clock)):v.ownBlock≠some m:=by
 intro e
 rcases h.2.2 with ⟨h1,_⟩ | ⟨g,cap,cur,h1,_,h3,_⟩
 ·rw [h1] at e;cases e
 ·rw [h1] at e
  injection e with e
  have e:g=m:=e
  rw [e,hm] at h3
  cases h3
theorem zero108 (w:World):(zeroValue 108).run Tryz.prog w= .ok (.slice none 0 0) w:=by rw [Tryz.zeroValue108]
theorem FM.look_ok (h:FM rb W m n L) {k:Int} (hk:inI k) {f:List Ch} (hf:getF L k=some f):∃v,FileAt rb W v f∧(Instr.lookup 95 (.map (some m)) (.int .i64 k) true).run Tryz.prog W= .ok (.tuple #[v,.bool true]) W∧(Instr.lookup 95 (.map (some m)) (.int .i64 k) false).run Tryz.prog W= .ok v W:=by
 obtain ⟨_,D,h1,h2⟩:=h
 obtain ⟨e1,e2⟩:=h2 k hk
 obtain ⟨v,hv,hz⟩:=e2 f hf
 rw [hf] at e1
 obtain ⟨x,ps,hrun,hx⟩:=h1.look_ok keyed3 Tryz.underlying95 (zero108 W) (zd:= .held (.slice none 0 0)) (zp:= []) rfl (key3 hk)
 obtain ⟨y,ps',hrun',hy⟩:=h1.lookup keyed3 Tryz.underlying95 (zero108 W) (zd:= .held (.slice none 0 0)) (zp:= []) rfl (key3 hk)
 have ex:x=v:=by
  have:=held_inv hx
  rw [hz] at this
  exact DataW.held.inj this
 have ey:y=v:=by
  have:=held_inv hy
  rw [hz] at this
  exact DataW.held.inj this
 rw [e1,ex] at hrun
 rw [ey] at hrun'
 exact ⟨v,hv,hrun,hrun'⟩
theorem FM.look_none (h:FM rb W m n L) {k:Int} (hk:inI k) (hf:getF L k=none):(Instr.lookup 95 (.map (some m)) (.int .i64 k) true).run Tryz.prog W= .ok (.tuple #[.slice none 0 0,.bool false]) W:=by
 obtain ⟨_,D,h1,h2⟩:=h
 obtain ⟨e1,_⟩:=h2 k hk
 rw [hf] at e1
 obtain ⟨x,ps,hrun,hx⟩:=h1.look_ok keyed3 Tryz.underlying95 (zero108 W) (zd:= .held (.slice none 0 0)) (zp:= []) rfl (key3 hk)
 have ex:x= .slice none 0 0:=by
  have:=held_inv hx
  rw [atKey_of_not_has e1] at this
  exact DataW.held.inj this
 rw [e1,ex] at hrun
 exact hrun
theorem FM.put (h:FM rb W m n L) (hn:n < maxLen) {k:Int} (hk:inI k) (hfr:∀p∈L,p.1 < k) {v:Value} {f:List Ch} (hv:FileAt rb W v f):
  ∃W',(Instr.mapUpdate 95 (.map (some m)) (.int .i64 k) v).run Tryz.prog W= .ok () W'∧FM rb W' m (n + 1) (L ++ [(k,f)])∧W.grownBy W' (some m):=by
 obtain ⟨es,clock,hmb⟩:=h.block
 obtain ⟨h0,D,h1,h2⟩:=h
 obtain ⟨W',hrun,h3,hg⟩:=h1.update keyed3 Tryz.underlying95 hn (key3 hk) (val:=v) (d:= .held v) (ps:= []) rfl
 have kept:∀{v:Value} {f:List Ch},FileAt rb W v f→FileAt rb W' v f:=fun {v f} hv=> hv.keep fun g hgg=> hg.block g (hf_lt hv g hgg).2 (fun e=> hv.ne_map hmb (hgg.trans e))
 refine ⟨W',hrun,⟨⟨fun p hp=> ?_,?_⟩,_,h3,fun j hj=> ?_⟩,hg⟩
 ·rcases List.mem_append.1 hp with hp | hp
  ·exact h0.ok p hp
  ·rw [List.mem_singleton.1 hp]
   exact hk
 ·refine List.pairwise_append.2 ⟨h0.up,by simp,fun p hp q hq=> ?_⟩
  rw [List.mem_singleton.1 hq]
  exact hfr p hp
 ·rw [getF_push f (fun p hp=> by have:=hfr p hp;omega)]
  by_cases hjk:j=k
  ·subst hjk
   rw [if_pos rfl,has_put_same h1.isMap (lit3 hk)]
   refine ⟨rfl,fun g hg2=> ?_⟩
   injection hg2 with hg2
   subst hg2
   exact ⟨v,kept hv,fun z=> atKey_put_same h1.isMap (lit3 hk) _ z⟩
  ·have hne:(Lit.int .i64 j)≠ .int .i64 k:=fun e=> hjk (by injection e)
   rw [if_neg hjk,has_put_other hne]
   refine ⟨(h2 j hj).1,fun g hg2=> ?_⟩
   obtain ⟨u,hu,hz⟩:=(h2 j hj).2 g hg2
   exact ⟨u,kept hu,fun z=> by rw [atKey_put_other hne];exact hz z⟩
theorem FM.drop (h:FM rb W m n L) {k:Int} (hk:inI k) (ty:TypeId):
  ∃W',(Builtin.delete_ #[95,3] ty #[.map (some m),.int .i64 k]).run Tryz.prog W= .ok (.tuple #[]) W'∧FM rb W' m n (L.filter fun p=> p.1 !=k)∧W.grownBy W' (some m):=by
 obtain ⟨es,clock,hmb⟩:=h.block
 obtain ⟨h0,D,h1,h2⟩:=h
 obtain ⟨W',hrun,h3,ht⟩:=h1.drop keyed3 Tryz.underlying95 (key3 hk) ty
 have hg:=ht.grown
 have kept:∀{v:Value} {f:List Ch},FileAt rb W v f→FileAt rb W' v f:=fun {v f} hv=> hv.keep fun g hgg=> hg.block g (hf_lt hv g hgg).2 (fun e=> hv.ne_map hmb (hgg.trans e))
 refine ⟨W',hrun,⟨⟨fun p hp=> h0.ok p (List.mem_filter.1 hp).1,h0.up.filter _⟩,_,h3,fun j hj=> ?_⟩,hg⟩
 rw [getF_drop]
 by_cases hjk:j=k
 ·subst hjk
  rw [if_pos rfl,has_del_same]
  exact ⟨rfl,fun g hg2=> by cases hg2⟩
 ·have hne:(Lit.int .i64 j)≠ .int .i64 k:=fun e=> hjk (by injection e)
  rw [if_neg hjk,has_del_other hne]
  refine ⟨(h2 j hj).1,fun g hg2=> ?_⟩
  obtain ⟨u,hu,hz⟩:=(h2 j hj).2 g hg2
  exact ⟨u,kept hu,fun z=> by rw [atKey_del_other hne];exact hz z⟩
end
end Go.Proofs.YtmgcnoigihdhpaaGreatDoor
namespace Go.Proofs.YtmgcnoigihdhpaaGreatDoor
open Go.RowKit Go.Maps Go.Shelf Go.MapKept
open Go.WideElems (Fit rd rg pl rd_val rd_key rg_of)
def keyI (e:MapEntry):Int:=match e.key with | .int _ k=> k | _=> 0
theorem getF_some {L:Fls} {k:Int} (h:k∈L.map (·.1)):(getF L k).isSome=true:=by
 obtain ⟨p,hp,rfl⟩:=List.mem_map.1 h
 unfold getF
 rw [Option.isSome_map,List.find?_isSome]
 exact ⟨p,hp,by simp⟩
theorem names_keys {rb:Nat} {W:World} {m n:Nat} {L:Fls} (h:FM rb W m n L):∃es clock,W.heap[m]? =some (.map es clock)∧Stamped es clock∧es.size≤n∧(∀e∈es.toList,e.key= .int .i64 (keyI e)∧inI (keyI e))∧Ci.sortI (es.toList.map keyI)=L.map (·.1):=by
 obtain ⟨h0,D,⟨es,clock,hb,F,hs,rfl⟩,h2⟩:=h
 have hst:=(stamped_iff es clock).1 F.stamped
 have hkey:∀e∈es.toList,e.key= .int .i64 (keyI e)∧inI (keyI e)∧(rg Tryz.prog 3 heldR e).1= .int .i64 (keyI e):=fun e he=> by
  obtain ⟨y,hy⟩:=F.reads e he
  obtain ⟨x,h1,h3,hw⟩:=Maps.keyOf_int_inv Tryz.underlying3 (rd_key hy)
  have hk:keyI e=x:=by unfold keyI;rw [h1]
  rw [hk]
  exact ⟨h1,hw,by rw [rg_of hy];exact h3⟩
 refine ⟨es,clock,hb,F.stamped,hs,fun e he=> ⟨(hkey e he).1,(hkey e he).2.1⟩,?_⟩
 have hnd:(es.toList.map keyI).Nodup:=by
  refine List.pairwise_map.2 (hst.2.2.imp_of_mem fun {a b} ha hb hne e=> hne ?_)
  rw [(hkey a ha).1,(hkey b hb).1,e]
 have hnd2:(L.map (·.1)).Nodup:=List.pairwise_map.2 (h0.up.imp fun h=> by omega)
 have hmem:∀k,k∈es.toList.map keyI↔k∈L.map (·.1):=fun k=> by
  constructor
  ·intro hk
   obtain ⟨e,he,rfl⟩:=List.mem_map.1 hk
   obtain ⟨h1,h3,h4⟩:=hkey e he
   have hh:Maps.has (DataW.map ((es.toList.map (rg Tryz.prog 3 heldR)).foldr DataW.insert [])) (.int .i64 (keyI e))=true:=
    List.any_eq_true.2 ⟨rg Tryz.prog 3 heldR e,mem_sorted.2 (List.mem_map.2 ⟨e,he,rfl⟩),by rw [h4];exact WideAt.sameKey_self (lit3 h3)⟩
   rw [(h2 _ h3).1] at hh
   obtain ⟨f,hf⟩:=Option.isSome_iff_exists.1 hh
   exact List.mem_map.2 ⟨_,getF_mem hf,rfl⟩
  ·intro hk
   have hi:inI k:=by
    obtain ⟨p,hp,rfl⟩:=List.mem_map.1 hk
    exact h0.ok p hp
   have hh:=(h2 k hi).1.trans (getF_some hk)
   obtain ⟨p,hp,hpk⟩:=List.any_eq_true.1 hh
   obtain ⟨x,hx,rfl⟩:=List.mem_map.1 (mem_sorted.1 hp)
   have h5:=WideAt.sameKey_eq hpk
   rw [(hkey x hx).2.2] at h5
   exact List.mem_map.2 ⟨x,hx,(Lit.int.inj h5).2⟩
 have hperm:(es.toList.map keyI).Perm (L.map (·.1)):=(List.perm_ext_iff_of_nodup hnd hnd2).2 hmem
 rw [←Ci.sortI_merge,mergeSort_of_perm_i hperm]
 exact List.mergeSort_of_pairwise (List.pairwise_map.2 (h0.up.imp fun h=> by simpa using Int.le_of_lt h))
theorem inI_range {k:Int} (h:inI k): -9223372036854775808≤k∧k≤9223372036854775807:=by
 simp [inI,Lit.wf,IntKind.min,IntKind.max,IntKind.signed,IntKind.bits] at h
 omega
theorem sorted_any {rb:Nat} {W:World} {m n:Nat} {L:Fls} (h:FM rb W m n L) (hn:n≤1000000) {bb:Nat} (hbb:bb < W.heap.size) (hc:W.cell? ⟨bb,0,none⟩=some (.map (some m))):
  Calls Tryz.prog 31 #[.func (.func 77) #[] #[.pointer (some ⟨bb,0,none⟩)]] W fun e W'=> ∃v,e= .returned v∧W'.ownsRow W.heap.size 3 1 v L.length ((L.map (·.1)).map (Value.int .i64))∧Below W.heap.size W W':=by
 obtain ⟨es,clock,hb,hst,hs,hkey,hsort⟩:=names_keys h
 have hlen:(es.toList.map keyI).length=L.length:=by
  have:=(Ci.sortI_ok (es.toList.map keyI)).1.length_eq
  rw [hsort,List.length_map] at this
  exact this.symm
 have:=Ci.sorted_keys (ρ:=Tryz.keys32_ren) (σ:=Tryz.sorted31_ren) Tryz.keys32 Tryz.sorted31 Ci.sortsIn Tryz.call76 Tryz.call77 (ks:=es.toList.map keyI) (by simpa using Nat.le_trans hs hn) (fun k hk=> by
  obtain ⟨e,he,rfl⟩:=List.mem_map.1 hk
  exact inI_range (hkey e he).2) W bb m es clock hbb hc hb hst (by simp) (fun j e he=> by
  have he':es.toList[j]? =some e:=by simpa using he
  exact ⟨keyI e,by rw [List.getElem?_map,he'];rfl,(hkey e (List.mem_of_getElem? he')).1⟩)
 refine this.mono ?_
 rintro e W' ⟨v,rfl,h1,_,h2⟩
 rw [hsort,hlen] at h1
 exact ⟨v,rfl,h1,h2⟩
end Go.Proofs.YtmgcnoigihdhpaaGreatDoor
namespace Go.Proofs.YtmgcnoigihdhpaaGreatDoor
open Go.RowKit Go.Maps Go.Shelf
structure Ten where
 next:Int
 files:Fls
def tsize (L:Fls):Nat:=(L.map fun p=> fsize p.2).sum
structure TenOk (n:Nat) (t:Ten):Prop where
 lo:0≤t.next
 hi:t.next≤n
 lt:∀p∈t.files,p.1 < t.next
 ne:∀p∈t.files,∀c∈p.2,c≠ []
 len:∀p∈t.files,p.2.length≤10000
 size:tsize t.files≤1048576
 many:t.files.length≤n
structure Out (lo hi:Nat) (W W':World):Prop where
 os:W'.os=W.os
 tape:W'.tape=W.tape
 output:W'.output=W.output
 size:W.heap.size≤W'.heap.size
 block:∀k,k < W.heap.size→(k < lo∨hi≤k)→W'.heap[k]? =W.heap[k]?
theorem Out.refl (lo hi:Nat) (W:World):Out lo hi W W:=⟨rfl,rfl,rfl,Nat.le_refl _,fun _ _ _=> rfl⟩
theorem Out.trans {lo hi:Nat} {a b c:World} (h:Out lo hi a b) (k:Out lo hi b c):Out lo hi a c:=⟨k.os.trans h.os,k.tape.trans h.tape,k.output.trans h.output,Nat.le_trans h.size k.size,fun i hi ho=> (k.block i (Nat.lt_of_lt_of_le hi h.size) ho).trans (h.block i hi ho)⟩
theorem Out.of_below {lo hi:Nat} {a b:World} (h:Below a.heap.size a b):Out lo hi a b:=⟨h.os,h.tape,h.output,h.size,fun i hi _=> h.block i hi⟩
theorem Out.of_grown {lo hi:Nat} {a b:World} {m:Nat} (h:a.grownBy b (some m)) (h1:lo≤m) (h2:m < hi):Out lo hi a b:=⟨h.os,h.tape,h.output,h.size,fun i hi ho=> h.block i hi fun e=> by injection e with e;omega⟩
theorem Out.below {lo hi:Nat} {a b:World} (h:Out lo hi a b) (hl:lo≤a.heap.size):Below lo a b:=⟨h.os,h.tape,h.output,h.size,fun k hk=> h.block k (by omega) (Or.inl hk)⟩
structure Sto (b u lo hi rb:Nat) (M:Nat→Nat) (T:Nat→Ten) (n:Nat) (W:World):Prop where
 box:∃C,W.heap[b]? =some (.cells C 100 (0,0))∧C.size=25∧C[0]? =some (.map (some u))∧∀i,i < 12→C[1 + i * 2]? =some (.map (some (M i)))∧C[1 + i * 2 + 1]? =some (.int .i64 (T i).next)
 uses:∃D:DataW Unit,W.ownsMap Tryz.prog 113 (plainElem Tryz.prog 3) u n D
 files:∀i,i < 12→FM rb W (M i) n (T i).files
 ok:∀i,i < 12→TenOk n (T i)
 b_in:lo≤b∧b < hi
 u_in:lo≤u∧u < hi
 m_in:∀i,i < 12→lo≤M i∧M i < hi
 inj:∀i j,i < 12→j < 12→M i=M j→i=j
 ne:∀i,i < 12→M i≠u
 rb:hi≤rb
section
variable {b u lo hi rb n : Nat} {M : Nat → Nat} {T : Nat → Ten} {W : World}
theorem Sto.cells (h:Sto b u lo hi rb M T n W) {i:Nat} (hi:i < 12):W.cell? ⟨b,1 + i * 2,none⟩=some (.map (some (M i)))∧W.cell? ⟨b,1 + i * 2 + 1,none⟩=some (.int .i64 (T i).next)∧W.cell? ⟨b,0,none⟩=some (.map (some u)):=by
 obtain ⟨C,h1,_,h2,h3⟩:=h.box
 refine ⟨?_,?_,?_⟩ <;> rw [cell_of_row _ _ _ C 100 (0,0) h1]
 ·exact (h3 i hi).1
 ·exact (h3 i hi).2
 ·exact h2
theorem Sto.b_lt (h:Sto b u lo hi rb M T n W):b < W.heap.size:=by
 obtain ⟨C,h1,_⟩:=h.box
 exact (Array.getElem?_eq_some_iff.1 h1).1
theorem Sto.keep (h:Sto b u lo hi rb M T n W) {W':World} (hk:∀k,k < W.heap.size→(lo≤k∧k < hi∨rb≤k)→W'.heap[k]? =W.heap[k]?):Sto b u lo hi rb M T n W':=by
 obtain ⟨C,h1,h2⟩:=h.box
 obtain ⟨D,⟨es,clock,h3,h4⟩⟩:=h.uses
 have hu:u < W.heap.size:=(Array.getElem?_eq_some_iff.1 h3).1
 exact ⟨⟨C,(hk b h.b_lt (Or.inl h.b_in)).trans h1,h2⟩,⟨D,es,clock,(hk u hu (Or.inl h.u_in)).trans h3,h4⟩,fun i hi=> (h.files i hi).keep (hk _ (h.files i hi).lt (Or.inl (h.m_in i hi))) fun k hr hs=> hk k hs (Or.inr hr),h.ok,h.b_in,h.u_in,h.m_in,h.inj,h.ne,h.rb⟩
theorem Sto.below (h:Sto b u lo hi rb M T n W) {W':World} (hb:Below W.heap.size W W'):Sto b u lo hi rb M T n W':=h.keep fun k hk _=> hb.block k hk
theorem Sto.beside (h:Sto b u lo hi rb M T n W) {lo' hi':Nat} {W':World} (ho:Out lo' hi' W W') (hap:hi≤lo'∨hi'≤lo) (hrb:hi'≤rb):Sto b u lo hi rb M T n W':=h.keep fun k hk hc=> ho.block k hk (by omega)
theorem Sto.mono (h:Sto b u lo hi rb M T n W) {n':Nat} (hn:n≤n'):Sto b u lo hi rb M T n' W:=by
 obtain ⟨D,h3⟩:=h.uses
 exact ⟨h.box,⟨D,h3.mono hn⟩,fun i hi=> (h.files i hi).mono hn,fun i hi=> ⟨(h.ok i hi).lo,by have:=(h.ok i hi).hi;omega,(h.ok i hi).lt,(h.ok i hi).ne,(h.ok i hi).len,(h.ok i hi).size,by have:=(h.ok i hi).many;omega⟩,h.b_in,h.u_in,h.m_in,h.inj,h.ne,h.rb⟩
end
set_option maxRecDepth 100000 in
theorem keys_in (m:Option Nat) (w:World):Calls Tryz.prog 32 #[.map m] w fun e w'=> e= .returned (.func (.func 77) #[] #[.pointer (some ⟨w.heap.size,0,none⟩)])∧w'=w.alloc (.cells #[.map m] 95):=by
 go_enter Tryz.func32,Tryz.ntmps32
 go_wp2_with fail
 go_ret
 exact ⟨rfl,rfl⟩
theorem own_mono {W:World} {base base':Nat} {e:TypeId} {size n:Nat} {v:Value} {xs:List Value} (h:W.ownsRow base' e size v n xs) (hb:base≤base'):W.ownsRow base e size v n xs:=by
 refine ⟨h.1,?_⟩
 rcases h.2 with h1 | ⟨g,cap,cur,h1,h2,h3⟩
 ·exact Or.inl h1
 ·exact Or.inr ⟨g,cap,cur,h1,Nat.le_trans hb h2,h3⟩
def namesOf (T:Nat→Ten) (x:Int):List Int:=if 0≤x∧x < 12 then (T x.toNat).files.map (·.1) else []
set_option maxRecDepth 100000 in
set_option maxHeartbeats 4000000 in
theorem names_in {b u lo hi rb n:Nat} {M:Nat→Nat} {T:Nat→Ten} {W:World} (h:Sto b u lo hi rb M T n W) (hn:n≤1000000) {i:Nat} (hi:i < 12):
  Calls Tryz.prog 17 #[.pointer (some ⟨b,0,none⟩),.int .i64 (i:Int)] W fun e W'=> ∃v,e= .returned v∧W'.ownsRow W.heap.size 3 1 v (T i).files.length (((T i).files.map (·.1)).map (Value.int .i64))∧Below W.heap.size W W':=by
 have HS:=Lib.hid h
 have HC:=Lib.hid (h.cells hi)
 clear h
 go_enter Tryz.func17,Tryz.ntmps17
 go_upto_region 4 with (go_at_call 26;refine (of_in b i _ hi).mono ?_;rintro r w1 ⟨rfl,rfl⟩)
 have c0:=HC.out.1
 go_wp2_with (first
  | (go_at_call 32;refine (keys_in (some (M i)) w1).mono ?_;rintro r w2 ⟨rfl,rfl⟩)
  | (go_at_call 31;refine (sorted_any ((HS.out.files i hi).keep (W':=w1.alloc (.cells #[.map (some (M i))] 95)) (Below.heap_alloc _ _ _ (HS.out.files i hi).lt) fun k _ hk=> Below.heap_alloc _ _ k hk) hn (by simp) (by rw [cell_of_row _ _ _ _ 95 (0,0) (heap_alloc_new w1 _)];rfl)).mono ?_;rintro r w3 ⟨v,rfl,hrow,hbel⟩;have HR:=Lib.hid hrow;have HB:=Lib.hid ((below_alloc w1 (.cells #[.map (some (M i))] 95)).trans (hbel.mono (by simp)));clear hrow hbel))
 go_ret
 exact ⟨v,rfl,own_mono HR.out (by simp),HB.out⟩
set_option maxRecDepth 100000 in
set_option maxHeartbeats 4000000 in
theorem names_out (p:Value) (x:Int) (W:World) (hx:x < 0∨12≤x):Calls Tryz.prog 17 #[p,.int .i64 x] W fun e W'=> e= .returned (.slice none 0 0)∧W'=W:=by
 go_enter Tryz.func17,Tryz.ntmps17
 go_wp2_with (go_at_call 26;refine (of_out p x _ hx).mono ?_;rintro r w1 ⟨rfl,rfl⟩)
 go_ret
 exact ⟨rfl,rfl⟩
theorem names_any {b u lo hi rb n:Nat} {M:Nat→Nat} {T:Nat→Ten} {W:World} (h:Sto b u lo hi rb M T n W) (hn:n≤1000000) (x:Int):
  Calls Tryz.prog 17 #[.pointer (some ⟨b,0,none⟩),.int .i64 x] W fun e W'=> ∃v,e= .returned v∧W'.ownsRow W.heap.size 3 1 v (namesOf T x).length ((namesOf T x).map (Value.int .i64))∧Below W.heap.size W W':=by
 by_cases hx:0≤x∧x < 12
 ·obtain ⟨i,rfl⟩:∃i:Nat,x=i:=⟨x.toNat,by omega⟩
  have hi:i < 12:=by omega
  unfold namesOf
  rw [if_pos hx,Int.toNat_natCast,List.length_map]
  exact names_in h hn hi
 ·unfold namesOf
  rw [if_neg hx]
  refine (names_out _ x W (by omega)).mono ?_
  rintro e W' ⟨rfl,rfl⟩
  exact ⟨_,rfl,World.ownsRow_nil _ _ _ _,Below.refl _ _⟩
def getOf (T:Nat→Ten) (x k:Int):List UInt8×Int:=if 0≤x∧x < 12 then (match getF (T x.toNat).files k with | some f=> (ftext f,0) | none=> ([],4)) else ([],4)
set_option maxRecDepth 100000 in
set_option maxHeartbeats 4000000 in
theorem get_out (p:Value) (x:Int) (k:Value) (W:World) (hx:x < 0∨12≤x):Calls Tryz.prog 13 #[p,.int .i64 x,k] W fun e W'=> e= .returned (.tuple #[.string ⟨#[]⟩,.int .i64 4])∧W'=W:=by
 go_enter Tryz.func13,Tryz.ntmps13
 go_wp2_with (go_at_call 26;refine (of_out p x _ hx).mono ?_;rintro r w1 ⟨rfl,rfl⟩)
 go_ret2
 exact ⟨rfl,rfl⟩
set_option maxRecDepth 100000 in
set_option maxHeartbeats 4000000 in
theorem get_none {b u lo hi rb n:Nat} {M:Nat→Nat} {T:Nat→Ten} {W:World} (h:Sto b u lo hi rb M T n W) {i:Nat} (hi:i < 12) {k:Int} (hk:inI k) (hf:getF (T i).files k=none):
  Calls Tryz.prog 13 #[.pointer (some ⟨b,0,none⟩),.int .i64 (i:Int),.int .i64 k] W fun e W'=> e= .returned (.tuple #[.string ⟨#[]⟩,.int .i64 4])∧W'=W:=by
 have c0:=(h.cells hi).1
 have hlook:=(h.files i hi).look_none hk hf
 clear h hf
 go_enter Tryz.func13,Tryz.ntmps13
 go_wp2_with (go_at_call 26;refine (of_in b i _ hi).mono ?_;rintro r w1 ⟨rfl,rfl⟩)
 go_ret2
 exact ⟨rfl,rfl⟩
set_option maxRecDepth 100000 in
set_option maxHeartbeats 4000000 in
theorem get_some {b u lo hi rb n:Nat} {M:Nat→Nat} {T:Nat→Ten} {W:World} (h:Sto b u lo hi rb M T n W) {i:Nat} (hi:i < 12) {k:Int} (hk:inI k) {f:List Ch} (hf:getF (T i).files k=some f):
  Calls Tryz.prog 13 #[.pointer (some ⟨b,0,none⟩),.int .i64 (i:Int),.int .i64 k] W fun e W'=> e= .returned (.tuple #[.string ⟨(ftext f).toArray⟩,.int .i64 0])∧Below W.heap.size W W':=by
 have c0:=(h.cells hi).1
 obtain ⟨v,hv,hlook,_⟩:=(h.files i hi).look_ok hk hf
 have HV:=Lib.hid hv
 have HL:=Lib.hid ((h.ok i hi).len _ (getF_mem hf))
 have HN:=Lib.hid ((h.ok i hi).ne _ (getF_mem hf))
 clear h hf hv
 go_enter Tryz.func13,Tryz.ntmps13
 go_wp2_with (first
  | (go_at_call 26;refine (of_in b i _ hi).mono ?_;rintro r w1 ⟨rfl,rfl⟩)
  | (go_at_call 29;refine (text_walk rb v f w1 HV.out (Nat.le_trans HL.out (by omega)) HN.out).mono ?_;rintro r w2 ⟨rfl,hbel⟩;have HB:=Lib.hid hbel;clear hbel))
 go_ret2
 exact ⟨rfl,HB.out⟩
theorem get_any {b u lo hi rb n:Nat} {M:Nat→Nat} {T:Nat→Ten} {W:World} (h:Sto b u lo hi rb M T n W) (x k:Int) (hk:inI k):
  Calls Tryz.prog 13 #[.pointer (some ⟨b,0,none⟩),.int .i64 x,.int .i64 k] W fun e W'=> e= .returned (.tuple #[.string ⟨(getOf T x k).1.toArray⟩,.int .i64 (getOf T x k).2])∧Below W.heap.size W W':=by
 unfold getOf
 by_cases hx:0≤x∧x < 12
 ·obtain ⟨i,rfl⟩:∃i:Nat,x=i:=⟨x.toNat,by omega⟩
  have hi:i < 12:=by omega
  rw [if_pos hx,Int.toNat_natCast]
  cases hf:getF (T i).files k with
  | none=>
   refine (get_none h hi hk hf).mono ?_
   rintro e W' ⟨rfl,rfl⟩
   exact ⟨rfl,Below.refl _ _⟩
  | some f=> exact get_some h hi hk hf
 ·rw [if_neg hx]
  refine (get_out _ x _ W (by omega)).mono ?_
  rintro e W' ⟨rfl,rfl⟩
  exact ⟨rfl,Below.refl _ _⟩
end Go.Proofs.YtmgcnoigihdhpaaGreatDoor
namespace Go.Proofs.YtmgcnoigihdhpaaGreatDoor
open Go.RowKit Go.Maps Go.Shelf
def seenS (left:Lit→Bool):Fls→Nat
 | []=> 0
 | p::L=> (bif left (.int .i64 p.1) then 0 else fsize p.2) + seenS left L
theorem seenS_le (left:Lit→Bool):∀L:Fls,seenS left L≤tsize L
 | []=> Nat.le_refl _
 | p::L=> by
  have:=seenS_le left L
  unfold tsize at this ⊢
  simp only [seenS,List.map_cons,List.sum_cons]
  cases left (.int .i64 p.1) <;> simp only [cond_true,cond_false] <;> omega
theorem seenS_none {left:Lit→Bool}:∀{L:Fls},(∀p∈L,left (.int .i64 p.1)=true)→seenS left L=0
 | [],_=> rfl
 | p::L,h=> by
  simp only [seenS,h p (by simp),cond_true]
  rw [seenS_none fun q hq=> h q (by simp [hq])]
theorem seenS_all {left:Lit→Bool} (h:∀l,left l=false):∀L:Fls,seenS left L=tsize L
 | []=> rfl
 | p::L=> by
  simp only [seenS,h,tsize,List.map_cons,List.sum_cons]
  rw [seenS_all h L]
  rfl
theorem same_int {a k:Int}:(Lit.int .i64 a).sameKey (.int .i64 k)=decide (a=k):=by
 by_cases h:a=k
 ·subst h
  simp [Lit.sameKey]
 ·rw [decide_eq_false h]
  exact Maps.sameKey_ne fun e=> h (Lit.int.inj e).2
theorem seenS_other {left:Lit→Bool} {k:Int}:∀{L:Fls},(∀p∈L,p.1≠k)→seenS (fun z=> left z && !z.sameKey (.int .i64 k)) L=seenS left L
 | [],_=> rfl
 | p::L,h=> by
  simp only [seenS]
  rw [seenS_other fun q hq=> h q (by simp [hq]),same_int,decide_eq_false (h p (by simp))]
  simp
theorem seenS_step {left:Lit→Bool} {k:Int} (hl:left (.int .i64 k)=true) {f:List Ch}:∀{L:Fls},(L.Pairwise fun p q=> p.1 < q.1)→(k,f)∈L→seenS (fun z=> left z && !z.sameKey (.int .i64 k)) L=seenS left L + fsize f
 | [],_,h=> by cases h
 | p::L,hp,h=> by
  rw [List.pairwise_cons] at hp
  simp only [seenS]
  rcases List.mem_cons.1 h with h | h
  ·subst h
   rw [seenS_other fun q hq=> by have:=hp.1 q hq;simp at this;omega,same_int,hl]
   simp
   omega
  ·have:=hp.1 _ h
   rw [seenS_step hl hp.2 h,same_int,decide_eq_false (by simp at this;omega)]
   simp
   omega
structure Rng (rb:Nat) (W0:World) (m r n:Nat) (L:Fls) (D:DataW Value) (left:Lit→Bool) (cnt:Nat) (W:World):Prop where
 rng:W.ranges Tryz.prog 3 heldR m r n D left cnt
 D_is:∀k,inI k→has D (.int .i64 k)=(getF L k).isSome∧∀f,getF L k=some f→∃v,FileAt rb W0 v f∧∀z,D.atKey (.int .i64 k) z= .held v
 sub:∀kl,left kl=true→has D kl=true
 below:Below W0.heap.size W0 W
theorem used_out (p:Value) (x:Int) (W:World) (hx:x < 0∨12≤x):Calls Tryz.prog 15 #[p,.int .i64 x] W fun e W'=> e= .returned (.int .i64 0)∧W'=W:=by
 go_enter Tryz.func15,Tryz.ntmps15
 go_wp2_with (go_at_call 26;refine (of_out p x _ hx).mono ?_;rintro r w1 ⟨rfl,rfl⟩)
 go_ret
 exact ⟨rfl,rfl⟩
set_option maxRecDepth 100000 in
set_option maxHeartbeats 4000000 in
theorem used_in {b u lo hi rb n:Nat} {M:Nat→Nat} {T:Nat→Ten} {W:World} (h:Sto b u lo hi rb M T n W) {i:Nat} (hi:i < 12):
  Calls Tryz.prog 15 #[.pointer (some ⟨b,0,none⟩),.int .i64 (i:Int)] W fun e W'=> e= .returned (.int .i64 (tsize (T i).files:Int))∧Below W.heap.size W W':=by
 have c0:=(h.cells hi).1
 have hfm:=h.files i hi
 have hsz:=(h.ok i hi).size
 have HLEN:=Lib.hid (h.ok i hi).len
 obtain ⟨⟨hok,hup⟩,D,hown,hD⟩:=hfm
 have HUP:=Lib.hid hup
 have HOKI:=Lib.hid hok
 have HD:=Lib.hid hD
 clear h hup hD hok
 generalize (T i).files=L at *
 generalize M i=m at *
 go_enter Tryz.func15,Tryz.ntmps15
 go_wp2_with (first
  | (go_at_call 26;refine (of_in b i _ hi).mono ?_;rintro r w1 ⟨rfl,rfl⟩)
  | (at_range;refine wpList_range_own _ rfl _ 95 rfl 3 108 keyed3 Tryz.underlying95 heldR m n D rfl hown ?_;intro w0 hrg0 hg0 hs0;have HR0:=Lib.hid hrg0;have HG0:=Lib.hid hg0;clear hrg0 hg0))
 go_frame
 generalize hr:w1.heap.size=r at *
 have HRR:=Lib.hid hr
 clear hr
 have HS0:Hid (Rng rb w1 m r n L D (has D) (size D) w0):=Lib.hid ⟨HR0.out,HD.out,fun _ h=> h,⟨HG0.out.os,HG0.out.tape,HG0.out.output,HG0.out.size,fun k hk=> HG0.out.block k hk (by simp)⟩⟩
 go_loopg [5] (size D) (fun q x W=> ∃left,Hid (Rng rb w1 m r n L D left q W)∧x= .int .i64 (seenS left L:Int))
 case atStart=> exact ⟨_,HS0,by rw [seenS_none fun p hp=> by rw [(HD.out p.1 (HOKI.out p hp)).1];exact getF_some (List.mem_map.2 ⟨p,hp,rfl⟩)];rfl⟩
 case round=>
  obtain ⟨left,HR,rfl⟩:=hrel
  clear HR0 HG0 HS0 hown
  go_wp2_with (first
   | (at_next;refine wpList_next_ranges _ rfl _ rfl 3 keyed3 heldR (Value.int .i64) (fun v:Value=> v) (fun key kl h=> by obtain ⟨x,h1,_⟩:=Maps.keyOf_int_inv Tryz.underlying3 h;exact ⟨x,h1⟩) (fun v y _=> ⟨v,rfl⟩) m r n D left gk rfl HR.out.rng ?_ ?_)
   | go_in)
  ·intro hc0 hl0
   rw [seenS_all hl0]
   go_wp2_with fail
   go_ret
   exact ⟨rfl,HR.out.below⟩
  ·intro k c kl y pl w' cnt' hkey hlk hv hat hrg hlt hgr hsz' hen
   obtain ⟨k',e1,rfl,hki⟩:=Maps.keyOf_int_inv Tryz.underlying3 hkey
   cases e1
   have hhas:=HR.out.sub _ hlk
   rw [(HD.out k hki).1] at hhas
   obtain ⟨f,hf⟩:=Option.isSome_iff_exists.1 hhas
   obtain ⟨v,hfv,hz⟩:=(HD.out k hki).2 f hf
   obtain rfl:c=v:=by
    have h1:=held_inv hv
    rw [←hat (.held v),hz] at h1
    exact DataW.held.inj h1
   have HF:Hid (FileAt rb w' c f):=Lib.hid (hfv.keep fun g hg=> (hgr.block g (by have:=(hf_lt hfv g hg).2;have:=HR.out.below.size;omega) (fun e=> by
    injection e with e
    have:=(hf_lt hfv g hg).2
    have:=HRR.out
    omega)).trans (HR.out.below.block g (hf_lt hfv g hg).2))
   have HB:Hid (Below w1.heap.size w1 w'):=Lib.hid (HR.out.below.grown hgr HR.out.below.size fun k e=> by
    injection e with e
    have:=HRR.out
    omega)
   have HRG:=Lib.hid hrg
   have HSUB:Hid (∀kl,(left kl && !kl.sameKey (.int .i64 k))=true→has D kl=true):=Lib.hid fun kl h=> HR.out.sub kl (by
    rw [Bool.and_eq_true] at h
    exact h.1)
   have HST:=Lib.hid (seenS_step hlk HUP.out (getF_mem hf))
   have HFL:=Lib.hid (HLEN.out _ (getF_mem hf))
   have hadd:wrap64 ((seenS left L:Int) + (fsize f:Int))=(seenS (fun z=> left z && !z.sameKey (.int .i64 k)) L:Int):=by
    have h1:=seenS_le (fun z=> left z && !z.sameKey (.int .i64 k)) L
    rw [HST.out] at h1 ⊢
    rw [IntWalk.wrap64_in _ (by omega)]
    omega
   have HADD:=Lib.hid hadd
   clear hadd hkey hlk hv hat hrg hgr hhas hf hfv hz hsz'
   go_wp2_with (go_at_call 30;refine (size_walk rb c f w' HF.out (Nat.le_trans HFL.out (by omega))).mono ?_;rintro r2 w2 ⟨rfl,hb2⟩;have HB2:=Lib.hid hb2;clear hb2)
   go_roundg cnt'
   case measure=> exact hlt
   refine ⟨fun z=> left z && !z.sameKey (.int .i64 k),Lib.hid ⟨HRG.out.kept (row:=none) ⟨HB2.out.os,HB2.out.tape,HB2.out.output,HB2.out.size,fun k hk _=> HB2.out.block k hk⟩ (by simp) (by simp),HD.out,HSUB.out,HB.out.trans (HB2.out.mono HB.out.size)⟩,by rw [HADD.out]⟩
def usedOf (T:Nat→Ten) (x:Int):Nat:=if 0≤x∧x < 12 then tsize (T x.toNat).files else 0
theorem used_any {b u lo hi rb n:Nat} {M:Nat→Nat} {T:Nat→Ten} {W:World} (h:Sto b u lo hi rb M T n W) (x:Int):
  Calls Tryz.prog 15 #[.pointer (some ⟨b,0,none⟩),.int .i64 x] W fun e W'=> e= .returned (.int .i64 (usedOf T x:Int))∧Below W.heap.size W W':=by
 unfold usedOf
 by_cases hx:0≤x∧x < 12
 ·obtain ⟨i,rfl⟩:∃i:Nat,x=i:=⟨x.toNat,by omega⟩
  rw [if_pos hx,Int.toNat_natCast]
  exact used_in h (by omega)
 ·rw [if_neg hx]
  refine (used_out _ x W (by omega)).mono ?_
  rintro e W' ⟨rfl,rfl⟩
  exact ⟨rfl,Below.refl _ _⟩
end Go.Proofs.YtmgcnoigihdhpaaGreatDoor
namespace Go.Proofs.YtmgcnoigihdhpaaGreatDoor
section
variable {P : Program} {ops : Array Oper} {Q : Exit → Act → World → Prop} {md : Region.Mode} {S : World → Prop}
def pick (ops:Array Oper) (is:List Nat):List Oper:=is.filterMap (ops[·]?)
theorem pick_lit (l:List Oper) (is:List Nat):pick l.toArray is=is.filterMap (l[·]?):=by
 unfold pick
 congr 1
 funext x
 simp
def Takes (P:Program) (ops:Array Oper) (S:World→Prop):List Oper→Act→Act→Prop
 | [],a,b=> b=a
 | o::r,a,b=> ∃v,YieldsIf P ops S o v a∧Takes P ops S r (a.put o.dst v) b
theorem Takes.done {a:Act}:Takes P ops S [] a a:=rfl
theorem Takes.want {o:Oper} {r:List Oper} {a b:Act} (v:Value) (hw:Region.wanted o (yielded ops a.tmps)=true) (hv:∀w,S w→(execOp a.eval o).run P w= .ok (.value v) w) (h:Takes P ops S r (a.put o.dst v) b):Takes P ops S (o::r) a b:=⟨v,Or.inl ⟨hw,hv⟩,h⟩
def takeable (md:Region.Mode) (ops:Array Oper):List Nat→Array Bool→Bool
 | [],_=> true
 | i::r,l=> decide (i < ops.size) && Region.free md ops l i && (Region.ready md ops l).contains i && takeable md ops r (l.setIfInBounds i true)
def listAll:List Nat→Array Bool→Array Bool
 | [],l=> l
 | i::r,l=> listAll r (l.setIfInBounds i true)
theorem wpAnyH_takes (hs:Region.noSelect ops=true) (hQ:∀d v c a w,Q (.panic c) (Act.put a d v) w→Q (.panic c) a w):∀(is:List Nat) (fuel n:Nat) (listed:Array Bool) (a b:Act) (w:World),n=fuel + is.length→
  takeable md ops is listed=true→Takes P ops S (pick ops is) a b→S w→wpAnyH P md ops Q S fuel (listAll is listed) b w→wpAnyH P md ops Q S n listed a w
 | [],fuel,n,listed,a,b,w,hn,_,ht,_,h=> by
  subst hn
  have:b=a:=ht
  subst this
  exact h
 | i::r,fuel,n,listed,a,b,w,hn,hk,ht,hS,h=> by
  simp only [takeable,Bool.and_eq_true,decide_eq_true_eq] at hk
  obtain ⟨⟨⟨h1,h2⟩,h3⟩,h4⟩:=hk
  have e:ops[i]? =some ops[i]:=Array.getElem?_eq_getElem h1
  have hp:pick ops (i::r)=ops[i]::pick ops r:=by simp [pick,e]
  rw [hp] at ht
  obtain ⟨v,hy,ht⟩:=ht
  obtain rfl:n=(fuel + r.length) + 1:=by rw [hn,List.length_cons];omega
  exact wpAnyH_take e hs h2 h3 (fun c a w=> hQ _ _ c a w) hy hS (wpAnyH_takes hs hQ r fuel _ _ _ b w rfl h4 ht hS h)
def AtOps (P:Program) (ops:Array Oper) (Q:Exit→Act→World→Prop) (K:Act→World→Prop) (a:Act) (w:World):List Oper→Prop
 | [o]=> if Region.wanted o (yielded ops a.tmps)=true then Oper.wp P o a w K Q else K (a.put o.dst undef) w
 | _=> False
theorem wpAnyH_one (i:Nat) {fuel n:Nat} {listed:Array Bool} {a:Act} {w:World} (hr:Region.ready md ops listed= [i]) (hn:n=fuel + 1)
  (h:∀K:Act→World→Prop,Shut (∀a w,S w→(S w→wpAnyH P md ops Q S fuel (listed.setIfInBounds i true) a w)→K a w)→AtOps P ops Q K a w (pick ops [i])):wpAnyH P md ops Q S n listed a w:=by
 subst hn
 have hi:i∈Region.ready md ops listed:=by rw [hr];simp
 obtain ⟨_,o,ho,_⟩:=mem_ready.1 hi
 refine wpAnyH_ready hr (by simp) (AllReadyH.cons ho (fun K hK=> ?_) AllReadyH.nil)
 have:=h K hK
 rw [show pick ops [i]= [o] by simp [pick,ho]] at this
 exact this
theorem wpAnyH_two (i j:Nat) {fuel n:Nat} {listed:Array Bool} {a:Act} {w:World} (hr:Region.ready md ops listed= [i,j]) (hn:n=fuel + 1)
  (h:∀K:Act→World→Prop,Shut (∀a w,S w→(S w→wpAnyH P md ops Q S fuel (listed.setIfInBounds i true) a w)→K a w)→AtOps P ops Q K a w (pick ops [i]))
  (h2:∀K:Act→World→Prop,Shut (∀a w,S w→(S w→wpAnyH P md ops Q S fuel (listed.setIfInBounds j true) a w)→K a w)→AtOps P ops Q K a w (pick ops [j])):wpAnyH P md ops Q S n listed a w:=by
 subst hn
 have hi:i∈Region.ready md ops listed:=by rw [hr];simp
 have hj:j∈Region.ready md ops listed:=by rw [hr];simp
 obtain ⟨_,o,ho,_⟩:=mem_ready.1 hi
 obtain ⟨_,o2,ho2,_⟩:=mem_ready.1 hj
 refine wpAnyH_ready hr (by simp) (AllReadyH.cons ho (fun K hK=> ?_) (AllReadyH.cons ho2 (fun K hK=> ?_) AllReadyH.nil))
 ·have:=h K hK
  rw [show pick ops [i]= [o] by simp [pick,ho]] at this
  exact this
 ·have:=h2 K hK
  rw [show pick ops [j]= [o2] by simp [pick,ho2]] at this
  exact this
end
theorem twT {P:Program} {ops:Array Oper} {S:World→Prop} {o:Oper} {r:List Oper} {a b:Act} {v:Value} (h:Takes P ops S r (a.put o.dst v) b) (hw:Region.wanted o (yielded ops a.tmps)=true:=by rfl) (hv:∀w,S w→(execOp a.eval o).run P w= .ok (.value v) w:=by intro w' hw';have hw1:=hw'.1;have hw3:=hw'.2;clear hw';go_simp;first | done | with_reducible rfl):Takes P ops S (o::r) a b:=Takes.want v hw hv h
end Go.Proofs.YtmgcnoigihdhpaaGreatDoor
namespace Go.Proofs.YtmgcnoigihdhpaaGreatDoor
open Go.RowKit Go.Maps Go.Shelf Go.MapKept Go.ChangeMaps
open Go.WideElems (Fit rd rg pl rd_val rd_key rg_of entry_then_store)
abbrev DUs:=DataW Unit
noncomputable abbrev intR:Value→Option (DUs×List MemPlace):=plainElem Tryz.prog 3
theorem zero3 (w:World):(zeroValue 3).run Tryz.prog w= .ok (.int .i64 0) w:=by rw [Tryz.zeroValue3]
theorem intR_mk {v:Int} (hv:inI v):intR (.int .i64 v)=some (.lit (.int .i64 v),[]):=plainElem_int Tryz.underlying3 hv
theorem inI0:inI 0:=inI_nat (k:=0) (by omega)
theorem uses_look {W:World} {u n:Nat} {D:DUs} (h:W.ownsMap Tryz.prog 113 intR u n D) {c:Ch} {kc:Lit} (hk:keyOf Tryz.prog 113 (kv c)=some kc):∃x,(Instr.lookup 94 (.map (some u)) (kv c) false).run Tryz.prog W= .ok (.int .i64 x) W∧D.atKey kc (.lit (.int .i64 0))= .lit (.int .i64 x)∧inI x:=
 h.lookup_int keyed113 Tryz.underlying94 Tryz.underlying3 (zero3 W) hk
theorem setBlock_heap {W:World} {u:Nat} {es es':Array MapEntry} {cl cl':Nat} (hb:W.heap[u]? =some (.map es' cl')):(setBlock W u (.map es cl)).heap[u]? =some (.map es cl):=heap_setBlock_same hb _
theorem run_inj {α:Type} {a a':α} {w w':World} (h:Result.ok a w=Result.ok a' w'):a=a'∧w=w':=by injection h with h1 h2;exact ⟨h1,h2⟩
set_option maxRecDepth 100000 in
theorem entry_uses {W:World} {u n:Nat} {D:DUs} (h:W.ownsMap Tryz.prog 113 intR u n D) (hn:n < maxLen) {c:Ch} (hc:Okc c):
  ∃(v0:Value) (st:Int) (W1:World) (x:Int),(Instr.mapEntry 94 (.map (some u)) (kv c)).run Tryz.prog W= .ok (.tuple #[v0,.int .i64 st]) W1∧W.grownBy W1 (some u)∧
   (Instr.lookup 94 (.map (some u)) (kv c) false).run Tryz.prog W= .ok (.int .i64 x) W∧(Instr.lookup 94 (.map (some u)) (kv c) false).run Tryz.prog W1= .ok (.int .i64 x) W1∧
   ∀val,inI val→∃W2 D2,(Instr.entryStore 94 (.map (some u)) (.int .i64 st) (.int .i64 val)).run Tryz.prog W1= .ok () W2∧W2.ownsMap Tryz.prog 113 intR u (n + 1) D2∧W1.grownBy W2 (some u):=by
 obtain ⟨kc,hk⟩:=key_ex hc
 have hown:=h
 obtain ⟨x,hlook,hat,hx⟩:=uses_look h hk
 obtain ⟨es,clock,hb,F,hs,hD⟩:=h
 obtain ⟨v0,st,es1,clock1,hE,_,hst⟩:=entry_then_store law113 Tryz.underlying94 zero3 hb F hk
 have grow:∀es' cl',W.grownBy (setBlock W u (.map es' cl')) (some u):=fun es' cl'=> ⟨rfl,rfl,rfl,by simp [setBlock],fun i _ hi=> heap_setBlock_other hb _ fun e=> hi (by rw [e])⟩
 refine ⟨v0,st,setBlock W u (.map es1 clock1),x,hE,grow _ _,hlook,?_,fun val hval=> ?_⟩
 ·rcases law113.find W hk es.toList F.keys with ⟨h1,h2⟩ | ⟨j,e0,h1,h2,h3⟩
  ·have hrun:(Instr.mapEntry 94 (.map (some u)) (kv c)).run Tryz.prog W= .ok (.tuple #[.int .i64 0,goInt clock]) (setBlock W u (.map (es.push ⟨kv c,.int .i64 0,clock⟩) (clock + 1))):=by
    simp [Instr.mapEntry,run_underlying Tryz.underlying94,MapKept.run_getObj_map hb,law113.check W false hk,h1,MapKept.run_setObj_map _ hb,Result.andThen,setBlock]
   have hupd:(Instr.mapUpdate 94 (.map (some u)) (kv c) (.int .i64 0)).run Tryz.prog W= .ok () (setBlock W u (.map (es.push ⟨kv c,.int .i64 0,clock⟩) (clock + 1))):=by
    simp [Instr.mapUpdate,run_underlying Tryz.underlying94,MapKept.run_getObj_map hb,law113.check W false hk,h1,MapKept.run_setObj_map _ hb,Result.andThen,setBlock]
   obtain ⟨_,e1⟩:=run_inj (hE.symm.trans hrun)
   obtain ⟨W',hrun',ho',_⟩:=hown.update keyed113 Tryz.underlying94 hn hk (intR_mk inI0)
   obtain ⟨_,e2⟩:=run_inj (hrun'.symm.trans hupd)
   rw [e1,←e2]
   obtain ⟨y,hly,haty,_⟩:=uses_look ho' hk
   rw [atKey_put_same hown.isMap (keyed113.key hk)] at haty
   have hno:has D kc=false:=by
    rw [Bool.eq_false_iff]
    intro hh
    rw [hD] at hh
    obtain ⟨p,hp,hpk⟩:=List.any_eq_true.1 hh
    obtain ⟨z,hz,rfl⟩:=List.mem_map.1 (mem_sorted.1 hp)
    have h5:=WideAt.sameKey_eq hpk
    obtain ⟨yy,hyy⟩:=F.reads z hz
    rw [rg_of hyy] at h5
    have h6:=rd_key hyy
    rw [h5] at h6
    exact h2 z hz (keyed113.inj h6 hk)
   rw [atKey_of_not_has hno] at hat
   have:x=y:=by
    rw [haty] at hat
    have h7:=DataW.lit.inj hat
    exact (Lit.int.inj h7).2.symm
   rw [this]
   exact hly
  ·have hj:es[j]? =some e0:=by simpa using h2
   have hsame:es.modify j (fun e=> {e with key:=kv c})=es:=by
    apply Array.ext'
    rw [Array.toList_modify,modify_eq_set _ _ _ _ h2]
    have:({e0 with key:=kv c}:MapEntry)=e0:=by rw [←h3]
    rw [this]
    exact WideElems.set_self _ _ _ h2
   have hrun:(Instr.mapEntry 94 (.map (some u)) (kv c)).run Tryz.prog W= .ok (.tuple #[e0.val,goInt e0.born]) (setBlock W u (.map es clock)):=by
    simp [Instr.mapEntry,run_underlying Tryz.underlying94,MapKept.run_getObj_map hb,law113.check W false hk,h1,hj,h3,law113.stays W hk,hsame,MapKept.run_setObj_map _ hb,Result.andThen,setBlock]
   obtain ⟨_,e1⟩:=run_inj (hE.symm.trans hrun)
   rw [e1]
   obtain ⟨y,hly,haty,_⟩:=uses_look (W:=setBlock W u (.map es clock)) ⟨es,clock,setBlock_heap hb,F,hs,hD⟩ hk
   have:x=y:=by
    rw [haty] at hat
    have h7:=DataW.lit.inj hat
    exact (Lit.int.inj h7).2.symm
   rw [this]
   exact hly
 ·obtain ⟨es',cl',h1,h2⟩:=hst (setBlock W u (.map es1 clock1)) (.int .i64 val) (setBlock_heap hb)
  obtain ⟨W',hrun',ho',_⟩:=hown.update keyed113 Tryz.underlying94 hn hk (intR_mk hval)
  obtain ⟨_,e2⟩:=run_inj (hrun'.symm.trans h2)
  have e3:setBlock (setBlock W u (.map es1 clock1)) u (.map es' cl')=setBlock W u (.map es' cl'):=by simp [setBlock]
  refine ⟨_,_,h1,by rw [e3,←e2];exact ho',⟨rfl,rfl,rfl,by simp [setBlock],fun i _ hi=> heap_setBlock_other (setBlock_heap hb) _ fun e=> hi (by rw [e])⟩⟩
end Go.Proofs.YtmgcnoigihdhpaaGreatDoor
namespace Go.Proofs.YtmgcnoigihdhpaaGreatDoor
open Go.RowKit Go.Maps Go.Shelf
def upd (T:Nat→Ten) (i:Nat) (t:Ten):Nat→Ten:=fun j=> if j=i then t else T j
section
variable {b u lo hi rb n : Nat} {M : Nat → Nat} {T : Nat → Ten} {W : World}
theorem Sto.cells0 (h:Sto b u lo hi rb M T n W):W.cell? ⟨b,0,none⟩=some (.map (some u)):=(h.cells (i:=0) (by omega)).2.2
theorem Sto.u_lt (h:Sto b u lo hi rb M T n W):u < W.heap.size:=by
 obtain ⟨D0,⟨es,cl,h5,_⟩⟩:=h.uses
 exact (Array.getElem?_eq_some_iff.1 h5).1
theorem inI_small {k:Int} (h1:0≤k) (h2:k≤1000000):inI k:=by
 obtain ⟨m,rfl⟩:∃m:Nat,k=m:=⟨k.toNat,by omega⟩
 exact inI_nat (by omega)
theorem Sto.m_ne (h:Sto b u lo hi rb M T n W) {i:Nat} (h12:i < 12):b≠M i:=fun e=> by
 obtain ⟨C,h1,_⟩:=h.box
 obtain ⟨es,cl,h7⟩:=(h.files i h12).block
 rw [←e,h1] at h7
 cases h7
theorem Sto.u_ne (h:Sto b u lo hi rb M T n W):b≠u:=fun e=> by
 obtain ⟨C,h1,_⟩:=h.box
 obtain ⟨D0,⟨es,cl,h5,_⟩⟩:=h.uses
 rw [e,h5] at h1
 cases h1
theorem Sto.used (h:Sto b u lo hi rb M T n W) {W':World} {n':Nat} {D:DUs} (hu:W'.ownsMap Tryz.prog 113 intR u n' D) (hg:W.grownBy W' (some u)) (hn:n≤n'):Sto b u lo hi rb M T n' W':=by
 have h:=h.mono hn
 obtain ⟨C,h1,h2,h3,h4⟩:=h.box
 have blk:∀k,k < W.heap.size→k≠u→W'.heap[k]? =W.heap[k]? :=fun k hk hne=> hg.block k hk fun e=> hne (by injection e)
 obtain ⟨D0,⟨es,cl,h5,_⟩⟩:=h.uses
 have hbu:b≠u:=fun e=> by
  rw [e,h5] at h1
  cases h1
 exact ⟨⟨C,(blk b h.b_lt hbu).trans h1,h2,h3,h4⟩,⟨D,hu⟩,fun i hi=> (h.files i hi).keep (blk _ (h.files i hi).lt (h.ne i hi)) fun k hr hs=> blk k hs (by have:=h.u_in;have:=h.rb;omega),h.ok,h.b_in,h.u_in,h.m_in,h.inj,h.ne,h.rb⟩
theorem Sto.turn (h:Sto b u lo hi rb M T n W) {i:Nat} (h12:i < 12) {W1 W2:World} {t:Ten} (hm:FM rb W1 (M i) n t.files) (hg:W.grownBy W1 (some (M i))) (hok:TenOk n t)
  (hc:∀k,k < W1.heap.size→k≠b→W2.heap[k]? =W1.heap[k]?) (hbx:∀C,W1.heap[b]? =some (.cells C 100 (0,0))→W2.heap[b]? =some (.cells (C.setIfInBounds (1 + i * 2 + 1) (.int .i64 t.next)) 100 (0,0))):Sto b u lo hi rb M (upd T i t) n W2:=by
 obtain ⟨C,h1,h2,h3,h4⟩:=h.box
 obtain ⟨D0,⟨es,cl,h5,h6⟩⟩:=h.uses
 have blk:∀k,k < W.heap.size→k≠M i→W1.heap[k]? =W.heap[k]? :=fun k hk hne=> hg.block k hk fun e=> hne (by injection e)
 have hbm:∀j,j < 12→b≠M j:=fun j hj e=> by
  obtain ⟨es,cl,h7⟩:=(h.files j hj).block
  rw [←e,h1] at h7
  cases h7
 have hbu:u≠b:=fun e=> by
  rw [e,h1] at h5
  cases h5
 have hu:u < W.heap.size:=(Array.getElem?_eq_some_iff.1 h5).1
 have hb1:=(blk b h.b_lt (hbm i h12)).trans h1
 have low:∀k,rb≤k→k≠b:=fun k hk=> by have:=h.b_in;have:=h.rb;omega
 refine ⟨⟨_,hbx C hb1,by simpa using h2,by rw [Array.getElem?_setIfInBounds_ne (by omega)];exact h3,fun j hj=> ?_⟩,⟨D0,es,cl,((hc u (Nat.lt_of_lt_of_le hu hg.size) hbu).trans (blk u hu fun e=> h.ne i h12 e.symm)).trans h5,h6⟩,fun j hj=> ?_,fun j hj=> ?_,h.b_in,h.u_in,h.m_in,h.inj,h.ne,h.rb⟩
 ·unfold upd
  obtain ⟨a1,a2⟩:=h4 j hj
  by_cases hji:j=i
  ·subst hji
   rw [if_pos rfl]
   exact ⟨by rw [Array.getElem?_setIfInBounds_ne (by omega)];exact a1,by rw [Array.getElem?_setIfInBounds_self_of_lt (by omega)]⟩
  ·rw [if_neg hji]
   exact ⟨by rw [Array.getElem?_setIfInBounds_ne (by omega)];exact a1,by rw [Array.getElem?_setIfInBounds_ne (by omega)];exact a2⟩
 ·unfold upd
  by_cases hji:j=i
  ·subst hji
   rw [if_pos rfl]
   exact hm.keep (hc _ hm.lt fun e=> hbm j hj e.symm) fun k hr hs=> hc k hs (low k hr)
  ·rw [if_neg hji]
   have hne:M j≠M i:=fun e=> hji (h.inj j i hj h12 e)
   have hmj:=h.files j hj
   refine (hmj.keep (W':=W1) (blk _ hmj.lt hne) fun k hr hs=> blk k hs ?_).keep (hc _ (Nat.lt_of_lt_of_le hmj.lt hg.size) fun e=> hbm j hj e.symm) fun k hr hs=> hc k hs (low k hr)
   have:=h.m_in i h12
   have:=h.rb
   omega
 ·unfold upd
  by_cases hji:j=i
  ·rw [if_pos hji];exact hok
  ·rw [if_neg hji];exact h.ok j hj
theorem Sto.turn0 (h:Sto b u lo hi rb M T n W) {i:Nat} (h12:i < 12) {W1:World} {L:Fls} (hm:FM rb W1 (M i) n L) (hg:W.grownBy W1 (some (M i))) (hok:TenOk n ⟨(T i).next,L⟩):Sto b u lo hi rb M (upd T i ⟨(T i).next,L⟩) n W1:=by
 refine h.turn h12 (t:=⟨(T i).next,L⟩) hm hg hok (fun _ _ _=> rfl) fun C hC=> ?_
 obtain ⟨C0,h1,h2,h3,h4⟩:=h.box
 have hbm:b≠M i:=fun e=> by
  obtain ⟨es,cl,h7⟩:=(h.files i h12).block
  rw [←e,h1] at h7
  cases h7
 have h5:=(hg.block b h.b_lt fun e=> hbm (by injection e)).trans h1
 rw [hC] at h5
 injection h5 with h5
 injection h5 with h5
 subst h5
 rw [hC]
 congr 2
 apply Array.ext_getElem?
 intro j
 rw [Array.getElem?_setIfInBounds]
 split
 ·rename_i e
  subst e
  rw [if_pos (by omega)]
  exact (h4 i h12).2
 ·rfl
end
end Go.Proofs.YtmgcnoigihdhpaaGreatDoor

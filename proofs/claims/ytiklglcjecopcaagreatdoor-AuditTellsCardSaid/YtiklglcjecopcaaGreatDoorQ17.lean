/-
  The table of the types of the program, and that it is the program's. Printed by wip/tools/types.py.
  The evaluation, step by step: one lemma for each step. Over any program.
-/
import Derived.Test.YtiklglcjecopcaaGreatDoorQ16
namespace Go.Proofs.YtiklglcjecopcaaGreatDoor
open Go.RowKit
theorem sizeIs_of {P:Program} {t:Nat} {ti:TypeInfo} (h:P.info? t=some ti):SizeIs P t ti.size:=by
 unfold SizeIs
 rw [h]
 rfl
def tOf:Nat→TI
 | 3=> ⟨1,false,8,[],Value.int IntKind.i64 0,[0],.int .i64⟩
 | 4=> ⟨1,false,1,[],Value.bool false,[0],.bool⟩
 | 5=> ⟨1,false,1,[],Value.int IntKind.u8 0,[0],.int .u8⟩
 | 9=> ⟨1,false,16,[],Value.string {data:= #[]},[0],.str⟩
 | 20=> ⟨1,false,16,[],Value.nilIface,[0],.other⟩
 | 22=> ⟨1,false,24,[],Value.slice none 0 0,[35],.slice 64 35⟩
 | 23=> ⟨1,false,24,[],Value.slice none 0 0,[1],.slice 49 1⟩
 | 24=> ⟨1,false,24,[],Value.slice none 0 0,[12],.slice 69 12⟩
 | 25=> ⟨1,false,24,[],Value.slice none 0 0,[2],.slice 67 2⟩
 | 29=> ⟨1,false,24,[],Value.slice none 0 0,[4],.slice 127 4⟩
 | 30=> ⟨1,false,24,[],Value.slice none 0 0,[3],.slice 131 3⟩
 | 31=> ⟨1,false,24,[],Value.slice none 0 0,[4],.slice 136 4⟩
 | 32=> ⟨1,false,24,[],Value.slice none 0 0,[3],.slice 55 3⟩
 | 33=> ⟨1,false,24,[],Value.slice none 0 0,[1],.slice 80 1⟩
 | 34=> ⟨1,false,24,[],Value.slice none 0 0,[3],.slice 57 3⟩
 | 35=> ⟨1,false,24,[],Value.slice none 0 0,[4],.slice 59 4⟩
 | 36=> ⟨1,false,24,[],Value.slice none 0 0,[4],.slice 61 4⟩
 | 37=> ⟨1,false,24,[],Value.slice none 0 0,[3],.slice 153 3⟩
 | 39=> ⟨13,true,296,[],Value.agg #[Value.int IntKind.i64 0,Value.slice none 0 0,Value.slice none 0 0,Value.slice none 0 0,Value.slice none 0 0,Value.slice none 0 0,Value.slice none 0 0,Value.slice none 0 0,Value.slice none 0 0,Value.slice none 0 0,Value.slice none 0 0,Value.slice none 0 0,Value.slice none 0 0],[0,12,4,3,2,4,3,1,3,4,4,3,2],.struct [(0,3,1),(1,24,1),(2,29,1),(3,30,1),(4,25,1),(5,31,1),(6,32,1),(7,33,1),(8,34,1),(9,35,1),(10,36,1),(11,37,1),(12,25,1)]⟩
 | 44=> ⟨1,false,24,[],Value.slice none 0 0,[1],.slice 3 1⟩
 | 46=> ⟨11,true,112,[],Value.agg #[Value.int IntKind.i64 0,Value.int IntKind.i64 0,Value.int IntKind.i64 0,Value.int IntKind.i64 0,Value.int IntKind.i64 0,Value.int IntKind.i64 0,Value.int IntKind.i64 0,Value.int IntKind.i64 0,Value.int IntKind.i64 0,Value.string {data:= #[]},Value.slice none 0 0],[0,0,0,0,0,0,0,0,0,0,1],.struct [(0,3,1),(1,3,1),(2,3,1),(3,3,1),(4,3,1),(5,3,1),(6,3,1),(7,3,1),(8,3,1),(9,9,1),(10,44,1)]⟩
 | 48=> ⟨14,true,136,[],Value.agg #[Value.int IntKind.i64 0,Value.int IntKind.i64 0,Value.int IntKind.i64 0,Value.int IntKind.i64 0,Value.int IntKind.i64 0,Value.int IntKind.i64 0,Value.int IntKind.i64 0,Value.int IntKind.i64 0,Value.int IntKind.i64 0,Value.int IntKind.i64 0,Value.int IntKind.i64 0,Value.int IntKind.i64 0,Value.string {data:= #[]},Value.slice none 0 0],[0,0,0,0,0,0,0,0,0,0,0,0,0,1],.struct [(0,3,1),(1,3,1),(2,3,1),(3,46,11)]⟩
 | 49=> ⟨1,false,24,[],Value.slice none 0 0,[14],.slice 48 14⟩
 | 51=> ⟨10,true,104,[],Value.agg #[Value.int IntKind.i64 0,Value.int IntKind.i64 0,Value.int IntKind.i64 0,Value.int IntKind.i64 0,Value.int IntKind.i64 0,Value.int IntKind.i64 0,Value.int IntKind.i64 0,Value.int IntKind.i64 0,Value.string {data:= #[]},Value.slice none 0 0],[0,0,0,0,0,0,0,0,0,1],.struct [(0,3,1),(1,3,1),(2,3,1),(3,3,1),(4,3,1),(5,3,1),(6,3,1),(7,3,1),(8,9,1),(9,44,1)]⟩
 | 53=> ⟨5,true,40,[.i .i64,.i .i64,.i .i64,.i .i64,.b],Value.agg #[Value.int IntKind.i64 0,Value.int IntKind.i64 0,Value.int IntKind.i64 0,Value.int IntKind.i64 0,Value.bool false],[0,0,0,0,0],.struct [(0,3,1),(1,3,1),(2,3,1),(3,3,1),(4,4,1)]⟩
 | 55=> ⟨3,true,24,[.i .i64,.i .i64,.i .i64],Value.agg #[Value.int IntKind.i64 0,Value.int IntKind.i64 0,Value.int IntKind.i64 0],[0,0,0],.struct [(0,3,1),(1,3,1),(2,3,1)]⟩
 | 57=> ⟨3,true,24,[.i .i64,.i .i64,.b],Value.agg #[Value.int IntKind.i64 0,Value.int IntKind.i64 0,Value.bool false],[0,0,0],.struct [(0,3,1),(1,3,1),(2,4,1)]⟩
 | 59=> ⟨4,true,32,[.i .i64,.i .i64,.i .i64,.i .i64],Value.agg #[Value.int IntKind.i64 0,Value.int IntKind.i64 0,Value.int IntKind.i64 0,Value.int IntKind.i64 0],[0,0,0,0],.struct [(0,3,1),(1,3,1),(2,3,1),(3,3,1)]⟩
 | 61=> ⟨4,true,32,[.i .i64,.i .i64,.i .i64,.i .i64],Value.agg #[Value.int IntKind.i64 0,Value.int IntKind.i64 0,Value.int IntKind.i64 0,Value.int IntKind.i64 0],[0,0,0,0],.struct [(0,3,1),(1,3,1),(2,3,1),(3,3,1)]⟩
 | 62=> ⟨1,false,24,[],Value.slice none 0 0,[1],.slice 4 1⟩
 | 64=> ⟨35,true,320,[],Value.agg #[Value.int IntKind.i64 0,Value.int IntKind.i64 0,Value.int IntKind.i64 0,Value.int IntKind.i64 0,Value.int IntKind.i64 0,Value.int IntKind.i64 0,Value.int IntKind.i64 0,Value.int IntKind.i64 0,Value.int IntKind.i64 0,Value.int IntKind.i64 0,Value.int IntKind.i64 0,Value.int IntKind.i64 0,Value.int IntKind.i64 0,Value.string {data:= #[]},Value.slice none 0 0,Value.int IntKind.i64 0,Value.int IntKind.i64 0,Value.int IntKind.i64 0,Value.int IntKind.i64 0,Value.bool false,Value.int IntKind.i64 0,Value.int IntKind.i64 0,Value.int IntKind.i64 0,Value.int IntKind.i64 0,Value.int IntKind.i64 0,Value.bool false,Value.int IntKind.i64 0,Value.int IntKind.i64 0,Value.int IntKind.i64 0,Value.int IntKind.i64 0,Value.int IntKind.i64 0,Value.int IntKind.i64 0,Value.int IntKind.i64 0,Value.int IntKind.i64 0,Value.slice none 0 0],[0,0,0,0,0,0,0,0,0,0,0,0,0,0,1,0,0,0,0,0,0,0,0,0,0,0,0,0,0,0,0,0,0,0,1],.struct [(0,3,1),(1,3,1),(2,3,1),(3,3,1),(4,3,1),(5,51,10),(15,53,5),(20,55,3),(23,57,3),(26,59,4),(30,61,4),(34,62,1)]⟩
 | 67=> ⟨2,true,16,[.i .i64,.i .i64],Value.agg #[Value.int IntKind.i64 0,Value.int IntKind.i64 0],[0,0],.struct [(0,3,1),(1,3,1)]⟩
 | 69=> ⟨12,true,136,[],Value.agg #[Value.int IntKind.i64 0,Value.int IntKind.i64 0,Value.slice none 0 0,Value.int IntKind.i64 0,Value.int IntKind.i64 0,Value.int IntKind.i64 0,Value.int IntKind.i64 0,Value.int IntKind.i64 0,Value.int IntKind.i64 0,Value.string {data:= #[]},Value.slice none 0 0,Value.int IntKind.i64 0],[0,0,1,0,0,0,0,0,0,0,1,0],.struct [(0,3,1),(1,3,1),(2,44,1),(3,3,1),(4,3,1),(5,3,1),(6,3,1),(7,3,1),(8,3,1),(9,9,1),(10,44,1),(11,3,1)]⟩
 | 80=> ⟨1,false,24,[],Value.slice none 0 0,[5],.slice 53 5⟩
 | 82=> ⟨1,false,8,[],Value.map none,[0],.map 86 4⟩
 | 83=> ⟨1,false,24,[],Value.slice none 0 0,[3],.slice 86 3⟩
 | 86=> ⟨3,true,24,[.i .i64,.i .i64,.i .i64],Value.agg #[Value.int IntKind.i64 0,Value.int IntKind.i64 0,Value.int IntKind.i64 0],[0,0,0],.struct [(0,3,1),(1,3,1),(2,3,1)]⟩
 | 88=> ⟨1,false,8,[],Value.map none,[0],.map 91 3⟩
 | 91=> ⟨2,true,16,[.i .i64,.i .i64],Value.agg #[Value.int IntKind.i64 0,Value.int IntKind.i64 0],[0,0],.struct [(0,3,1),(1,3,1)]⟩
 | 92=> ⟨1,false,24,[],Value.slice none 0 0,[1],.slice 94 1⟩
 | 94=> ⟨1,false,8,[],Value.map none,[0],.map 3 4⟩
 | 96=> ⟨1,false,8,[],Value.map none,[0],.map 67 4⟩
 | 99=> ⟨1,false,8,[],Value.nilFunc,[0],.other⟩
 | 100=> ⟨1,false,8,[],Value.nilFunc,[0],.other⟩
 | 104=> ⟨1,false,8,[],Value.nilFunc,[0],.other⟩
 | 112=> ⟨1,false,8,[],Value.nilFunc,[0],.other⟩
 | 127=> ⟨4,true,32,[.i .i64,.i .i64,.i .i64,.i .i64],Value.agg #[Value.int IntKind.i64 0,Value.int IntKind.i64 0,Value.int IntKind.i64 0,Value.int IntKind.i64 0],[0,0,0,0],.struct [(0,3,1),(1,3,1),(2,3,1),(3,3,1)]⟩
 | 131=> ⟨3,true,24,[.i .i64,.i .i64,.i .i64],Value.agg #[Value.int IntKind.i64 0,Value.int IntKind.i64 0,Value.int IntKind.i64 0],[0,0,0],.struct [(0,3,1),(1,3,1),(2,3,1)]⟩
 | 136=> ⟨4,true,32,[.i .i64,.i .i64,.i .i64,.i .i64],Value.agg #[Value.int IntKind.i64 0,Value.int IntKind.i64 0,Value.int IntKind.i64 0,Value.int IntKind.i64 0],[0,0,0,0],.struct [(0,3,1),(1,3,1),(2,3,1),(3,3,1)]⟩
 | 153=> ⟨3,true,24,[.i .i64,.i .i64,.i .i64],Value.agg #[Value.int IntKind.i64 0,Value.int IntKind.i64 0,Value.int IntKind.i64 0],[0,0,0],.struct [(0,3,1),(1,3,1),(2,3,1)]⟩
 | 157=> ⟨1,false,8,[],Value.map none,[0],.map 3 3⟩
 | 166=> ⟨1,false,8,[],Value.nilFunc,[0],.other⟩
 | 207=> ⟨1,false,8,[],Value.int IntKind.u64 0,[0],.int .u64⟩
 | 286=> ⟨1,false,8,[],Value.int IntKind.i64 0,[0],.int .i64⟩
 | 293=> ⟨1,false,4,[],Value.int IntKind.u32 0,[0],.int .u32⟩
 | 295=> ⟨1,false,8,[],Value.int IntKind.u64 0,[0],.int .u64⟩
 | 386=> ⟨1,false,8,[],Value.int IntKind.u64 0,[0],.int .u64⟩
 | 390=> ⟨1,false,8,[],Value.pointer none,[0],.ptr⟩
 | 469=> ⟨1,false,8,[],Value.pointer none,[0],.ptr⟩
 | 1000073=> ⟨0,false,1,[],.bool false,[],.none_⟩
 | 1000111=> ⟨0,false,3,[],.bool false,[],.none_⟩
 | 1000026=> ⟨0,false,3,[],.bool false,[],.none_⟩
 | 1000025=> ⟨0,false,4,[],.bool false,[],.none_⟩
 | _=> ⟨0,false,0,[],.bool false,[],.none_⟩
theorem inf_3:Tryz.prog.info? 3=some Tryz.t3:=by kernel_rfl
theorem inf_4:Tryz.prog.info? 4=some Tryz.t4:=by kernel_rfl
theorem inf_5:Tryz.prog.info? 5=some Tryz.t5:=by kernel_rfl
theorem inf_9:Tryz.prog.info? 9=some Tryz.t9:=by kernel_rfl
theorem inf_20:Tryz.prog.info? 20=some Tryz.t20:=by kernel_rfl
theorem inf_22:Tryz.prog.info? 22=some Tryz.t22:=by kernel_rfl
theorem inf_23:Tryz.prog.info? 23=some Tryz.t23:=by kernel_rfl
theorem inf_24:Tryz.prog.info? 24=some Tryz.t24:=by kernel_rfl
theorem inf_25:Tryz.prog.info? 25=some Tryz.t25:=by kernel_rfl
theorem inf_29:Tryz.prog.info? 29=some Tryz.t29:=by kernel_rfl
theorem inf_30:Tryz.prog.info? 30=some Tryz.t30:=by kernel_rfl
theorem inf_31:Tryz.prog.info? 31=some Tryz.t31:=by kernel_rfl
theorem inf_32:Tryz.prog.info? 32=some Tryz.t32:=by kernel_rfl
theorem inf_33:Tryz.prog.info? 33=some Tryz.t33:=by kernel_rfl
theorem inf_34:Tryz.prog.info? 34=some Tryz.t34:=by kernel_rfl
theorem inf_35:Tryz.prog.info? 35=some Tryz.t35:=by kernel_rfl
theorem inf_36:Tryz.prog.info? 36=some Tryz.t36:=by kernel_rfl
theorem inf_37:Tryz.prog.info? 37=some Tryz.t37:=by kernel_rfl
theorem inf_39:Tryz.prog.info? 39=some Tryz.t39:=by kernel_rfl
theorem inf_44:Tryz.prog.info? 44=some Tryz.t44:=by kernel_rfl
theorem inf_46:Tryz.prog.info? 46=some Tryz.t46:=by kernel_rfl
theorem inf_48:Tryz.prog.info? 48=some Tryz.t48:=by kernel_rfl
theorem inf_49:Tryz.prog.info? 49=some Tryz.t49:=by kernel_rfl
theorem inf_51:Tryz.prog.info? 51=some Tryz.t51:=by kernel_rfl
theorem inf_53:Tryz.prog.info? 53=some Tryz.t53:=by kernel_rfl
theorem inf_55:Tryz.prog.info? 55=some Tryz.t55:=by kernel_rfl
theorem inf_57:Tryz.prog.info? 57=some Tryz.t57:=by kernel_rfl
theorem inf_59:Tryz.prog.info? 59=some Tryz.t59:=by kernel_rfl
theorem inf_61:Tryz.prog.info? 61=some Tryz.t61:=by kernel_rfl
theorem inf_62:Tryz.prog.info? 62=some Tryz.t62:=by kernel_rfl
theorem inf_64:Tryz.prog.info? 64=some Tryz.t64:=by kernel_rfl
theorem inf_67:Tryz.prog.info? 67=some Tryz.t67:=by kernel_rfl
theorem inf_69:Tryz.prog.info? 69=some Tryz.t69:=by kernel_rfl
theorem inf_80:Tryz.prog.info? 80=some Tryz.t80:=by kernel_rfl
theorem inf_82:Tryz.prog.info? 82=some Tryz.t82:=by kernel_rfl
theorem inf_83:Tryz.prog.info? 83=some Tryz.t83:=by kernel_rfl
theorem inf_86:Tryz.prog.info? 86=some Tryz.t86:=by kernel_rfl
theorem inf_88:Tryz.prog.info? 88=some Tryz.t88:=by kernel_rfl
theorem inf_91:Tryz.prog.info? 91=some Tryz.t91:=by kernel_rfl
theorem inf_92:Tryz.prog.info? 92=some Tryz.t92:=by kernel_rfl
theorem inf_94:Tryz.prog.info? 94=some Tryz.t94:=by kernel_rfl
theorem inf_96:Tryz.prog.info? 96=some Tryz.t96:=by kernel_rfl
theorem inf_99:Tryz.prog.info? 99=some Tryz.t99:=by kernel_rfl
theorem inf_100:Tryz.prog.info? 100=some Tryz.t100:=by kernel_rfl
theorem inf_104:Tryz.prog.info? 104=some Tryz.t104:=by kernel_rfl
theorem inf_112:Tryz.prog.info? 112=some Tryz.t112:=by kernel_rfl
theorem inf_127:Tryz.prog.info? 127=some Tryz.t127:=by kernel_rfl
theorem inf_131:Tryz.prog.info? 131=some Tryz.t131:=by kernel_rfl
theorem inf_136:Tryz.prog.info? 136=some Tryz.t136:=by kernel_rfl
theorem inf_153:Tryz.prog.info? 153=some Tryz.t153:=by kernel_rfl
theorem inf_157:Tryz.prog.info? 157=some Tryz.t157:=by kernel_rfl
theorem inf_166:Tryz.prog.info? 166=some Tryz.t166:=by kernel_rfl
theorem inf_207:Tryz.prog.info? 207=some Tryz.t207:=by kernel_rfl
theorem inf_286:Tryz.prog.info? 286=some Tryz.t286:=by kernel_rfl
theorem inf_293:Tryz.prog.info? 293=some Tryz.t293:=by kernel_rfl
theorem inf_295:Tryz.prog.info? 295=some Tryz.t295:=by kernel_rfl
theorem inf_386:Tryz.prog.info? 386=some Tryz.t386:=by kernel_rfl
theorem inf_390:Tryz.prog.info? 390=some Tryz.t390:=by kernel_rfl
theorem inf_469:Tryz.prog.info? 469=some Tryz.t469:=by kernel_rfl
theorem sz_3:SizeIs Tryz.prog 3 1:=sizeIs_of inf_3
theorem sz_4:SizeIs Tryz.prog 4 1:=sizeIs_of inf_4
theorem sz_9:SizeIs Tryz.prog 9 1:=sizeIs_of inf_9
theorem sz_24:SizeIs Tryz.prog 24 1:=sizeIs_of inf_24
theorem sz_25:SizeIs Tryz.prog 25 1:=sizeIs_of inf_25
theorem sz_29:SizeIs Tryz.prog 29 1:=sizeIs_of inf_29
theorem sz_30:SizeIs Tryz.prog 30 1:=sizeIs_of inf_30
theorem sz_31:SizeIs Tryz.prog 31 1:=sizeIs_of inf_31
theorem sz_32:SizeIs Tryz.prog 32 1:=sizeIs_of inf_32
theorem sz_33:SizeIs Tryz.prog 33 1:=sizeIs_of inf_33
theorem sz_34:SizeIs Tryz.prog 34 1:=sizeIs_of inf_34
theorem sz_35:SizeIs Tryz.prog 35 1:=sizeIs_of inf_35
theorem sz_36:SizeIs Tryz.prog 36 1:=sizeIs_of inf_36
theorem sz_37:SizeIs Tryz.prog 37 1:=sizeIs_of inf_37
theorem sz_44:SizeIs Tryz.prog 44 1:=sizeIs_of inf_44
theorem sz_46:SizeIs Tryz.prog 46 11:=sizeIs_of inf_46
theorem sz_48:SizeIs Tryz.prog 48 14:=sizeIs_of inf_48
theorem sz_49:SizeIs Tryz.prog 49 1:=sizeIs_of inf_49
theorem sz_51:SizeIs Tryz.prog 51 10:=sizeIs_of inf_51
theorem sz_53:SizeIs Tryz.prog 53 5:=sizeIs_of inf_53
theorem sz_55:SizeIs Tryz.prog 55 3:=sizeIs_of inf_55
theorem sz_57:SizeIs Tryz.prog 57 3:=sizeIs_of inf_57
theorem sz_59:SizeIs Tryz.prog 59 4:=sizeIs_of inf_59
theorem sz_61:SizeIs Tryz.prog 61 4:=sizeIs_of inf_61
theorem sz_62:SizeIs Tryz.prog 62 1:=sizeIs_of inf_62
theorem sz_64:SizeIs Tryz.prog 64 35:=sizeIs_of inf_64
theorem sz_67:SizeIs Tryz.prog 67 2:=sizeIs_of inf_67
theorem sz_69:SizeIs Tryz.prog 69 12:=sizeIs_of inf_69
theorem sz_80:SizeIs Tryz.prog 80 1:=sizeIs_of inf_80
theorem sz_86:SizeIs Tryz.prog 86 3:=sizeIs_of inf_86
theorem sz_94:SizeIs Tryz.prog 94 1:=sizeIs_of inf_94
theorem sz_127:SizeIs Tryz.prog 127 4:=sizeIs_of inf_127
theorem sz_131:SizeIs Tryz.prog 131 3:=sizeIs_of inf_131
theorem sz_136:SizeIs Tryz.prog 136 4:=sizeIs_of inf_136
theorem sz_153:SizeIs Tryz.prog 153 3:=sizeIs_of inf_153
theorem tok_3:TOk1 Tryz.prog 3 ⟨1,false,8,[],Value.int IntKind.i64 0,[0],.int .i64⟩:=⟨⟨Tryz.t3,inf_3,rfl,rfl,rfl⟩,⟨_,Tryz.underlying3,rfl,rfl⟩,rfl,rfl,fun h=> absurd h (by decide)⟩
theorem tok_4:TOk1 Tryz.prog 4 ⟨1,false,1,[],Value.bool false,[0],.bool⟩:=⟨⟨Tryz.t4,inf_4,rfl,rfl,rfl⟩,⟨_,Tryz.underlying4,rfl,rfl⟩,rfl,rfl,fun h=> absurd h (by decide)⟩
theorem tok_5:TOk1 Tryz.prog 5 ⟨1,false,1,[],Value.int IntKind.u8 0,[0],.int .u8⟩:=⟨⟨Tryz.t5,inf_5,rfl,rfl,rfl⟩,⟨_,Tryz.underlying5,rfl,rfl⟩,rfl,rfl,fun h=> absurd h (by decide)⟩
theorem tok_9:TOk1 Tryz.prog 9 ⟨1,false,16,[],Value.string {data:= #[]},[0],.str⟩:=⟨⟨Tryz.t9,inf_9,rfl,rfl,rfl⟩,⟨_,Tryz.underlying9,rfl,rfl⟩,rfl,rfl,fun h=> absurd h (by decide)⟩
theorem tok_20:TOk1 Tryz.prog 20 ⟨1,false,16,[],Value.nilIface,[0],.other⟩:=⟨⟨Tryz.t20,inf_20,rfl,rfl,rfl⟩,⟨_,Tryz.underlying20,rfl,trivial⟩,rfl,rfl,fun h=> absurd h (by decide)⟩
theorem tok_22:TOk1 Tryz.prog 22 ⟨1,false,24,[],Value.slice none 0 0,[35],.slice 64 35⟩:=⟨⟨Tryz.t22,inf_22,rfl,rfl,rfl⟩,⟨_,Tryz.underlying22,rfl,⟨rfl,sz_64⟩⟩,rfl,rfl,fun h=> absurd h (by decide)⟩
theorem tok_23:TOk1 Tryz.prog 23 ⟨1,false,24,[],Value.slice none 0 0,[1],.slice 49 1⟩:=⟨⟨Tryz.t23,inf_23,rfl,rfl,rfl⟩,⟨_,Tryz.underlying23,rfl,⟨rfl,sz_49⟩⟩,rfl,rfl,fun h=> absurd h (by decide)⟩
theorem tok_24:TOk1 Tryz.prog 24 ⟨1,false,24,[],Value.slice none 0 0,[12],.slice 69 12⟩:=⟨⟨Tryz.t24,inf_24,rfl,rfl,rfl⟩,⟨_,Tryz.underlying24,rfl,⟨rfl,sz_69⟩⟩,rfl,rfl,fun h=> absurd h (by decide)⟩
theorem tok_25:TOk1 Tryz.prog 25 ⟨1,false,24,[],Value.slice none 0 0,[2],.slice 67 2⟩:=⟨⟨Tryz.t25,inf_25,rfl,rfl,rfl⟩,⟨_,Tryz.underlying25,rfl,⟨rfl,sz_67⟩⟩,rfl,rfl,fun h=> absurd h (by decide)⟩
theorem tok_29:TOk1 Tryz.prog 29 ⟨1,false,24,[],Value.slice none 0 0,[4],.slice 127 4⟩:=⟨⟨Tryz.t29,inf_29,rfl,rfl,rfl⟩,⟨_,Tryz.underlying29,rfl,⟨rfl,sz_127⟩⟩,rfl,rfl,fun h=> absurd h (by decide)⟩
theorem tok_30:TOk1 Tryz.prog 30 ⟨1,false,24,[],Value.slice none 0 0,[3],.slice 131 3⟩:=⟨⟨Tryz.t30,inf_30,rfl,rfl,rfl⟩,⟨_,Tryz.underlying30,rfl,⟨rfl,sz_131⟩⟩,rfl,rfl,fun h=> absurd h (by decide)⟩
theorem tok_31:TOk1 Tryz.prog 31 ⟨1,false,24,[],Value.slice none 0 0,[4],.slice 136 4⟩:=⟨⟨Tryz.t31,inf_31,rfl,rfl,rfl⟩,⟨_,Tryz.underlying31,rfl,⟨rfl,sz_136⟩⟩,rfl,rfl,fun h=> absurd h (by decide)⟩
theorem tok_32:TOk1 Tryz.prog 32 ⟨1,false,24,[],Value.slice none 0 0,[3],.slice 55 3⟩:=⟨⟨Tryz.t32,inf_32,rfl,rfl,rfl⟩,⟨_,Tryz.underlying32,rfl,⟨rfl,sz_55⟩⟩,rfl,rfl,fun h=> absurd h (by decide)⟩
theorem tok_33:TOk1 Tryz.prog 33 ⟨1,false,24,[],Value.slice none 0 0,[1],.slice 80 1⟩:=⟨⟨Tryz.t33,inf_33,rfl,rfl,rfl⟩,⟨_,Tryz.underlying33,rfl,⟨rfl,sz_80⟩⟩,rfl,rfl,fun h=> absurd h (by decide)⟩
theorem tok_34:TOk1 Tryz.prog 34 ⟨1,false,24,[],Value.slice none 0 0,[3],.slice 57 3⟩:=⟨⟨Tryz.t34,inf_34,rfl,rfl,rfl⟩,⟨_,Tryz.underlying34,rfl,⟨rfl,sz_57⟩⟩,rfl,rfl,fun h=> absurd h (by decide)⟩
theorem tok_35:TOk1 Tryz.prog 35 ⟨1,false,24,[],Value.slice none 0 0,[4],.slice 59 4⟩:=⟨⟨Tryz.t35,inf_35,rfl,rfl,rfl⟩,⟨_,Tryz.underlying35,rfl,⟨rfl,sz_59⟩⟩,rfl,rfl,fun h=> absurd h (by decide)⟩
theorem tok_36:TOk1 Tryz.prog 36 ⟨1,false,24,[],Value.slice none 0 0,[4],.slice 61 4⟩:=⟨⟨Tryz.t36,inf_36,rfl,rfl,rfl⟩,⟨_,Tryz.underlying36,rfl,⟨rfl,sz_61⟩⟩,rfl,rfl,fun h=> absurd h (by decide)⟩
theorem tok_37:TOk1 Tryz.prog 37 ⟨1,false,24,[],Value.slice none 0 0,[3],.slice 153 3⟩:=⟨⟨Tryz.t37,inf_37,rfl,rfl,rfl⟩,⟨_,Tryz.underlying37,rfl,⟨rfl,sz_153⟩⟩,rfl,rfl,fun h=> absurd h (by decide)⟩
theorem tok_39:TOk1 Tryz.prog 39 ⟨13,true,296,[],Value.agg #[Value.int IntKind.i64 0,Value.slice none 0 0,Value.slice none 0 0,Value.slice none 0 0,Value.slice none 0 0,Value.slice none 0 0,Value.slice none 0 0,Value.slice none 0 0,Value.slice none 0 0,Value.slice none 0 0,Value.slice none 0 0,Value.slice none 0 0,Value.slice none 0 0],[0,12,4,3,2,4,3,1,3,4,4,3,2],.struct [(0,3,1),(1,24,1),(2,29,1),(3,30,1),(4,25,1),(5,31,1),(6,32,1),(7,33,1),(8,34,1),(9,35,1),(10,36,1),(11,37,1),(12,25,1)]⟩:=⟨⟨Tryz.t39,inf_39,rfl,rfl,rfl⟩,⟨_,Tryz.underlying39,rfl,⟨_,rfl,rfl,List.forall_mem_cons.2 ⟨sz_3,List.forall_mem_cons.2 ⟨sz_24,List.forall_mem_cons.2 ⟨sz_29,List.forall_mem_cons.2 ⟨sz_30,List.forall_mem_cons.2 ⟨sz_25,List.forall_mem_cons.2 ⟨sz_31,List.forall_mem_cons.2 ⟨sz_32,List.forall_mem_cons.2 ⟨sz_33,List.forall_mem_cons.2 ⟨sz_34,List.forall_mem_cons.2 ⟨sz_35,List.forall_mem_cons.2 ⟨sz_36,List.forall_mem_cons.2 ⟨sz_37,List.forall_mem_cons.2 ⟨sz_25,fun _ h=> by cases h⟩⟩⟩⟩⟩⟩⟩⟩⟩⟩⟩⟩⟩⟩⟩,rfl,rfl,fun h=> absurd h (by decide)⟩
theorem tok_44:TOk1 Tryz.prog 44 ⟨1,false,24,[],Value.slice none 0 0,[1],.slice 3 1⟩:=⟨⟨Tryz.t44,inf_44,rfl,rfl,rfl⟩,⟨_,Tryz.underlying44,rfl,⟨rfl,sz_3⟩⟩,rfl,rfl,fun h=> absurd h (by decide)⟩
theorem tok_46:TOk1 Tryz.prog 46 ⟨11,true,112,[],Value.agg #[Value.int IntKind.i64 0,Value.int IntKind.i64 0,Value.int IntKind.i64 0,Value.int IntKind.i64 0,Value.int IntKind.i64 0,Value.int IntKind.i64 0,Value.int IntKind.i64 0,Value.int IntKind.i64 0,Value.int IntKind.i64 0,Value.string {data:= #[]},Value.slice none 0 0],[0,0,0,0,0,0,0,0,0,0,1],.struct [(0,3,1),(1,3,1),(2,3,1),(3,3,1),(4,3,1),(5,3,1),(6,3,1),(7,3,1),(8,3,1),(9,9,1),(10,44,1)]⟩:=⟨⟨Tryz.t46,inf_46,rfl,rfl,rfl⟩,⟨_,Tryz.underlying46,rfl,⟨_,rfl,rfl,List.forall_mem_cons.2 ⟨sz_3,List.forall_mem_cons.2 ⟨sz_3,List.forall_mem_cons.2 ⟨sz_3,List.forall_mem_cons.2 ⟨sz_3,List.forall_mem_cons.2 ⟨sz_3,List.forall_mem_cons.2 ⟨sz_3,List.forall_mem_cons.2 ⟨sz_3,List.forall_mem_cons.2 ⟨sz_3,List.forall_mem_cons.2 ⟨sz_3,List.forall_mem_cons.2 ⟨sz_9,List.forall_mem_cons.2 ⟨sz_44,fun _ h=> by cases h⟩⟩⟩⟩⟩⟩⟩⟩⟩⟩⟩⟩⟩,rfl,rfl,fun h=> absurd h (by decide)⟩
theorem tok_48:TOk1 Tryz.prog 48 ⟨14,true,136,[],Value.agg #[Value.int IntKind.i64 0,Value.int IntKind.i64 0,Value.int IntKind.i64 0,Value.int IntKind.i64 0,Value.int IntKind.i64 0,Value.int IntKind.i64 0,Value.int IntKind.i64 0,Value.int IntKind.i64 0,Value.int IntKind.i64 0,Value.int IntKind.i64 0,Value.int IntKind.i64 0,Value.int IntKind.i64 0,Value.string {data:= #[]},Value.slice none 0 0],[0,0,0,0,0,0,0,0,0,0,0,0,0,1],.struct [(0,3,1),(1,3,1),(2,3,1),(3,46,11)]⟩:=⟨⟨Tryz.t48,inf_48,rfl,rfl,rfl⟩,⟨_,Tryz.underlying48,rfl,⟨_,rfl,rfl,List.forall_mem_cons.2 ⟨sz_3,List.forall_mem_cons.2 ⟨sz_3,List.forall_mem_cons.2 ⟨sz_3,List.forall_mem_cons.2 ⟨sz_46,fun _ h=> by cases h⟩⟩⟩⟩⟩⟩,rfl,rfl,fun h=> absurd h (by decide)⟩
theorem tok_49:TOk1 Tryz.prog 49 ⟨1,false,24,[],Value.slice none 0 0,[14],.slice 48 14⟩:=⟨⟨Tryz.t49,inf_49,rfl,rfl,rfl⟩,⟨_,Tryz.underlying49,rfl,⟨rfl,sz_48⟩⟩,rfl,rfl,fun h=> absurd h (by decide)⟩
theorem tok_51:TOk1 Tryz.prog 51 ⟨10,true,104,[],Value.agg #[Value.int IntKind.i64 0,Value.int IntKind.i64 0,Value.int IntKind.i64 0,Value.int IntKind.i64 0,Value.int IntKind.i64 0,Value.int IntKind.i64 0,Value.int IntKind.i64 0,Value.int IntKind.i64 0,Value.string {data:= #[]},Value.slice none 0 0],[0,0,0,0,0,0,0,0,0,1],.struct [(0,3,1),(1,3,1),(2,3,1),(3,3,1),(4,3,1),(5,3,1),(6,3,1),(7,3,1),(8,9,1),(9,44,1)]⟩:=⟨⟨Tryz.t51,inf_51,rfl,rfl,rfl⟩,⟨_,Tryz.underlying51,rfl,⟨_,rfl,rfl,List.forall_mem_cons.2 ⟨sz_3,List.forall_mem_cons.2 ⟨sz_3,List.forall_mem_cons.2 ⟨sz_3,List.forall_mem_cons.2 ⟨sz_3,List.forall_mem_cons.2 ⟨sz_3,List.forall_mem_cons.2 ⟨sz_3,List.forall_mem_cons.2 ⟨sz_3,List.forall_mem_cons.2 ⟨sz_3,List.forall_mem_cons.2 ⟨sz_9,List.forall_mem_cons.2 ⟨sz_44,fun _ h=> by cases h⟩⟩⟩⟩⟩⟩⟩⟩⟩⟩⟩⟩,rfl,rfl,fun h=> absurd h (by decide)⟩
theorem tok_53:TOk1 Tryz.prog 53 ⟨5,true,40,[.i .i64,.i .i64,.i .i64,.i .i64,.b],Value.agg #[Value.int IntKind.i64 0,Value.int IntKind.i64 0,Value.int IntKind.i64 0,Value.int IntKind.i64 0,Value.bool false],[0,0,0,0,0],.struct [(0,3,1),(1,3,1),(2,3,1),(3,3,1),(4,4,1)]⟩:=⟨⟨Tryz.t53,inf_53,rfl,rfl,rfl⟩,⟨_,Tryz.underlying53,rfl,⟨_,rfl,rfl,List.forall_mem_cons.2 ⟨sz_3,List.forall_mem_cons.2 ⟨sz_3,List.forall_mem_cons.2 ⟨sz_3,List.forall_mem_cons.2 ⟨sz_3,List.forall_mem_cons.2 ⟨sz_4,fun _ h=> by cases h⟩⟩⟩⟩⟩⟩⟩,rfl,rfl,fun _=> eq_struct_of [.i .i64,.i .i64,.i .i64,.i .i64,.b] Tryz.underlying53 (by kernel_rfl) (by kernel_rfl) ⟨⟨rfl,by decide,sz_3,Tryz.underlying3⟩,⟨⟨rfl,by decide,sz_3,Tryz.underlying3⟩,⟨⟨rfl,by decide,sz_3,Tryz.underlying3⟩,⟨⟨rfl,by decide,sz_3,Tryz.underlying3⟩,⟨⟨rfl,by decide,sz_4,Tryz.underlying4⟩,trivial⟩⟩⟩⟩⟩⟩
theorem tok_55:TOk1 Tryz.prog 55 ⟨3,true,24,[.i .i64,.i .i64,.i .i64],Value.agg #[Value.int IntKind.i64 0,Value.int IntKind.i64 0,Value.int IntKind.i64 0],[0,0,0],.struct [(0,3,1),(1,3,1),(2,3,1)]⟩:=⟨⟨Tryz.t55,inf_55,rfl,rfl,rfl⟩,⟨_,Tryz.underlying55,rfl,⟨_,rfl,rfl,List.forall_mem_cons.2 ⟨sz_3,List.forall_mem_cons.2 ⟨sz_3,List.forall_mem_cons.2 ⟨sz_3,fun _ h=> by cases h⟩⟩⟩⟩⟩,rfl,rfl,fun _=> eq_struct_of [.i .i64,.i .i64,.i .i64] Tryz.underlying55 (by kernel_rfl) (by kernel_rfl) ⟨⟨rfl,by decide,sz_3,Tryz.underlying3⟩,⟨⟨rfl,by decide,sz_3,Tryz.underlying3⟩,⟨⟨rfl,by decide,sz_3,Tryz.underlying3⟩,trivial⟩⟩⟩⟩
theorem tok_57:TOk1 Tryz.prog 57 ⟨3,true,24,[.i .i64,.i .i64,.b],Value.agg #[Value.int IntKind.i64 0,Value.int IntKind.i64 0,Value.bool false],[0,0,0],.struct [(0,3,1),(1,3,1),(2,4,1)]⟩:=⟨⟨Tryz.t57,inf_57,rfl,rfl,rfl⟩,⟨_,Tryz.underlying57,rfl,⟨_,rfl,rfl,List.forall_mem_cons.2 ⟨sz_3,List.forall_mem_cons.2 ⟨sz_3,List.forall_mem_cons.2 ⟨sz_4,fun _ h=> by cases h⟩⟩⟩⟩⟩,rfl,rfl,fun _=> eq_struct_of [.i .i64,.i .i64,.b] Tryz.underlying57 (by kernel_rfl) (by kernel_rfl) ⟨⟨rfl,by decide,sz_3,Tryz.underlying3⟩,⟨⟨rfl,by decide,sz_3,Tryz.underlying3⟩,⟨⟨rfl,by decide,sz_4,Tryz.underlying4⟩,trivial⟩⟩⟩⟩
theorem tok_59:TOk1 Tryz.prog 59 ⟨4,true,32,[.i .i64,.i .i64,.i .i64,.i .i64],Value.agg #[Value.int IntKind.i64 0,Value.int IntKind.i64 0,Value.int IntKind.i64 0,Value.int IntKind.i64 0],[0,0,0,0],.struct [(0,3,1),(1,3,1),(2,3,1),(3,3,1)]⟩:=⟨⟨Tryz.t59,inf_59,rfl,rfl,rfl⟩,⟨_,Tryz.underlying59,rfl,⟨_,rfl,rfl,List.forall_mem_cons.2 ⟨sz_3,List.forall_mem_cons.2 ⟨sz_3,List.forall_mem_cons.2 ⟨sz_3,List.forall_mem_cons.2 ⟨sz_3,fun _ h=> by cases h⟩⟩⟩⟩⟩⟩,rfl,rfl,fun _=> eq_struct_of [.i .i64,.i .i64,.i .i64,.i .i64] Tryz.underlying59 (by kernel_rfl) (by kernel_rfl) ⟨⟨rfl,by decide,sz_3,Tryz.underlying3⟩,⟨⟨rfl,by decide,sz_3,Tryz.underlying3⟩,⟨⟨rfl,by decide,sz_3,Tryz.underlying3⟩,⟨⟨rfl,by decide,sz_3,Tryz.underlying3⟩,trivial⟩⟩⟩⟩⟩
theorem tok_61:TOk1 Tryz.prog 61 ⟨4,true,32,[.i .i64,.i .i64,.i .i64,.i .i64],Value.agg #[Value.int IntKind.i64 0,Value.int IntKind.i64 0,Value.int IntKind.i64 0,Value.int IntKind.i64 0],[0,0,0,0],.struct [(0,3,1),(1,3,1),(2,3,1),(3,3,1)]⟩:=⟨⟨Tryz.t61,inf_61,rfl,rfl,rfl⟩,⟨_,Tryz.underlying61,rfl,⟨_,rfl,rfl,List.forall_mem_cons.2 ⟨sz_3,List.forall_mem_cons.2 ⟨sz_3,List.forall_mem_cons.2 ⟨sz_3,List.forall_mem_cons.2 ⟨sz_3,fun _ h=> by cases h⟩⟩⟩⟩⟩⟩,rfl,rfl,fun _=> eq_struct_of [.i .i64,.i .i64,.i .i64,.i .i64] Tryz.underlying61 (by kernel_rfl) (by kernel_rfl) ⟨⟨rfl,by decide,sz_3,Tryz.underlying3⟩,⟨⟨rfl,by decide,sz_3,Tryz.underlying3⟩,⟨⟨rfl,by decide,sz_3,Tryz.underlying3⟩,⟨⟨rfl,by decide,sz_3,Tryz.underlying3⟩,trivial⟩⟩⟩⟩⟩
theorem tok_62:TOk1 Tryz.prog 62 ⟨1,false,24,[],Value.slice none 0 0,[1],.slice 4 1⟩:=⟨⟨Tryz.t62,inf_62,rfl,rfl,rfl⟩,⟨_,Tryz.underlying62,rfl,⟨rfl,sz_4⟩⟩,rfl,rfl,fun h=> absurd h (by decide)⟩
theorem tok_64:TOk1 Tryz.prog 64 ⟨35,true,320,[],Value.agg #[Value.int IntKind.i64 0,Value.int IntKind.i64 0,Value.int IntKind.i64 0,Value.int IntKind.i64 0,Value.int IntKind.i64 0,Value.int IntKind.i64 0,Value.int IntKind.i64 0,Value.int IntKind.i64 0,Value.int IntKind.i64 0,Value.int IntKind.i64 0,Value.int IntKind.i64 0,Value.int IntKind.i64 0,Value.int IntKind.i64 0,Value.string {data:= #[]},Value.slice none 0 0,Value.int IntKind.i64 0,Value.int IntKind.i64 0,Value.int IntKind.i64 0,Value.int IntKind.i64 0,Value.bool false,Value.int IntKind.i64 0,Value.int IntKind.i64 0,Value.int IntKind.i64 0,Value.int IntKind.i64 0,Value.int IntKind.i64 0,Value.bool false,Value.int IntKind.i64 0,Value.int IntKind.i64 0,Value.int IntKind.i64 0,Value.int IntKind.i64 0,Value.int IntKind.i64 0,Value.int IntKind.i64 0,Value.int IntKind.i64 0,Value.int IntKind.i64 0,Value.slice none 0 0],[0,0,0,0,0,0,0,0,0,0,0,0,0,0,1,0,0,0,0,0,0,0,0,0,0,0,0,0,0,0,0,0,0,0,1],.struct [(0,3,1),(1,3,1),(2,3,1),(3,3,1),(4,3,1),(5,51,10),(15,53,5),(20,55,3),(23,57,3),(26,59,4),(30,61,4),(34,62,1)]⟩:=⟨⟨Tryz.t64,inf_64,rfl,rfl,rfl⟩,⟨_,Tryz.underlying64,rfl,⟨_,rfl,rfl,List.forall_mem_cons.2 ⟨sz_3,List.forall_mem_cons.2 ⟨sz_3,List.forall_mem_cons.2 ⟨sz_3,List.forall_mem_cons.2 ⟨sz_3,List.forall_mem_cons.2 ⟨sz_3,List.forall_mem_cons.2 ⟨sz_51,List.forall_mem_cons.2 ⟨sz_53,List.forall_mem_cons.2 ⟨sz_55,List.forall_mem_cons.2 ⟨sz_57,List.forall_mem_cons.2 ⟨sz_59,List.forall_mem_cons.2 ⟨sz_61,List.forall_mem_cons.2 ⟨sz_62,fun _ h=> by cases h⟩⟩⟩⟩⟩⟩⟩⟩⟩⟩⟩⟩⟩⟩,rfl,rfl,fun h=> absurd h (by decide)⟩
theorem tok_67:TOk1 Tryz.prog 67 ⟨2,true,16,[.i .i64,.i .i64],Value.agg #[Value.int IntKind.i64 0,Value.int IntKind.i64 0],[0,0],.struct [(0,3,1),(1,3,1)]⟩:=⟨⟨Tryz.t67,inf_67,rfl,rfl,rfl⟩,⟨_,Tryz.underlying67,rfl,⟨_,rfl,rfl,List.forall_mem_cons.2 ⟨sz_3,List.forall_mem_cons.2 ⟨sz_3,fun _ h=> by cases h⟩⟩⟩⟩,rfl,rfl,fun _=> eq_struct_of [.i .i64,.i .i64] Tryz.underlying67 (by kernel_rfl) (by kernel_rfl) ⟨⟨rfl,by decide,sz_3,Tryz.underlying3⟩,⟨⟨rfl,by decide,sz_3,Tryz.underlying3⟩,trivial⟩⟩⟩
theorem tok_69:TOk1 Tryz.prog 69 ⟨12,true,136,[],Value.agg #[Value.int IntKind.i64 0,Value.int IntKind.i64 0,Value.slice none 0 0,Value.int IntKind.i64 0,Value.int IntKind.i64 0,Value.int IntKind.i64 0,Value.int IntKind.i64 0,Value.int IntKind.i64 0,Value.int IntKind.i64 0,Value.string {data:= #[]},Value.slice none 0 0,Value.int IntKind.i64 0],[0,0,1,0,0,0,0,0,0,0,1,0],.struct [(0,3,1),(1,3,1),(2,44,1),(3,3,1),(4,3,1),(5,3,1),(6,3,1),(7,3,1),(8,3,1),(9,9,1),(10,44,1),(11,3,1)]⟩:=⟨⟨Tryz.t69,inf_69,rfl,rfl,rfl⟩,⟨_,Tryz.underlying69,rfl,⟨_,rfl,rfl,List.forall_mem_cons.2 ⟨sz_3,List.forall_mem_cons.2 ⟨sz_3,List.forall_mem_cons.2 ⟨sz_44,List.forall_mem_cons.2 ⟨sz_3,List.forall_mem_cons.2 ⟨sz_3,List.forall_mem_cons.2 ⟨sz_3,List.forall_mem_cons.2 ⟨sz_3,List.forall_mem_cons.2 ⟨sz_3,List.forall_mem_cons.2 ⟨sz_3,List.forall_mem_cons.2 ⟨sz_9,List.forall_mem_cons.2 ⟨sz_44,List.forall_mem_cons.2 ⟨sz_3,fun _ h=> by cases h⟩⟩⟩⟩⟩⟩⟩⟩⟩⟩⟩⟩⟩⟩,rfl,rfl,fun h=> absurd h (by decide)⟩
theorem tok_80:TOk1 Tryz.prog 80 ⟨1,false,24,[],Value.slice none 0 0,[5],.slice 53 5⟩:=⟨⟨Tryz.t80,inf_80,rfl,rfl,rfl⟩,⟨_,Tryz.underlying80,rfl,⟨rfl,sz_53⟩⟩,rfl,rfl,fun h=> absurd h (by decide)⟩
theorem tok_82:TOk1 Tryz.prog 82 ⟨1,false,8,[],Value.map none,[0],.map 86 4⟩:=⟨⟨Tryz.t82,inf_82,rfl,rfl,rfl⟩,⟨_,Tryz.underlying82,rfl,rfl⟩,rfl,rfl,fun h=> absurd h (by decide)⟩
theorem tok_83:TOk1 Tryz.prog 83 ⟨1,false,24,[],Value.slice none 0 0,[3],.slice 86 3⟩:=⟨⟨Tryz.t83,inf_83,rfl,rfl,rfl⟩,⟨_,Tryz.underlying83,rfl,⟨rfl,sz_86⟩⟩,rfl,rfl,fun h=> absurd h (by decide)⟩
theorem tok_86:TOk1 Tryz.prog 86 ⟨3,true,24,[.i .i64,.i .i64,.i .i64],Value.agg #[Value.int IntKind.i64 0,Value.int IntKind.i64 0,Value.int IntKind.i64 0],[0,0,0],.struct [(0,3,1),(1,3,1),(2,3,1)]⟩:=⟨⟨Tryz.t86,inf_86,rfl,rfl,rfl⟩,⟨_,Tryz.underlying86,rfl,⟨_,rfl,rfl,List.forall_mem_cons.2 ⟨sz_3,List.forall_mem_cons.2 ⟨sz_3,List.forall_mem_cons.2 ⟨sz_3,fun _ h=> by cases h⟩⟩⟩⟩⟩,rfl,rfl,fun _=> eq_struct_of [.i .i64,.i .i64,.i .i64] Tryz.underlying86 (by kernel_rfl) (by kernel_rfl) ⟨⟨rfl,by decide,sz_3,Tryz.underlying3⟩,⟨⟨rfl,by decide,sz_3,Tryz.underlying3⟩,⟨⟨rfl,by decide,sz_3,Tryz.underlying3⟩,trivial⟩⟩⟩⟩
theorem tok_88:TOk1 Tryz.prog 88 ⟨1,false,8,[],Value.map none,[0],.map 91 3⟩:=⟨⟨Tryz.t88,inf_88,rfl,rfl,rfl⟩,⟨_,Tryz.underlying88,rfl,rfl⟩,rfl,rfl,fun h=> absurd h (by decide)⟩
theorem tok_91:TOk1 Tryz.prog 91 ⟨2,true,16,[.i .i64,.i .i64],Value.agg #[Value.int IntKind.i64 0,Value.int IntKind.i64 0],[0,0],.struct [(0,3,1),(1,3,1)]⟩:=⟨⟨Tryz.t91,inf_91,rfl,rfl,rfl⟩,⟨_,Tryz.underlying91,rfl,⟨_,rfl,rfl,List.forall_mem_cons.2 ⟨sz_3,List.forall_mem_cons.2 ⟨sz_3,fun _ h=> by cases h⟩⟩⟩⟩,rfl,rfl,fun _=> eq_struct_of [.i .i64,.i .i64] Tryz.underlying91 (by kernel_rfl) (by kernel_rfl) ⟨⟨rfl,by decide,sz_3,Tryz.underlying3⟩,⟨⟨rfl,by decide,sz_3,Tryz.underlying3⟩,trivial⟩⟩⟩
theorem tok_92:TOk1 Tryz.prog 92 ⟨1,false,24,[],Value.slice none 0 0,[1],.slice 94 1⟩:=⟨⟨Tryz.t92,inf_92,rfl,rfl,rfl⟩,⟨_,Tryz.underlying92,rfl,⟨rfl,sz_94⟩⟩,rfl,rfl,fun h=> absurd h (by decide)⟩
theorem tok_94:TOk1 Tryz.prog 94 ⟨1,false,8,[],Value.map none,[0],.map 3 4⟩:=⟨⟨Tryz.t94,inf_94,rfl,rfl,rfl⟩,⟨_,Tryz.underlying94,rfl,rfl⟩,rfl,rfl,fun h=> absurd h (by decide)⟩
theorem tok_96:TOk1 Tryz.prog 96 ⟨1,false,8,[],Value.map none,[0],.map 67 4⟩:=⟨⟨Tryz.t96,inf_96,rfl,rfl,rfl⟩,⟨_,Tryz.underlying96,rfl,rfl⟩,rfl,rfl,fun h=> absurd h (by decide)⟩
theorem tok_99:TOk1 Tryz.prog 99 ⟨1,false,8,[],Value.nilFunc,[0],.other⟩:=⟨⟨Tryz.t99,inf_99,rfl,rfl,rfl⟩,⟨_,Tryz.underlying99,rfl,trivial⟩,rfl,rfl,fun h=> absurd h (by decide)⟩
theorem tok_100:TOk1 Tryz.prog 100 ⟨1,false,8,[],Value.nilFunc,[0],.other⟩:=⟨⟨Tryz.t100,inf_100,rfl,rfl,rfl⟩,⟨_,Tryz.underlying100,rfl,trivial⟩,rfl,rfl,fun h=> absurd h (by decide)⟩
theorem tok_104:TOk1 Tryz.prog 104 ⟨1,false,8,[],Value.nilFunc,[0],.other⟩:=⟨⟨Tryz.t104,inf_104,rfl,rfl,rfl⟩,⟨_,Tryz.underlying104,rfl,trivial⟩,rfl,rfl,fun h=> absurd h (by decide)⟩
theorem tok_112:TOk1 Tryz.prog 112 ⟨1,false,8,[],Value.nilFunc,[0],.other⟩:=⟨⟨Tryz.t112,inf_112,rfl,rfl,rfl⟩,⟨_,Tryz.underlying112,rfl,trivial⟩,rfl,rfl,fun h=> absurd h (by decide)⟩
theorem tok_127:TOk1 Tryz.prog 127 ⟨4,true,32,[.i .i64,.i .i64,.i .i64,.i .i64],Value.agg #[Value.int IntKind.i64 0,Value.int IntKind.i64 0,Value.int IntKind.i64 0,Value.int IntKind.i64 0],[0,0,0,0],.struct [(0,3,1),(1,3,1),(2,3,1),(3,3,1)]⟩:=⟨⟨Tryz.t127,inf_127,rfl,rfl,rfl⟩,⟨_,Tryz.underlying127,rfl,⟨_,rfl,rfl,List.forall_mem_cons.2 ⟨sz_3,List.forall_mem_cons.2 ⟨sz_3,List.forall_mem_cons.2 ⟨sz_3,List.forall_mem_cons.2 ⟨sz_3,fun _ h=> by cases h⟩⟩⟩⟩⟩⟩,rfl,rfl,fun _=> eq_struct_of [.i .i64,.i .i64,.i .i64,.i .i64] Tryz.underlying127 (by kernel_rfl) (by kernel_rfl) ⟨⟨rfl,by decide,sz_3,Tryz.underlying3⟩,⟨⟨rfl,by decide,sz_3,Tryz.underlying3⟩,⟨⟨rfl,by decide,sz_3,Tryz.underlying3⟩,⟨⟨rfl,by decide,sz_3,Tryz.underlying3⟩,trivial⟩⟩⟩⟩⟩
theorem tok_131:TOk1 Tryz.prog 131 ⟨3,true,24,[.i .i64,.i .i64,.i .i64],Value.agg #[Value.int IntKind.i64 0,Value.int IntKind.i64 0,Value.int IntKind.i64 0],[0,0,0],.struct [(0,3,1),(1,3,1),(2,3,1)]⟩:=⟨⟨Tryz.t131,inf_131,rfl,rfl,rfl⟩,⟨_,Tryz.underlying131,rfl,⟨_,rfl,rfl,List.forall_mem_cons.2 ⟨sz_3,List.forall_mem_cons.2 ⟨sz_3,List.forall_mem_cons.2 ⟨sz_3,fun _ h=> by cases h⟩⟩⟩⟩⟩,rfl,rfl,fun _=> eq_struct_of [.i .i64,.i .i64,.i .i64] Tryz.underlying131 (by kernel_rfl) (by kernel_rfl) ⟨⟨rfl,by decide,sz_3,Tryz.underlying3⟩,⟨⟨rfl,by decide,sz_3,Tryz.underlying3⟩,⟨⟨rfl,by decide,sz_3,Tryz.underlying3⟩,trivial⟩⟩⟩⟩
theorem tok_136:TOk1 Tryz.prog 136 ⟨4,true,32,[.i .i64,.i .i64,.i .i64,.i .i64],Value.agg #[Value.int IntKind.i64 0,Value.int IntKind.i64 0,Value.int IntKind.i64 0,Value.int IntKind.i64 0],[0,0,0,0],.struct [(0,3,1),(1,3,1),(2,3,1),(3,3,1)]⟩:=⟨⟨Tryz.t136,inf_136,rfl,rfl,rfl⟩,⟨_,Tryz.underlying136,rfl,⟨_,rfl,rfl,List.forall_mem_cons.2 ⟨sz_3,List.forall_mem_cons.2 ⟨sz_3,List.forall_mem_cons.2 ⟨sz_3,List.forall_mem_cons.2 ⟨sz_3,fun _ h=> by cases h⟩⟩⟩⟩⟩⟩,rfl,rfl,fun _=> eq_struct_of [.i .i64,.i .i64,.i .i64,.i .i64] Tryz.underlying136 (by kernel_rfl) (by kernel_rfl) ⟨⟨rfl,by decide,sz_3,Tryz.underlying3⟩,⟨⟨rfl,by decide,sz_3,Tryz.underlying3⟩,⟨⟨rfl,by decide,sz_3,Tryz.underlying3⟩,⟨⟨rfl,by decide,sz_3,Tryz.underlying3⟩,trivial⟩⟩⟩⟩⟩
theorem tok_153:TOk1 Tryz.prog 153 ⟨3,true,24,[.i .i64,.i .i64,.i .i64],Value.agg #[Value.int IntKind.i64 0,Value.int IntKind.i64 0,Value.int IntKind.i64 0],[0,0,0],.struct [(0,3,1),(1,3,1),(2,3,1)]⟩:=⟨⟨Tryz.t153,inf_153,rfl,rfl,rfl⟩,⟨_,Tryz.underlying153,rfl,⟨_,rfl,rfl,List.forall_mem_cons.2 ⟨sz_3,List.forall_mem_cons.2 ⟨sz_3,List.forall_mem_cons.2 ⟨sz_3,fun _ h=> by cases h⟩⟩⟩⟩⟩,rfl,rfl,fun _=> eq_struct_of [.i .i64,.i .i64,.i .i64] Tryz.underlying153 (by kernel_rfl) (by kernel_rfl) ⟨⟨rfl,by decide,sz_3,Tryz.underlying3⟩,⟨⟨rfl,by decide,sz_3,Tryz.underlying3⟩,⟨⟨rfl,by decide,sz_3,Tryz.underlying3⟩,trivial⟩⟩⟩⟩
theorem tok_157:TOk1 Tryz.prog 157 ⟨1,false,8,[],Value.map none,[0],.map 3 3⟩:=⟨⟨Tryz.t157,inf_157,rfl,rfl,rfl⟩,⟨_,Tryz.underlying157,rfl,rfl⟩,rfl,rfl,fun h=> absurd h (by decide)⟩
theorem tok_166:TOk1 Tryz.prog 166 ⟨1,false,8,[],Value.nilFunc,[0],.other⟩:=⟨⟨Tryz.t166,inf_166,rfl,rfl,rfl⟩,⟨_,Tryz.underlying166,rfl,trivial⟩,rfl,rfl,fun h=> absurd h (by decide)⟩
theorem tok_207:TOk1 Tryz.prog 207 ⟨1,false,8,[],Value.int IntKind.u64 0,[0],.int .u64⟩:=⟨⟨Tryz.t207,inf_207,rfl,rfl,rfl⟩,⟨_,Tryz.underlying207,rfl,rfl⟩,rfl,rfl,fun h=> absurd h (by decide)⟩
theorem tok_286:TOk1 Tryz.prog 286 ⟨1,false,8,[],Value.int IntKind.i64 0,[0],.int .i64⟩:=⟨⟨Tryz.t286,inf_286,rfl,rfl,rfl⟩,⟨_,Tryz.underlying286,rfl,rfl⟩,rfl,rfl,fun h=> absurd h (by decide)⟩
theorem tok_293:TOk1 Tryz.prog 293 ⟨1,false,4,[],Value.int IntKind.u32 0,[0],.int .u32⟩:=⟨⟨Tryz.t293,inf_293,rfl,rfl,rfl⟩,⟨_,Tryz.underlying293,rfl,rfl⟩,rfl,rfl,fun h=> absurd h (by decide)⟩
theorem tok_295:TOk1 Tryz.prog 295 ⟨1,false,8,[],Value.int IntKind.u64 0,[0],.int .u64⟩:=⟨⟨Tryz.t295,inf_295,rfl,rfl,rfl⟩,⟨_,Tryz.underlying295,rfl,rfl⟩,rfl,rfl,fun h=> absurd h (by decide)⟩
theorem tok_386:TOk1 Tryz.prog 386 ⟨1,false,8,[],Value.int IntKind.u64 0,[0],.int .u64⟩:=⟨⟨Tryz.t386,inf_386,rfl,rfl,rfl⟩,⟨_,Tryz.underlying386,rfl,rfl⟩,rfl,rfl,fun h=> absurd h (by decide)⟩
theorem tok_390:TOk1 Tryz.prog 390 ⟨1,false,8,[],Value.pointer none,[0],.ptr⟩:=⟨⟨Tryz.t390,inf_390,rfl,rfl,rfl⟩,⟨_,Tryz.underlying390,rfl,⟨_,rfl⟩⟩,rfl,rfl,fun h=> absurd h (by decide)⟩
theorem tok_469:TOk1 Tryz.prog 469 ⟨1,false,8,[],Value.pointer none,[0],.ptr⟩:=⟨⟨Tryz.t469,inf_469,rfl,rfl,rfl⟩,⟨_,Tryz.underlying469,rfl,⟨_,rfl⟩⟩,rfl,rfl,fun h=> absurd h (by decide)⟩
theorem tok:TOk Tryz.prog tOf:=by
 intro t
 unfold tOf
 split
 ·exact fun _=> tok_3
 ·exact fun _=> tok_4
 ·exact fun _=> tok_5
 ·exact fun _=> tok_9
 ·exact fun _=> tok_20
 ·exact fun _=> tok_22
 ·exact fun _=> tok_23
 ·exact fun _=> tok_24
 ·exact fun _=> tok_25
 ·exact fun _=> tok_29
 ·exact fun _=> tok_30
 ·exact fun _=> tok_31
 ·exact fun _=> tok_32
 ·exact fun _=> tok_33
 ·exact fun _=> tok_34
 ·exact fun _=> tok_35
 ·exact fun _=> tok_36
 ·exact fun _=> tok_37
 ·exact fun _=> tok_39
 ·exact fun _=> tok_44
 ·exact fun _=> tok_46
 ·exact fun _=> tok_48
 ·exact fun _=> tok_49
 ·exact fun _=> tok_51
 ·exact fun _=> tok_53
 ·exact fun _=> tok_55
 ·exact fun _=> tok_57
 ·exact fun _=> tok_59
 ·exact fun _=> tok_61
 ·exact fun _=> tok_62
 ·exact fun _=> tok_64
 ·exact fun _=> tok_67
 ·exact fun _=> tok_69
 ·exact fun _=> tok_80
 ·exact fun _=> tok_82
 ·exact fun _=> tok_83
 ·exact fun _=> tok_86
 ·exact fun _=> tok_88
 ·exact fun _=> tok_91
 ·exact fun _=> tok_92
 ·exact fun _=> tok_94
 ·exact fun _=> tok_96
 ·exact fun _=> tok_99
 ·exact fun _=> tok_100
 ·exact fun _=> tok_104
 ·exact fun _=> tok_112
 ·exact fun _=> tok_127
 ·exact fun _=> tok_131
 ·exact fun _=> tok_136
 ·exact fun _=> tok_153
 ·exact fun _=> tok_157
 ·exact fun _=> tok_166
 ·exact fun _=> tok_207
 ·exact fun _=> tok_286
 ·exact fun _=> tok_293
 ·exact fun _=> tok_295
 ·exact fun _=> tok_386
 ·exact fun _=> tok_390
 ·exact fun _=> tok_469
 ·intro h;cases h
 ·intro h;cases h
 ·intro h;cases h
 ·intro h;cases h
 ·intro h;cases h
theorem noeqs:∀t,(tOf t).eqs=true→(tOf t).known=true:=by
 intro t
 unfold tOf
 split <;> first | exact fun _=> rfl | exact fun h=> absurd h (by decide)
theorem mixed:Tryz.prog.follows .mixedOrders=true:=by kernel_rfl
def evT:Step→Mem→Step×Mem
 | .rdb s g k,m=> match m.at_ s g with
  | some (.box cs)=> evT (k cs) m
  | _=> (.fail,m)
 | .rdr s g k,m=> match m.at_ s g with
  | some (.rows _ es _)=> evT (k es) m
  | _=> (.fail,m)
 | .rdm s g k,m=> match m.at_ s g with
  | some (.mapi ck es)=> evT (k ck es) m
  | _=> (.fail,m)
 | .rww s g k,m=> match m.at_ s g with
  | some (.rows sz es false)=> evT (k sz es) m
  | _=> (.fail,m)
 | .rdz s g z k,m=> match m.at_ s g with
  | some (.rows sz _ _)=> bif Nat.beq sz z then evT k m else (.fail,m)
  | _=> (.fail,m)
 | .wr s g i k,m=> evT k (m.set s g (some i))
 | .new s i k,m=> evT (k (m.gen s + 1)) (m.add s i)
 | .app s g sz xs k,m=> match m.at_ s g with
  | some (.rows sz' es false)=> bif Nat.beq sz sz' then evT (k (m.gen s + 1)) ((m.set s g none).add s (.rows sz (es ++ xs) false)) else (.fail,m)
  | _=> (.fail,m)
 | .frz s g k,m=> match m.at_ s g with
  | some (.rows sz es _)=> evT k (m.set s g (some (.rows sz es true)))
  | _=> (.fail,m)
 | .ret v,m=> (.ret v,m)
 | .elem es i k,m=> (.elem es i k,m)
 | .call f args k,m=> (.call f args k,m)
 | .chk p k,m=> (.chk p k,m)
 | .br b x y,m=> (.br b x y,m)
 | .fail,m=> (.fail,m)
section
variable {F : FuncId → List AV → AV → Prop}
theorem evT_wp (s:Step):∀(m:Mem) (K:AV→Mem→Prop),(evT s m).1.wp F (evT s m).2 K→s.wp F m K:=by
 induction s with
 | ret v=> exact fun m K h=> h
 | rdb s g k ih=>
  intro m K h
  simp only [evT] at h
  simp only [Step.wp]
  split at h
  ·rename_i hm
   simp only [hm]
   exact ih _ _ _ h
  ·exact h.elim
 | rdr s g k ih=>
  intro m K h
  simp only [evT] at h
  simp only [Step.wp]
  split at h
  ·rename_i hm
   simp only [hm]
   exact ih _ _ _ h
  ·exact h.elim
 | rdm s g k ih=>
  intro m K h
  simp only [evT] at h
  simp only [Step.wp]
  split at h
  ·rename_i hm
   simp only [hm]
   exact ih _ _ _ _ h
  ·exact h.elim
 | rww s g k ih=>
  intro m K h
  simp only [evT] at h
  simp only [Step.wp]
  split at h
  ·rename_i hm
   simp only [hm]
   exact ih _ _ _ _ h
  ·exact h.elim
 | rdz s g z k ih=>
  intro m K h
  simp only [evT] at h
  simp only [Step.wp]
  split at h
  ·rename_i sz es ro hm
   cases hb:Nat.beq sz z
   ·rw [hb] at h;exact h.elim
   ·rw [hb] at h
    simp only [hm,hb,cond_true]
    exact ih _ _ h
  ·exact h.elim
 | wr s g i k ih=> exact fun m K h=> ih _ _ h
 | new s i k ih=> exact fun m K h=> ih _ _ _ h
 | app s g sz xs k ih=>
  intro m K h
  simp only [evT] at h
  simp only [Step.wp]
  split at h
  ·rename_i sz' es hm
   cases hb:Nat.beq sz sz'
   ·rw [hb] at h;exact h.elim
   ·rw [hb] at h
    simp only [hm,hb,cond_true]
    exact ih _ _ _ h
  ·exact h.elim
 | frz s g k ih=>
  intro m K h
  simp only [evT] at h
  simp only [Step.wp]
  split at h
  ·rename_i hm
   simp only [hm]
   exact ih _ _ h
  ·exact h.elim
 | elem es i k ih=> exact fun m K h=> h
 | call f args k ih=> exact fun m K h=> h
 | chk p k ih=> exact fun m K h=> h
 | br b x y ihx ihy=> exact fun m K h=> h
 | fail=> exact fun m K h=> h
variable {s : Step} {m m' m0 : Mem} {K : AV → Mem → Prop}
theorem evT_to {s':Step} (e:evT s m=(s',m')) (h:s'.wp F m' K):s.wp F m K:=evT_wp s m K (by rw [e];exact h)
theorem W.det (v:AV) (m':Mem) (e:evT s m=(.ret v,m')) (h:K v m'):s.wp F m K:=evT_to e h
theorem W.chk {p:Prop} {k:Step} (e:evT s m=(.chk p k,m')) (hp:p) (h:k.wp F m' K):s.wp F m K:=evT_to e ⟨hp,h⟩
theorem W.elem {es:List (List D)} {i:Nat} {k:List D→Step} {c:List D} (e:evT s m=(.elem es i k,m')) (hc:es[i]? =some c) (h:(k c).wp F m' K):s.wp F m K:=evT_to e ⟨c,hc,h⟩
theorem W.call {f:FuncId} {args:List AV} {k:AV→Step} {r:AV} (e:evT s m=(.call f args k,m')) (hf:F f args r) (h:(k r).wp F m' K):s.wp F m K:=evT_to e ⟨r,hf,h⟩
theorem W.v (v v2:AV) (m':Mem) (e:evT s m=(.ret v,m')) (e1:v=v2) (h:K v2 m'):s.wp F m K:=by
 subst e1
 exact evT_to e h
theorem W.rows (n n2:Nat) (es es2:List (List D)) {s1 g1 z:Nat} (e:evT s m=(.ret (.row s1 g1 n),Mem.add m0 s1 (.rows z es false))) (hn:n=n2) (he:es=es2) (h:K (.row s1 g1 n2) (Mem.add m0 s1 (.rows z es2 false))):s.wp F m K:=by
 subst hn he
 exact evT_to e h
theorem W.look {Kt V:Type} [BEq Kt] (ke:Kt→Value) (ve:V→D) (k:Kt) (l:List (Kt×V)) (z:V) (hk:∀a b,keyEq (ke a) (ke b)=(a==b)) (e:evT s m=(.ret (mres false (mget (ke k) (mapE ke ve l)) (ve z)),m')) (h:K (mcell (ve (mgetT k l z))) m'):s.wp F m K:=by
 have h1:mres false (mget (ke k) (mapE ke ve l)) (ve z)=mcell (ve (mgetT k l z)):=by
  show mcell _=_
  rw [(mget_map hk k z l).1]
 rw [h1] at e
 exact evT_to e h
theorem W.mput {Kt V:Type} [BEq Kt] (ke:Kt→Value) (ve:V→D) (k:Kt) (v:V) (l:List (Kt×V)) {s1 g1:Nat} {ck:CK} (hk:∀a b,keyEq (ke a) (ke b)=(a==b)) (e:evT s m=(.ret (.tup []),Mem.set m0 s1 g1 (some (.mapi ck (mput (ke k) (ve v) (mapE ke ve l)))))) (h:K (.tup []) (Mem.set m0 s1 g1 (some (.mapi ck (mapE ke ve (mputT k v l)))))):s.wp F m K:=by
 rw [mput_map hk] at e
 exact evT_to e h
theorem W.mdel {Kt V:Type} [BEq Kt] (ke:Kt→Value) (ve:V→D) (k:Kt) (l:List (Kt×V)) {s1 g1:Nat} {ck:CK} (hk:∀a b,keyEq (ke a) (ke b)=(a==b)) (e:evT s m=(.ret (.tup []),Mem.set m0 s1 g1 (some (.mapi ck (mdel (ke k) (mapE ke ve l)))))) (h:K (.tup []) (Mem.set m0 s1 g1 (some (.mapi ck (mapE ke ve (mdelT k l)))))):s.wp F m K:=by
 rw [mdel_map hk] at e
 exact evT_to e h
theorem W.len {A:Type} {enc:A→List D} {l:List A} (e:evT s m=(.ret (.d (.v (.int .i64 ((List.map enc l).length:Int)))),m')) (h:K (.d (.v (.int .i64 (l.length:Int)))) m'):s.wp F m K:=by
 rw [List.length_map] at e
 exact evT_to e h
theorem W.app {A:Type} {enc:A→List D} {l l2:List A} {n s1 g1 z:Nat} (e:evT s m=(.ret (.row s1 g1 (n + (List.map enc l2).length)),Mem.add m0 s1 (.rows z (List.map enc l ++ List.map enc l2) false))) (hn:n=l.length) (h:K (.row s1 g1 (l ++ l2).length) (Mem.add m0 s1 (.rows z (List.map enc (l ++ l2)) false))):s.wp F m K:=by
 rw [appMap,hn,appLen] at e
 exact evT_to e h
theorem W.set {A:Type} {enc:A→List D} {l:List A} {i s1 g1 z:Nat} {c:List D} (y:A) (e:evT s m=(.ret (.tup []),Mem.set m0 s1 g1 (some (.rows z (List.set (List.map enc l) i c) false)))) (hc:c=enc y) (h:K (.tup []) (Mem.set m0 s1 g1 (some (.rows z (List.map enc (List.set l i y)) false)))):s.wp F m K:=by
 rw [hc,setMap] at e
 exact evT_to e h
end
def seqK (y:ASt→(Ex→ASt→Prop)→Prop) (Q:Ex→ASt→Prop):Ex→ASt→Prop
 | .normal,st=> y st Q
 | .exit i,st=> Q (.exit i) st
 | .ret,st=> Q .ret st
def blockK (id:Nat) (Q:Ex→ASt→Prop):Ex→ASt→Prop
 | .normal,st=> Q .normal st
 | .exit i,st=> bif Nat.beq i id then Q .normal st else Q (.exit i) st
 | .ret,st=> Q .ret st
def headK {S:Type} (E:S→List (Nat×AV)) (M:S→List (Nat×Inst)) (J:S→Prop) (Q:Ex→ASt→Prop):Ex→ASt→Prop
 | .normal,st=> ∃x,J x∧Enters st (E x) (M x)
 | .exit i,st=> Q (.exit i) st
 | .ret,st=> Q .ret st
section
variable {T : Nat → TI} {base nt : Nat} {F : FuncId → List AV → AV → Prop} {js : List Nat} {st : ASt} {Q : Ex → ASt → Prop}
theorem seqK.e {y:ASt→(Ex→ASt→Prop)→Prop} {i:Nat} (h:Q (.exit i) st):seqK y Q (.exit i) st:=h
theorem seqK.r {y:ASt→(Ex→ASt→Prop)→Prop} (h:Q .ret st):seqK y Q .ret st:=h
theorem blockK.x {id:Nat} (h:Q .normal st):blockK id Q (.exit id) st:=by
 show bif Nat.beq id id then _ else _
 rw [Nat.beq_refl]
 exact h
theorem blockK.e {id i:Nat} (hi:Nat.beq i id=false) (h:Q (.exit i) st):blockK id Q (.exit i) st:=by
 show bif Nat.beq i id then _ else _
 rw [hi]
 exact h
theorem blockK.r {id:Nat} (h:Q .ret st):blockK id Q .ret st:=h
theorem headK.e {S:Type} {E:S→List (Nat×AV)} {M:S→List (Nat×Inst)} {J:S→Prop} {i:Nat} (h:Q (.exit i) st):headK E M J Q (.exit i) st:=h
theorem headK.r {S:Type} {E:S→List (Nat×AV)} {M:S→List (Nat×Inst)} {J:S→Prop} (h:Q .ret st):headK E M J Q .ret st:=h
theorem Enters.of (fl:List (Nat×Nat)) (σ:List (Nat×Nat×Nat)) {E:List (Nat×AV)} {M:List (Nat×Inst)} (m:Mem) (h0:frzM st.m fl=some m) (h1:sepM σ M=true) (h2:chkE σ ⟨st.env,m⟩ E) (h3:chkM σ ⟨st.env,m⟩ M):Enters st E M:=by
 refine ⟨fl,σ,?_⟩
 rw [h0]
 exact ⟨h1,h2,h3⟩
theorem chkE.c {σ:List (Nat×Nat×Nat)} {t:Nat} {v:AV} {r:List (Nat×AV)} (hl:lowV v=true) (h:mapO (viewV st.m v) (unkO (st.env t))=some (renV σ v)) (hr:chkE σ st r):chkE σ st ((t,v)::r):=by
 simp only [chkE,hl]
 exact ⟨h,hr⟩
theorem chkM.c {σ:List (Nat×Nat×Nat)} {s:Nat} {i:Inst} {r:List (Nat×Inst)} (hl:lowI i=true) (h:mapO (viewI st.m i) (st.m.at_ (sig σ s).1 (sig σ s).2)=some (renI σ i)) (hr:chkM σ st r):chkM σ st ((s,i)::r):=by
 simp only [chkM,hl]
 exact ⟨h,hr⟩
theorem A.skip (h:Q .normal st):AW T base nt F js .skip st Q:=h
theorem A.seq {a b:Code} (hj:joinAt js b=false) (h:AW T base nt F js a st (seqK (AW T base nt F js b) Q)):AW T base nt F js (.seq a b) st Q:=by
 have e:seqK (AW T base nt F js b) Q=fun e st'=> match e with
   | .normal=> AW T base nt F js b st' Q
   | e=> Q e st':=by
  funext e st'
  cases e <;> rfl
 rw [e] at h
 simp only [AW,hj]
 exact h
theorem A.block {id:Nat} {c:Code} (h:AW T base nt F js c st (blockK id Q)):AW T base nt F js (.block id c) st Q:=by
 have e:blockK id Q=fun e st'=> match e with
   | .exit i=> bif Nat.beq i id then Q .normal st' else Q (.exit i) st'
   | e=> Q e st':=by
  funext e st'
  cases e <;> rfl
 rw [e] at h
 exact h
theorem A.join {S B:Type} {a b:Code} {p:Option (S⊕B)} {k:S→Option B} {o:B} (E:S→List (Nat×AV)) (M:S→List (Nat×Inst)) (G:B→Prop) (h:seqF p k=some o) (hG:G o) (hj:joinAt js b=true)
  (ha:∀(J:S→Prop) (f:S⊕B),p=some f→Good J G f→AW T base nt F js a st (headK E M J Q))
  (hb:∀(s:S) (o:B),k s=some o→G o→AW T base nt F js b (mkSt (E s) (M s)) Q):AW T base nt F js (.seq a b) st Q:=by
 simp only [AW,hj]
 refine SeqP.of E M G h hG (fun J f h1 h2=> ?_) hb
 have e:headK E M J Q=fun e st'=> match e with
   | .normal=> ∃z,J z∧Enters st' (E z) (M z)
   | e=> Q e st':=by
  funext e st'
  cases e <;> rfl
 have:=ha J f h1 h2
 rw [e] at this
 exact this
theorem A.loop {S B:Type} {c:Code} {body:S→Option (S⊕B)} {s0:S} {o:B} (E:S→List (Nat×AV)) (M:S→List (Nat×Inst)) (G:B→Prop) (h:loopF body s0=some o) (hG:G o) (hen:Enters st (E s0) (M s0))
  (round:∀(J:S→Prop) (s:S) (f:S⊕B),body s=some f→Good J G f→AW T base nt F js c (mkSt (E s) (M s)) (headK E M J Q)):AW T base nt F js (.loop c) st Q:=by
 refine LoopP.of E M G h hG hen (fun J s f h1 h2=> ?_)
 have e:headK E M J Q=fun e st'=> match e with
   | .normal=> ∃x',J x'∧Enters st' (E x') (M x')
   | e=> Q e st':=by
  funext e st'
  cases e <;> rfl
 have:=round J s f h1 h2
 rw [e] at this
 exact this
theorem A.condT {c:Operand} {x y:Code} (e:rawOf st.env c=some (.kb true)) (h:AW T base nt F js x st Q):AW T base nt F js (.cond c x y) st Q:=by
 simp only [AW,e]
 exact h
theorem A.condF {c:Operand} {x y:Code} (e:rawOf st.env c=some (.kb false)) (h:AW T base nt F js y st Q):AW T base nt F js (.cond c x y) st Q:=by
 simp only [AW,e]
 exact h
theorem A.condB {B:Type} {c:Operand} {x y:Code} {b:Bool} {p q:Option B} {f:B} (e:rawOf st.env c=some (.d (.v (.bool b)))) (hb:(bif b then p else q)=some f) (h1:b=true→p=some f→AW T base nt F js x st Q) (h2:b=false→q=some f→AW T base nt F js y st Q):AW T base nt F js (.cond c x y) st Q:=by
 simp only [AW,e]
 exact ifp hb h1 h2
theorem A.condBT {c:Operand} {x y:Code} (e:rawOf st.env c=some (.d (.v (.bool true)))) (h:AW T base nt F js x st Q):AW T base nt F js (.cond c x y) st Q:=by
 simp only [AW,e]
 exact ⟨fun _=> h,fun e=> (by cases e)⟩
theorem A.condBF {c:Operand} {x y:Code} (e:rawOf st.env c=some (.d (.v (.bool false)))) (h:AW T base nt F js y st Q):AW T base nt F js (.cond c x y) st Q:=by
 simp only [AW,e]
 exact ⟨fun e=> (by cases e),fun _=> h⟩
theorem A.regionD {i:Nat} {l:List Oper} (hd:drawOk T l.toArray=true) (h:runL T base nt F l l st (Q .normal)):AW T base nt F js (.region i l.toArray true) st Q:=Or.inl ⟨hd,h⟩
theorem A.regionC {i:Nat} {l:List Oper} (c:List Nat) (hd:drawOkC T l.toArray c=true) (h:runC T base nt F l.toArray c st (Q .normal)):AW T base nt F js (.region i l.toArray true) st Q:=Or.inr ⟨c,hd,h⟩
variable {ops r : List Oper} {K : ASt → Prop} {dst : Option Tmp} {op : Op} {ty : TypeId} {pos : String} {after : Array Edge}
theorem R.end_ {l:List Oper} (h:K st):runC T base nt F l.toArray [] st K:=h
theorem R.at_ {l:List Oper} {i:Nat} {r:List Nat} {o:Oper} (e:l[i]? =some o) (hs:siteB base l st.env o=true) (h:runL T base nt F l [o] st fun st'=> runC T base nt F l.toArray r st' K):runC T base nt F l.toArray (i::r) st K:=by
 have e':l.toArray[i]? =some o:=by simpa using e
 unfold runC
 rw [e']
 exact ⟨hs,h⟩
theorem R.nil (h:K st):runL T base nt F ops [] st K:=h
theorem R.one (hd:dstOk nt ⟨dst,op,ty,pos,after,none⟩=true) (h:(opF T base st.env ⟨dst,op,ty,pos,after,none⟩).wp F st.m fun v m=> runL T base nt F ops r ⟨putE st.env dst v,m⟩ K):runL T base nt F ops (⟨dst,op,ty,pos,after,none⟩::r) st K:=by
 simp only [runL,hd]
 exact h
theorem R.skip {j:Nat} {want:Bool} {t:Tmp} (hd:dstOk nt ⟨dst,op,ty,pos,after,some (j,want)⟩=true) (et:gdst ops j=some t) (e:st.env t=some (.kb !want)) (h:runL T base nt F ops r ⟨putE st.env dst (.tup []),st.m⟩ K):runL T base nt F ops (⟨dst,op,ty,pos,after,some (j,want)⟩::r) st K:=by
 simp only [runL,hd,et,e]
 cases want <;> exact h
theorem R.none_ {j:Nat} {want:Bool} {t:Tmp} (hd:dstOk nt ⟨dst,op,ty,pos,after,some (j,want)⟩=true) (et:gdst ops j=some t) (e:st.env t=some (.tup [])) (h:runL T base nt F ops r ⟨putE st.env dst (.tup []),st.m⟩ K):runL T base nt F ops (⟨dst,op,ty,pos,after,some (j,want)⟩::r) st K:=by
 simp only [runL,hd,et,e]
 exact h
theorem R.run {j:Nat} {want:Bool} {t:Tmp} (hd:dstOk nt ⟨dst,op,ty,pos,after,some (j,want)⟩=true) (et:gdst ops j=some t) (e:st.env t=some (.kb want)) (h:(opF T base st.env ⟨dst,op,ty,pos,after,some (j,want)⟩).wp F st.m fun v m=> runL T base nt F ops r ⟨putE st.env dst v,m⟩ K):runL T base nt F ops (⟨dst,op,ty,pos,after,some (j,want)⟩::r) st K:=by
 simp only [runL,hd,et,e]
 cases want <;> exact h
theorem R.gT {B:Type} {p q:Option B} {f:B} {j:Nat} {t:Tmp} {b:Bool} (hd:dstOk nt ⟨dst,op,ty,pos,after,some (j,true)⟩=true) (et:gdst ops j=some t) (e:st.env t=some (.d (.v (.bool b)))) (hb:(bif b then p else q)=some f)
  (h1:b=true→p=some f→(opF T base (updT st.env t (some (.kb true))) ⟨dst,op,ty,pos,after,some (j,true)⟩).wp F st.m fun v m=> runL T base nt F ops r ⟨putE (updT st.env t (some (.kb true))) dst v,m⟩ K)
  (h2:b=false→q=some f→runL T base nt F ops r ⟨putE (updT st.env t (some (.kb false))) dst (.tup []),st.m⟩ K):runL T base nt F ops (⟨dst,op,ty,pos,after,some (j,true)⟩::r) st K:=by
 simp only [runL,hd,et,e]
 exact ifp hb h1 h2
theorem R.gF {B:Type} {p q:Option B} {f:B} {j:Nat} {t:Tmp} {b:Bool} (hd:dstOk nt ⟨dst,op,ty,pos,after,some (j,false)⟩=true) (et:gdst ops j=some t) (e:st.env t=some (.d (.v (.bool b)))) (hb:(bif b then p else q)=some f)
  (h1:b=true→p=some f→runL T base nt F ops r ⟨putE (updT st.env t (some (.kb true))) dst (.tup []),st.m⟩ K)
  (h2:b=false→q=some f→(opF T base (updT st.env t (some (.kb false))) ⟨dst,op,ty,pos,after,some (j,false)⟩).wp F st.m fun v m=> runL T base nt F ops r ⟨putE (updT st.env t (some (.kb false))) dst v,m⟩ K):runL T base nt F ops (⟨dst,op,ty,pos,after,some (j,false)⟩::r) st K:=by
 simp only [runL,hd,et,e]
 exact ifp hb h1 h2
end
end Go.Proofs.YtiklglcjecopcaaGreatDoor

/-
The table of the types of the program, and that it is the program's. Printed by wip/tools/types.py.
-/
import Derived.Test.YtmgcnoigihdhpaaGreatDoorQ15
namespace Go.Proofs.YtmgcnoigihdhpaaGreatDoor
open Go.RowKit
theorem sizeIs_of {P:Program} {t:Nat} {ti:TypeInfo} (h:P.info? t=some ti):SizeIs P t ti.size:=by
 unfold SizeIs
 rw [h]
 rfl
def tOf:Nat→TI
 | 3=> ⟨1,false,8,[],Value.int IntKind.i64 0,[0],.int .i64⟩
 | 4=> ⟨1,false,1,[],Value.bool false,[0],.bool⟩
 | 5=> ⟨1,false,1,[],Value.int IntKind.u8 0,[0],.int .u8⟩
 | 9=> ⟨1,false,16,[],Value.string {data:= #[]},[0],.str⟩
 | 22=> ⟨1,false,24,[],Value.slice none 0 0,[4],.slice 34 4⟩
 | 23=> ⟨1,false,24,[],Value.slice none 0 0,[3],.slice 93 3⟩
 | 24=> ⟨1,false,24,[],Value.slice none 0 0,[1],.slice 9 1⟩
 | 26=> ⟨22,true,192,[],Value.agg #[Value.string {data:= #[]},Value.int IntKind.i64 0,Value.int IntKind.i64 0,Value.int IntKind.i64 0,Value.bool false,Value.int IntKind.i64 0,Value.bool false,Value.bool false,Value.int IntKind.i64 0,Value.int IntKind.i64 0,Value.int IntKind.i64 0,Value.int IntKind.i64 0,Value.slice none 0 0,Value.int IntKind.i64 0,Value.int IntKind.i64 0,Value.int IntKind.i64 0,Value.int IntKind.i64 0,Value.bool false,Value.int IntKind.i64 0,Value.int IntKind.i64 0,Value.int IntKind.i64 0,Value.int IntKind.i64 0],[0,0,0,0,0,0,0,0,0,0,0,0,1,0,0,0,0,0,0,0,0,0],.struct [(0,9,1),(1,3,1),(2,3,1),(3,3,1),(4,4,1),(5,3,1),(6,4,1),(7,4,1),(8,3,1),(9,3,1),(10,3,1),(11,3,1),(12,24,1),(13,3,1),(14,3,1),(15,3,1),(16,3,1),(17,4,1),(18,3,1),(19,3,1),(20,3,1),(21,3,1)]⟩
 | 31=> ⟨1,false,8,[],Value.pointer none,[0],.ptr⟩
 | 34=> ⟨4,true,40,[.i .i64,.i .i64,.i .i64,.s],Value.agg #[Value.int IntKind.i64 0,Value.int IntKind.i64 0,Value.int IntKind.i64 0,Value.string {data:= #[]}],[0,0,0,0],.struct [(0,3,1),(1,3,1),(2,3,1),(3,9,1)]⟩
 | 35=> ⟨1,false,24,[],Value.slice none 0 0,[1],.slice 3 1⟩
 | 41=> ⟨1,false,8,[],Value.int IntKind.i64 0,[0],.int .i64⟩
 | 93=> ⟨3,true,40,[.s,.s,.i .i64],Value.agg #[Value.string {data:= #[]},Value.string {data:= #[]},Value.int IntKind.i64 0],[0,0,0],.struct [(0,9,1),(1,9,1),(2,3,1)]⟩
 | 94=> ⟨1,false,8,[],Value.map none,[0],.map 113 3⟩
 | 95=> ⟨1,false,8,[],Value.map none,[0],.map 3 108⟩
 | 97=> ⟨2,true,16,[],Value.agg #[Value.map none,Value.int IntKind.i64 0],[0,0],.struct [(0,95,1),(1,3,1)]⟩
 | 98=> ⟨24,true,192,[],Value.agg #[Value.map none,Value.int IntKind.i64 0,Value.map none,Value.int IntKind.i64 0,Value.map none,Value.int IntKind.i64 0,Value.map none,Value.int IntKind.i64 0,Value.map none,Value.int IntKind.i64 0,Value.map none,Value.int IntKind.i64 0,Value.map none,Value.int IntKind.i64 0,Value.map none,Value.int IntKind.i64 0,Value.map none,Value.int IntKind.i64 0,Value.map none,Value.int IntKind.i64 0,Value.map none,Value.int IntKind.i64 0,Value.map none,Value.int IntKind.i64 0],[0,0,0,0,0,0,0,0,0,0,0,0,0,0,0,0,0,0,0,0,0,0,0,0],.array 12 97 2⟩
 | 100=> ⟨25,true,200,[],Value.agg #[Value.map none,Value.map none,Value.int IntKind.i64 0,Value.map none,Value.int IntKind.i64 0,Value.map none,Value.int IntKind.i64 0,Value.map none,Value.int IntKind.i64 0,Value.map none,Value.int IntKind.i64 0,Value.map none,Value.int IntKind.i64 0,Value.map none,Value.int IntKind.i64 0,Value.map none,Value.int IntKind.i64 0,Value.map none,Value.int IntKind.i64 0,Value.map none,Value.int IntKind.i64 0,Value.map none,Value.int IntKind.i64 0,Value.map none,Value.int IntKind.i64 0],[0,0,0,0,0,0,0,0,0,0,0,0,0,0,0,0,0,0,0,0,0,0,0,0,0],.struct [(0,94,1),(1,98,24)]⟩
 | 101=> ⟨1,false,8,[],Value.map none,[0],.map 9 35⟩
 | 104=> ⟨1,false,8,[],Value.pointer none,[0],.ptr⟩
 | 108=> ⟨1,false,24,[],Value.slice none 0 0,[33],.slice 113 33⟩
 | 111=> ⟨32,true,32,[],Value.agg #[Value.int IntKind.u8 0,Value.int IntKind.u8 0,Value.int IntKind.u8 0,Value.int IntKind.u8 0,Value.int IntKind.u8 0,Value.int IntKind.u8 0,Value.int IntKind.u8 0,Value.int IntKind.u8 0,Value.int IntKind.u8 0,Value.int IntKind.u8 0,Value.int IntKind.u8 0,Value.int IntKind.u8 0,Value.int IntKind.u8 0,Value.int IntKind.u8 0,Value.int IntKind.u8 0,Value.int IntKind.u8 0,Value.int IntKind.u8 0,Value.int IntKind.u8 0,Value.int IntKind.u8 0,Value.int IntKind.u8 0,Value.int IntKind.u8 0,Value.int IntKind.u8 0,Value.int IntKind.u8 0,Value.int IntKind.u8 0,Value.int IntKind.u8 0,Value.int IntKind.u8 0,Value.int IntKind.u8 0,Value.int IntKind.u8 0,Value.int IntKind.u8 0,Value.int IntKind.u8 0,Value.int IntKind.u8 0,Value.int IntKind.u8 0],[0,0,0,0,0,0,0,0,0,0,0,0,0,0,0,0,0,0,0,0,0,0,0,0,0,0,0,0,0,0,0,0],.array 32 5 1⟩
 | 113=> ⟨33,true,40,[],Value.agg #[Value.int IntKind.i64 0,Value.int IntKind.u8 0,Value.int IntKind.u8 0,Value.int IntKind.u8 0,Value.int IntKind.u8 0,Value.int IntKind.u8 0,Value.int IntKind.u8 0,Value.int IntKind.u8 0,Value.int IntKind.u8 0,Value.int IntKind.u8 0,Value.int IntKind.u8 0,Value.int IntKind.u8 0,Value.int IntKind.u8 0,Value.int IntKind.u8 0,Value.int IntKind.u8 0,Value.int IntKind.u8 0,Value.int IntKind.u8 0,Value.int IntKind.u8 0,Value.int IntKind.u8 0,Value.int IntKind.u8 0,Value.int IntKind.u8 0,Value.int IntKind.u8 0,Value.int IntKind.u8 0,Value.int IntKind.u8 0,Value.int IntKind.u8 0,Value.int IntKind.u8 0,Value.int IntKind.u8 0,Value.int IntKind.u8 0,Value.int IntKind.u8 0,Value.int IntKind.u8 0,Value.int IntKind.u8 0,Value.int IntKind.u8 0,Value.int IntKind.u8 0],[0,0,0,0,0,0,0,0,0,0,0,0,0,0,0,0,0,0,0,0,0,0,0,0,0,0,0,0,0,0,0,0,0],.struct [(0,3,1),(1,111,32)]⟩
 | 119=> ⟨1,false,8,[],Value.nilFunc,[0],.other⟩
 | 189=> ⟨1,false,24,[],Value.slice none 0 0,[1],.slice 5 1⟩
 | 190=> ⟨1,false,8,[],Value.pointer none,[0],.ptr⟩
 | 192=> ⟨2,true,32,[],Value.agg #[Value.pointer none,Value.slice none 0 0],[0,1],.struct [(0,190,1),(1,189,1)]⟩
 | _=> ⟨0,false,0,[],.bool false,[],.none_⟩
theorem inf_3:Tryz.prog.info? 3=some Tryz.t3:=by kernel_rfl
theorem inf_4:Tryz.prog.info? 4=some Tryz.t4:=by kernel_rfl
theorem inf_5:Tryz.prog.info? 5=some Tryz.t5:=by kernel_rfl
theorem inf_9:Tryz.prog.info? 9=some Tryz.t9:=by kernel_rfl
theorem inf_22:Tryz.prog.info? 22=some Tryz.t22:=by kernel_rfl
theorem inf_23:Tryz.prog.info? 23=some Tryz.t23:=by kernel_rfl
theorem inf_24:Tryz.prog.info? 24=some Tryz.t24:=by kernel_rfl
theorem inf_26:Tryz.prog.info? 26=some Tryz.t26:=by kernel_rfl
theorem inf_31:Tryz.prog.info? 31=some Tryz.t31:=by kernel_rfl
theorem inf_34:Tryz.prog.info? 34=some Tryz.t34:=by kernel_rfl
theorem inf_35:Tryz.prog.info? 35=some Tryz.t35:=by kernel_rfl
theorem inf_41:Tryz.prog.info? 41=some Tryz.t41:=by kernel_rfl
theorem inf_93:Tryz.prog.info? 93=some Tryz.t93:=by kernel_rfl
theorem inf_94:Tryz.prog.info? 94=some Tryz.t94:=by kernel_rfl
theorem inf_95:Tryz.prog.info? 95=some Tryz.t95:=by kernel_rfl
theorem inf_97:Tryz.prog.info? 97=some Tryz.t97:=by kernel_rfl
theorem inf_98:Tryz.prog.info? 98=some Tryz.t98:=by kernel_rfl
theorem inf_100:Tryz.prog.info? 100=some Tryz.t100:=by kernel_rfl
theorem inf_101:Tryz.prog.info? 101=some Tryz.t101:=by kernel_rfl
theorem inf_104:Tryz.prog.info? 104=some Tryz.t104:=by kernel_rfl
theorem inf_108:Tryz.prog.info? 108=some Tryz.t108:=by kernel_rfl
theorem inf_111:Tryz.prog.info? 111=some Tryz.t111:=by kernel_rfl
theorem inf_113:Tryz.prog.info? 113=some Tryz.t113:=by kernel_rfl
theorem inf_119:Tryz.prog.info? 119=some Tryz.t119:=by kernel_rfl
theorem inf_189:Tryz.prog.info? 189=some Tryz.t189:=by kernel_rfl
theorem inf_190:Tryz.prog.info? 190=some Tryz.t190:=by kernel_rfl
theorem inf_192:Tryz.prog.info? 192=some Tryz.t192:=by kernel_rfl
theorem sz_3:SizeIs Tryz.prog 3 1:=sizeIs_of inf_3
theorem sz_4:SizeIs Tryz.prog 4 1:=sizeIs_of inf_4
theorem sz_5:SizeIs Tryz.prog 5 1:=sizeIs_of inf_5
theorem sz_9:SizeIs Tryz.prog 9 1:=sizeIs_of inf_9
theorem sz_24:SizeIs Tryz.prog 24 1:=sizeIs_of inf_24
theorem sz_34:SizeIs Tryz.prog 34 4:=sizeIs_of inf_34
theorem sz_93:SizeIs Tryz.prog 93 3:=sizeIs_of inf_93
theorem sz_94:SizeIs Tryz.prog 94 1:=sizeIs_of inf_94
theorem sz_95:SizeIs Tryz.prog 95 1:=sizeIs_of inf_95
theorem sz_97:SizeIs Tryz.prog 97 2:=sizeIs_of inf_97
theorem sz_98:SizeIs Tryz.prog 98 24:=sizeIs_of inf_98
theorem sz_111:SizeIs Tryz.prog 111 32:=sizeIs_of inf_111
theorem sz_113:SizeIs Tryz.prog 113 33:=sizeIs_of inf_113
theorem sz_189:SizeIs Tryz.prog 189 1:=sizeIs_of inf_189
theorem sz_190:SizeIs Tryz.prog 190 1:=sizeIs_of inf_190
theorem tok_3:TOk1 Tryz.prog 3 ⟨1,false,8,[],Value.int IntKind.i64 0,[0],.int .i64⟩:=⟨⟨Tryz.t3,inf_3,rfl,rfl,rfl⟩,⟨_,Tryz.underlying3,rfl,rfl⟩,rfl,rfl,fun h=> absurd h (by decide)⟩
theorem tok_4:TOk1 Tryz.prog 4 ⟨1,false,1,[],Value.bool false,[0],.bool⟩:=⟨⟨Tryz.t4,inf_4,rfl,rfl,rfl⟩,⟨_,Tryz.underlying4,rfl,rfl⟩,rfl,rfl,fun h=> absurd h (by decide)⟩
theorem tok_5:TOk1 Tryz.prog 5 ⟨1,false,1,[],Value.int IntKind.u8 0,[0],.int .u8⟩:=⟨⟨Tryz.t5,inf_5,rfl,rfl,rfl⟩,⟨_,Tryz.underlying5,rfl,rfl⟩,rfl,rfl,fun h=> absurd h (by decide)⟩
theorem tok_9:TOk1 Tryz.prog 9 ⟨1,false,16,[],Value.string {data:= #[]},[0],.str⟩:=⟨⟨Tryz.t9,inf_9,rfl,rfl,rfl⟩,⟨_,Tryz.underlying9,rfl,rfl⟩,rfl,rfl,fun h=> absurd h (by decide)⟩
theorem tok_22:TOk1 Tryz.prog 22 ⟨1,false,24,[],Value.slice none 0 0,[4],.slice 34 4⟩:=⟨⟨Tryz.t22,inf_22,rfl,rfl,rfl⟩,⟨_,Tryz.underlying22,rfl,⟨rfl,sz_34⟩⟩,rfl,rfl,fun h=> absurd h (by decide)⟩
theorem tok_23:TOk1 Tryz.prog 23 ⟨1,false,24,[],Value.slice none 0 0,[3],.slice 93 3⟩:=⟨⟨Tryz.t23,inf_23,rfl,rfl,rfl⟩,⟨_,Tryz.underlying23,rfl,⟨rfl,sz_93⟩⟩,rfl,rfl,fun h=> absurd h (by decide)⟩
theorem tok_24:TOk1 Tryz.prog 24 ⟨1,false,24,[],Value.slice none 0 0,[1],.slice 9 1⟩:=⟨⟨Tryz.t24,inf_24,rfl,rfl,rfl⟩,⟨_,Tryz.underlying24,rfl,⟨rfl,sz_9⟩⟩,rfl,rfl,fun h=> absurd h (by decide)⟩
theorem tok_26:TOk1 Tryz.prog 26 ⟨22,true,192,[],Value.agg #[Value.string {data:= #[]},Value.int IntKind.i64 0,Value.int IntKind.i64 0,Value.int IntKind.i64 0,Value.bool false,Value.int IntKind.i64 0,Value.bool false,Value.bool false,Value.int IntKind.i64 0,Value.int IntKind.i64 0,Value.int IntKind.i64 0,Value.int IntKind.i64 0,Value.slice none 0 0,Value.int IntKind.i64 0,Value.int IntKind.i64 0,Value.int IntKind.i64 0,Value.int IntKind.i64 0,Value.bool false,Value.int IntKind.i64 0,Value.int IntKind.i64 0,Value.int IntKind.i64 0,Value.int IntKind.i64 0],[0,0,0,0,0,0,0,0,0,0,0,0,1,0,0,0,0,0,0,0,0,0],.struct [(0,9,1),(1,3,1),(2,3,1),(3,3,1),(4,4,1),(5,3,1),(6,4,1),(7,4,1),(8,3,1),(9,3,1),(10,3,1),(11,3,1),(12,24,1),(13,3,1),(14,3,1),(15,3,1),(16,3,1),(17,4,1),(18,3,1),(19,3,1),(20,3,1),(21,3,1)]⟩:=⟨⟨Tryz.t26,inf_26,rfl,rfl,rfl⟩,⟨_,Tryz.underlying26,rfl,⟨_,rfl,rfl,List.forall_mem_cons.2 ⟨sz_9,List.forall_mem_cons.2 ⟨sz_3,List.forall_mem_cons.2 ⟨sz_3,List.forall_mem_cons.2 ⟨sz_3,List.forall_mem_cons.2 ⟨sz_4,List.forall_mem_cons.2 ⟨sz_3,List.forall_mem_cons.2 ⟨sz_4,List.forall_mem_cons.2 ⟨sz_4,List.forall_mem_cons.2 ⟨sz_3,List.forall_mem_cons.2 ⟨sz_3,List.forall_mem_cons.2 ⟨sz_3,List.forall_mem_cons.2 ⟨sz_3,List.forall_mem_cons.2 ⟨sz_24,List.forall_mem_cons.2 ⟨sz_3,List.forall_mem_cons.2 ⟨sz_3,List.forall_mem_cons.2 ⟨sz_3,List.forall_mem_cons.2 ⟨sz_3,List.forall_mem_cons.2 ⟨sz_4,List.forall_mem_cons.2 ⟨sz_3,List.forall_mem_cons.2 ⟨sz_3,List.forall_mem_cons.2 ⟨sz_3,List.forall_mem_cons.2 ⟨sz_3,fun _ h=> by cases h⟩⟩⟩⟩⟩⟩⟩⟩⟩⟩⟩⟩⟩⟩⟩⟩⟩⟩⟩⟩⟩⟩⟩⟩,rfl,rfl,fun h=> absurd h (by decide)⟩
theorem tok_31:TOk1 Tryz.prog 31 ⟨1,false,8,[],Value.pointer none,[0],.ptr⟩:=⟨⟨Tryz.t31,inf_31,rfl,rfl,rfl⟩,⟨_,Tryz.underlying31,rfl,⟨_,rfl⟩⟩,rfl,rfl,fun h=> absurd h (by decide)⟩
theorem tok_34:TOk1 Tryz.prog 34 ⟨4,true,40,[.i .i64,.i .i64,.i .i64,.s],Value.agg #[Value.int IntKind.i64 0,Value.int IntKind.i64 0,Value.int IntKind.i64 0,Value.string {data:= #[]}],[0,0,0,0],.struct [(0,3,1),(1,3,1),(2,3,1),(3,9,1)]⟩:=⟨⟨Tryz.t34,inf_34,rfl,rfl,rfl⟩,⟨_,Tryz.underlying34,rfl,⟨_,rfl,rfl,List.forall_mem_cons.2 ⟨sz_3,List.forall_mem_cons.2 ⟨sz_3,List.forall_mem_cons.2 ⟨sz_3,List.forall_mem_cons.2 ⟨sz_9,fun _ h=> by cases h⟩⟩⟩⟩⟩⟩,rfl,rfl,fun _=> eq_struct_of [.i .i64,.i .i64,.i .i64,.s] Tryz.underlying34 (by kernel_rfl) (by kernel_rfl) ⟨⟨rfl,by decide,sz_3,Tryz.underlying3⟩,⟨⟨rfl,by decide,sz_3,Tryz.underlying3⟩,⟨⟨rfl,by decide,sz_3,Tryz.underlying3⟩,⟨⟨rfl,by decide,sz_9,Tryz.underlying9⟩,trivial⟩⟩⟩⟩⟩
theorem tok_35:TOk1 Tryz.prog 35 ⟨1,false,24,[],Value.slice none 0 0,[1],.slice 3 1⟩:=⟨⟨Tryz.t35,inf_35,rfl,rfl,rfl⟩,⟨_,Tryz.underlying35,rfl,⟨rfl,sz_3⟩⟩,rfl,rfl,fun h=> absurd h (by decide)⟩
theorem tok_41:TOk1 Tryz.prog 41 ⟨1,false,8,[],Value.int IntKind.i64 0,[0],.int .i64⟩:=⟨⟨Tryz.t41,inf_41,rfl,rfl,rfl⟩,⟨_,Tryz.underlying41,rfl,rfl⟩,rfl,rfl,fun h=> absurd h (by decide)⟩
theorem tok_93:TOk1 Tryz.prog 93 ⟨3,true,40,[.s,.s,.i .i64],Value.agg #[Value.string {data:= #[]},Value.string {data:= #[]},Value.int IntKind.i64 0],[0,0,0],.struct [(0,9,1),(1,9,1),(2,3,1)]⟩:=⟨⟨Tryz.t93,inf_93,rfl,rfl,rfl⟩,⟨_,Tryz.underlying93,rfl,⟨_,rfl,rfl,List.forall_mem_cons.2 ⟨sz_9,List.forall_mem_cons.2 ⟨sz_9,List.forall_mem_cons.2 ⟨sz_3,fun _ h=> by cases h⟩⟩⟩⟩⟩,rfl,rfl,fun _=> eq_struct_of [.s,.s,.i .i64] Tryz.underlying93 (by kernel_rfl) (by kernel_rfl) ⟨⟨rfl,by decide,sz_9,Tryz.underlying9⟩,⟨⟨rfl,by decide,sz_9,Tryz.underlying9⟩,⟨⟨rfl,by decide,sz_3,Tryz.underlying3⟩,trivial⟩⟩⟩⟩
theorem tok_94:TOk1 Tryz.prog 94 ⟨1,false,8,[],Value.map none,[0],.map 113 3⟩:=⟨⟨Tryz.t94,inf_94,rfl,rfl,rfl⟩,⟨_,Tryz.underlying94,rfl,rfl⟩,rfl,rfl,fun h=> absurd h (by decide)⟩
theorem tok_95:TOk1 Tryz.prog 95 ⟨1,false,8,[],Value.map none,[0],.map 3 108⟩:=⟨⟨Tryz.t95,inf_95,rfl,rfl,rfl⟩,⟨_,Tryz.underlying95,rfl,rfl⟩,rfl,rfl,fun h=> absurd h (by decide)⟩
theorem tok_97:TOk1 Tryz.prog 97 ⟨2,true,16,[],Value.agg #[Value.map none,Value.int IntKind.i64 0],[0,0],.struct [(0,95,1),(1,3,1)]⟩:=⟨⟨Tryz.t97,inf_97,rfl,rfl,rfl⟩,⟨_,Tryz.underlying97,rfl,⟨_,rfl,rfl,List.forall_mem_cons.2 ⟨sz_95,List.forall_mem_cons.2 ⟨sz_3,fun _ h=> by cases h⟩⟩⟩⟩,rfl,rfl,fun h=> absurd h (by decide)⟩
theorem tok_98:TOk1 Tryz.prog 98 ⟨24,true,192,[],Value.agg #[Value.map none,Value.int IntKind.i64 0,Value.map none,Value.int IntKind.i64 0,Value.map none,Value.int IntKind.i64 0,Value.map none,Value.int IntKind.i64 0,Value.map none,Value.int IntKind.i64 0,Value.map none,Value.int IntKind.i64 0,Value.map none,Value.int IntKind.i64 0,Value.map none,Value.int IntKind.i64 0,Value.map none,Value.int IntKind.i64 0,Value.map none,Value.int IntKind.i64 0,Value.map none,Value.int IntKind.i64 0,Value.map none,Value.int IntKind.i64 0],[0,0,0,0,0,0,0,0,0,0,0,0,0,0,0,0,0,0,0,0,0,0,0,0],.array 12 97 2⟩:=⟨⟨Tryz.t98,inf_98,rfl,rfl,rfl⟩,⟨_,Tryz.underlying98,rfl,⟨rfl,sz_97⟩⟩,rfl,rfl,fun h=> absurd h (by decide)⟩
theorem tok_100:TOk1 Tryz.prog 100 ⟨25,true,200,[],Value.agg #[Value.map none,Value.map none,Value.int IntKind.i64 0,Value.map none,Value.int IntKind.i64 0,Value.map none,Value.int IntKind.i64 0,Value.map none,Value.int IntKind.i64 0,Value.map none,Value.int IntKind.i64 0,Value.map none,Value.int IntKind.i64 0,Value.map none,Value.int IntKind.i64 0,Value.map none,Value.int IntKind.i64 0,Value.map none,Value.int IntKind.i64 0,Value.map none,Value.int IntKind.i64 0,Value.map none,Value.int IntKind.i64 0,Value.map none,Value.int IntKind.i64 0],[0,0,0,0,0,0,0,0,0,0,0,0,0,0,0,0,0,0,0,0,0,0,0,0,0],.struct [(0,94,1),(1,98,24)]⟩:=⟨⟨Tryz.t100,inf_100,rfl,rfl,rfl⟩,⟨_,Tryz.underlying100,rfl,⟨_,rfl,rfl,List.forall_mem_cons.2 ⟨sz_94,List.forall_mem_cons.2 ⟨sz_98,fun _ h=> by cases h⟩⟩⟩⟩,rfl,rfl,fun h=> absurd h (by decide)⟩
theorem tok_101:TOk1 Tryz.prog 101 ⟨1,false,8,[],Value.map none,[0],.map 9 35⟩:=⟨⟨Tryz.t101,inf_101,rfl,rfl,rfl⟩,⟨_,Tryz.underlying101,rfl,rfl⟩,rfl,rfl,fun h=> absurd h (by decide)⟩
theorem tok_104:TOk1 Tryz.prog 104 ⟨1,false,8,[],Value.pointer none,[0],.ptr⟩:=⟨⟨Tryz.t104,inf_104,rfl,rfl,rfl⟩,⟨_,Tryz.underlying104,rfl,⟨_,rfl⟩⟩,rfl,rfl,fun h=> absurd h (by decide)⟩
theorem tok_108:TOk1 Tryz.prog 108 ⟨1,false,24,[],Value.slice none 0 0,[33],.slice 113 33⟩:=⟨⟨Tryz.t108,inf_108,rfl,rfl,rfl⟩,⟨_,Tryz.underlying108,rfl,⟨rfl,sz_113⟩⟩,rfl,rfl,fun h=> absurd h (by decide)⟩
theorem tok_111:TOk1 Tryz.prog 111 ⟨32,true,32,[],Value.agg #[Value.int IntKind.u8 0,Value.int IntKind.u8 0,Value.int IntKind.u8 0,Value.int IntKind.u8 0,Value.int IntKind.u8 0,Value.int IntKind.u8 0,Value.int IntKind.u8 0,Value.int IntKind.u8 0,Value.int IntKind.u8 0,Value.int IntKind.u8 0,Value.int IntKind.u8 0,Value.int IntKind.u8 0,Value.int IntKind.u8 0,Value.int IntKind.u8 0,Value.int IntKind.u8 0,Value.int IntKind.u8 0,Value.int IntKind.u8 0,Value.int IntKind.u8 0,Value.int IntKind.u8 0,Value.int IntKind.u8 0,Value.int IntKind.u8 0,Value.int IntKind.u8 0,Value.int IntKind.u8 0,Value.int IntKind.u8 0,Value.int IntKind.u8 0,Value.int IntKind.u8 0,Value.int IntKind.u8 0,Value.int IntKind.u8 0,Value.int IntKind.u8 0,Value.int IntKind.u8 0,Value.int IntKind.u8 0,Value.int IntKind.u8 0],[0,0,0,0,0,0,0,0,0,0,0,0,0,0,0,0,0,0,0,0,0,0,0,0,0,0,0,0,0,0,0,0],.array 32 5 1⟩:=⟨⟨Tryz.t111,inf_111,rfl,rfl,rfl⟩,⟨_,Tryz.underlying111,rfl,⟨rfl,sz_5⟩⟩,rfl,rfl,fun h=> absurd h (by decide)⟩
theorem tok_113:TOk1 Tryz.prog 113 ⟨33,true,40,[],Value.agg #[Value.int IntKind.i64 0,Value.int IntKind.u8 0,Value.int IntKind.u8 0,Value.int IntKind.u8 0,Value.int IntKind.u8 0,Value.int IntKind.u8 0,Value.int IntKind.u8 0,Value.int IntKind.u8 0,Value.int IntKind.u8 0,Value.int IntKind.u8 0,Value.int IntKind.u8 0,Value.int IntKind.u8 0,Value.int IntKind.u8 0,Value.int IntKind.u8 0,Value.int IntKind.u8 0,Value.int IntKind.u8 0,Value.int IntKind.u8 0,Value.int IntKind.u8 0,Value.int IntKind.u8 0,Value.int IntKind.u8 0,Value.int IntKind.u8 0,Value.int IntKind.u8 0,Value.int IntKind.u8 0,Value.int IntKind.u8 0,Value.int IntKind.u8 0,Value.int IntKind.u8 0,Value.int IntKind.u8 0,Value.int IntKind.u8 0,Value.int IntKind.u8 0,Value.int IntKind.u8 0,Value.int IntKind.u8 0,Value.int IntKind.u8 0,Value.int IntKind.u8 0],[0,0,0,0,0,0,0,0,0,0,0,0,0,0,0,0,0,0,0,0,0,0,0,0,0,0,0,0,0,0,0,0,0],.struct [(0,3,1),(1,111,32)]⟩:=⟨⟨Tryz.t113,inf_113,rfl,rfl,rfl⟩,⟨_,Tryz.underlying113,rfl,⟨_,rfl,rfl,List.forall_mem_cons.2 ⟨sz_3,List.forall_mem_cons.2 ⟨sz_111,fun _ h=> by cases h⟩⟩⟩⟩,rfl,rfl,fun h=> absurd h (by decide)⟩
theorem tok_119:TOk1 Tryz.prog 119 ⟨1,false,8,[],Value.nilFunc,[0],.other⟩:=⟨⟨Tryz.t119,inf_119,rfl,rfl,rfl⟩,⟨_,Tryz.underlying119,rfl,trivial⟩,rfl,rfl,fun h=> absurd h (by decide)⟩
theorem tok_189:TOk1 Tryz.prog 189 ⟨1,false,24,[],Value.slice none 0 0,[1],.slice 5 1⟩:=⟨⟨Tryz.t189,inf_189,rfl,rfl,rfl⟩,⟨_,Tryz.underlying189,rfl,⟨rfl,sz_5⟩⟩,rfl,rfl,fun h=> absurd h (by decide)⟩
theorem tok_190:TOk1 Tryz.prog 190 ⟨1,false,8,[],Value.pointer none,[0],.ptr⟩:=⟨⟨Tryz.t190,inf_190,rfl,rfl,rfl⟩,⟨_,Tryz.underlying190,rfl,⟨_,rfl⟩⟩,rfl,rfl,fun h=> absurd h (by decide)⟩
theorem tok_192:TOk1 Tryz.prog 192 ⟨2,true,32,[],Value.agg #[Value.pointer none,Value.slice none 0 0],[0,1],.struct [(0,190,1),(1,189,1)]⟩:=⟨⟨Tryz.t192,inf_192,rfl,rfl,rfl⟩,⟨_,Tryz.underlying192,rfl,⟨_,rfl,rfl,List.forall_mem_cons.2 ⟨sz_190,List.forall_mem_cons.2 ⟨sz_189,fun _ h=> by cases h⟩⟩⟩⟩,rfl,rfl,fun h=> absurd h (by decide)⟩
theorem tok:TOk Tryz.prog tOf:=by
 intro t
 unfold tOf
 split
 ·exact fun _=> tok_3
 ·exact fun _=> tok_4
 ·exact fun _=> tok_5
 ·exact fun _=> tok_9
 ·exact fun _=> tok_22
 ·exact fun _=> tok_23
 ·exact fun _=> tok_24
 ·exact fun _=> tok_26
 ·exact fun _=> tok_31
 ·exact fun _=> tok_34
 ·exact fun _=> tok_35
 ·exact fun _=> tok_41
 ·exact fun _=> tok_93
 ·exact fun _=> tok_94
 ·exact fun _=> tok_95
 ·exact fun _=> tok_97
 ·exact fun _=> tok_98
 ·exact fun _=> tok_100
 ·exact fun _=> tok_101
 ·exact fun _=> tok_104
 ·exact fun _=> tok_108
 ·exact fun _=> tok_111
 ·exact fun _=> tok_113
 ·exact fun _=> tok_119
 ·exact fun _=> tok_189
 ·exact fun _=> tok_190
 ·exact fun _=> tok_192
 ·intro h;cases h
theorem noeqs:∀t,(tOf t).eqs=true→(tOf t).known=true:=by
 intro t
 unfold tOf
 split <;> first | exact fun _=> rfl | exact fun h=> absurd h (by decide)
theorem mixed:Tryz.prog.follows .mixedOrders=true:=by kernel_rfl
def seqF {A B:Type} (p:Option (A⊕B)) (k:A→Option B):Option B:=match p with
 | none=> none
 | some (.inl a)=> k a
 | some (.inr b)=> some b
def runF {S B:Type} (body:S→Option (S⊕B)):Nat→S→Option B
 | 0,_=> none
 | n + 1,s=> match body s with
  | none=> none
  | some (.inl s')=> runF body n s'
  | some (.inr b)=> some b
open Classical in
noncomputable def loopF {S B:Type} (body:S→Option (S⊕B)) (s:S):Option B:=if h:∃b n,runF body n s=some b then some h.choose else none
theorem runF_succ {S B:Type} {body:S→Option (S⊕B)}:∀{n:Nat} {s:S} {b:B},runF body n s=some b→runF body (n + 1) s=some b
 | 0,s,b,h=> by cases h
 | n + 1,s,b,h=> by
  simp only [runF] at h
  rw [runF]
  cases hb:body s with
  | none=> rw [hb] at h;cases h
  | some f=>
   rw [hb] at h
   cases f with
   | inl s'=> exact runF_succ (n:=n) h
   | inr b'=> exact h
theorem runF_le {S B:Type} {body:S→Option (S⊕B)} {n m:Nat} (hm:n≤m) {s:S} {b:B} (h:runF body n s=some b):runF body m s=some b:=by
 induction hm with
 | refl=> exact h
 | step _ ih=> exact runF_succ ih
theorem runF_one {S B:Type} {body:S→Option (S⊕B)} {n m:Nat} {s:S} {b c:B} (h:runF body n s=some b) (k:runF body m s=some c):b=c:=by
 have h1:=runF_le (Nat.le_max_left n m) h
 have h2:=runF_le (Nat.le_max_right n m) k
 rw [h1] at h2
 injection h2
theorem loopF_iff {S B:Type} {body:S→Option (S⊕B)} {s:S} {b:B}:loopF body s=some b↔∃n,runF body n s=some b:=by
 unfold loopF
 constructor
 ·intro h
  split at h
  ·rename_i hx
   injection h with h
   subst h
   exact hx.choose_spec
  ·cases h
 ·rintro ⟨n,h⟩
  have hx:∃b n,runF body n s=some b:=⟨b,n,h⟩
  rw [dif_pos hx]
  obtain ⟨m,hm⟩:=hx.choose_spec
  rw [runF_one hm h]
theorem loopF_eq {S B:Type} (body:S→Option (S⊕B)) (s:S):loopF body s=match body s with
  | none=> none
  | some (.inl s')=> loopF body s'
  | some (.inr b)=> some b:=by
 apply Option.ext
 intro b
 rw [loopF_iff]
 constructor
 ·rintro ⟨n,h⟩
  cases n with
  | zero=> cases h
  | succ n=>
   rw [runF] at h
   cases hb:body s with
   | none=> rw [hb] at h;cases h
   | some f=>
    rw [hb] at h
    cases f with
    | inl s'=> exact loopF_iff.2 ⟨n,h⟩
    | inr b'=> exact h
 ·intro h
  cases hb:body s with
  | none=> rw [hb] at h;cases h
  | some f=>
   rw [hb] at h
   cases f with
   | inl s'=>
    obtain ⟨n,hn⟩:=loopF_iff.1 h
    exact ⟨n + 1,by rw [runF,hb];exact hn⟩
   | inr b'=> exact ⟨1,by rw [runF,hb];exact h⟩
def Good {S B:Type} (J:S→Prop) (G:B→Prop):S⊕B→Prop
 | .inl s=> J s
 | .inr b=> G b
theorem LoopP.of {S B:Type} {body:S→Option (S⊕B)} {s0:S} {b:B} {c:ASt→(Ex→ASt→Prop)→Prop} {st:ASt} {Q:Ex→ASt→Prop} (E:S→List (Nat×AV)) (M:S→List (Nat×Inst)) (G:B→Prop) (h:loopF body s0=some b) (hG:G b) (hen:Enters st (E s0) (M s0))
  (round:∀(J:S→Prop) (s:S) (f:S⊕B),body s=some f→Good J G f→c (mkSt (E s) (M s)) fun e st'=> match e with
   | .normal=> ∃x',J x'∧Enters st' (E x') (M x')
   | e=> Q e st'):LoopP c st Q:=by
 obtain ⟨n,hn⟩:=loopF_iff.1 h
 refine ⟨⟨S,E,M,fun n s=> runF body n s=some b,⟨n,s0,hn,hen⟩,fun n s hs=> ?_⟩⟩
 cases n with
 | zero=> cases hs
 | succ n=>
  rw [runF] at hs
  cases hb:body s with
  | none=> rw [hb] at hs;cases hs
  | some f=>
   rw [hb] at hs
   refine round _ s f hb ?_
   cases f with
   | inl s'=> exact ⟨n,Nat.lt_succ_self n,hs⟩
   | inr b'=>
    injection hs with hs
    subst hs
    exact hG
theorem SeqP.of {S B:Type} {p:Option (S⊕B)} {k:S→Option B} {b:B} {x:(Ex→ASt→Prop)→Prop} {y:ASt→(Ex→ASt→Prop)→Prop} {Q:Ex→ASt→Prop} (E:S→List (Nat×AV)) (M:S→List (Nat×Inst)) (G:B→Prop) (h:seqF p k=some b) (hG:G b)
  (ha:∀(J:S→Prop) (f:S⊕B),p=some f→Good J G f→x fun e st'=> match e with
   | .normal=> ∃z,J z∧Enters st' (E z) (M z)
   | e=> Q e st')
  (hb:∀(s:S) (b:B),k s=some b→G b→y (mkSt (E s) (M s)) Q):SeqP x y Q:=by
 cases hp:p with
 | none=> rw [hp] at h;cases h
 | some f=>
  rw [hp] at h
  refine ⟨⟨S,E,M,fun z=> ∃b,k z=some b∧G b,ha _ f hp ?_,fun z ⟨b,h1,h2⟩=> hb z b h1 h2⟩⟩
  cases f with
  | inl s=> exact ⟨b,h,hG⟩
  | inr b'=>
   injection h with h
   subst h
   exact hG
theorem bindE {A B:Type} {p:Option A} {k:A→Option B} {b:B} (h:p.bind k=some b):∃x,p=some x∧k x=some b:=by
 cases p with
 | none=> cases h
 | some x=> exact ⟨x,rfl,h⟩
theorem bindK {A B:Type} {p:Option A} {k:A→Option B} {b:B} {G:Prop} (h:p.bind k=some b) (c:∀x,p=some x→k x=some b→G):G:=
 let ⟨x,h1,h2⟩:=bindE h
 c x h1 h2
theorem ifp {B:Type} {b:Bool} {p q:Option B} {f:B} {X Y:Prop} (h:(bif b then p else q)=some f) (h1:b=true→p=some f→X) (h2:b=false→q=some f→Y):IFp b X Y:=by
 cases b
 ·exact ⟨fun e=> (by cases e),fun e=> h2 e h⟩
 ·exact ⟨fun e=> h1 e h,fun e=> (by cases e)⟩
def chkO (b:Bool):Option Unit:=bif b then some () else none
theorem chkE_ {b:Bool} {B:Type} {k:Unit→Option B} {f:B} (h:(chkO b).bind k=some f):b=true∧k ()=some f:=by
 cases b
 ·cases h
 ·exact ⟨rfl,h⟩
theorem chkK {b:Bool} {B:Type} {k:Unit→Option B} {f:B} {G:Prop} (h:(chkO b).bind k=some f) (c:b=true→k ()=some f→G):G:=
 let ⟨h1,h2⟩:=chkE_ h
 c h1 h2
def getI {A:Type} (l:List A) (i:Int):Option A:=bif decide (0≤i) then l[i.toNat]? else none
theorem getI_lt {A:Type} {l:List A} {i:Int} {x:A} (h:getI l i=some x):0≤i∧i < (l.length:Int):=by
 unfold getI at h
 by_cases hi:0≤i
 ·simp only [hi,decide_true,cond_true] at h
  have:=(List.getElem?_eq_some_iff.1 h).1
  omega
 ·simp [hi] at h
theorem elemB {A:Type} {enc:A→List D} {l:List A} {i:Int} {x:A} (h:getI l i=some x):0≤i∧i < ((List.map enc l).length:Int):=by
 rw [List.length_map]
 exact getI_lt h
theorem elemG {A:Type} {enc:A→List D} {l:List A} {i:Int} {x:A} (h:getI l i=some x):(List.map enc l)[i.toNat]? =some (enc x):=by
 unfold getI at h
 by_cases hi:0≤i
 ·simp only [hi,decide_true,cond_true] at h
  rw [List.getElem?_map,h]
  rfl
 ·simp [hi] at h
theorem sizeMap {A:Type} {enc:A→List D} {z:Nat} (hz:∀x,(enc x).length=z) (l:List A):∀c∈List.map enc l,c.length=z:=by
 intro c hc
 obtain ⟨x,_,rfl⟩:=List.mem_map.1 hc
 exact hz x
theorem appChk {A:Type} {enc:A→List D} {l:List A} {n z:Nat} (hz:∀x,(enc x).length=z) (h:decide (n + l.length≤1000000)=true):(∀c∈List.map enc l,c.length=z)∧n + (List.map enc l).length≤1000000:=
 ⟨sizeMap hz l,by rw [List.length_map];exact of_decide_eq_true h⟩
def encI (k:IntKind) (x:Int):List D:= [.v (.int k x)]
def encB (x:Bool):List D:= [.v (.bool x)]
def encS (x:ByteArray):List D:= [.v (.string x)]
def encL {A:Type} (enc:A→List D) (x:List A):List D:= [.fz (List.map enc x)]
theorem Fn.slice0 {dr:Prop} {P:Program} {f:FuncId} {r:AV} (h0:Fn dr P f [.d (.v (.slice none 0 0))] r) (h1:∀a c,Fn dr P f [.d (.v (.slice (some a) 0 c))] r):Fn dr P f [.d (.fz [])] r:=by
 refine ⟨h0.1,fun w A vals hI hA hrel=> ?_⟩
 obtain ⟨v,vs',hv,hx,hnil⟩:=hrel.cons_inv
 have hone:∀(A':Option Addr) (c:Nat),(A'=none→c=0)→v= .slice A' 0 c→∃a:AV,Fn dr P f [a] r∧RelL (cx0 A w) [a] vals.toList:=by
  rintro A' c hA' rfl
  cases A' with
  | none=>
   have:=hA' rfl
   subst this
   exact ⟨_,h0,by rw [hv,hnil.nil_inv];exact .cons (.d (.v _ rfl)) (.nil _)⟩
  | some a=> exact ⟨_,h1 a c,by rw [hv,hnil.nil_inv];exact .cons (.d (.v _ rfl)) (.nil _)⟩
 have:∃a:AV,Fn dr P f [a] r∧RelL (cx0 A w) [a] vals.toList:=by
  cases hx with
  | d hx=>
   cases hx with
   | fz0 A' c hc=> exact hone A' c hc rfl
   | fz _ b o sz c vs=> exact hone _ c (fun e=> by cases e) rfl
 obtain ⟨a,h2,h3⟩:=this
 exact h2.2 w A vals hI hA h3
theorem cloneE {A:Type} {s r:List A} (h:((chkO (decide (s.length≤1000000))).bind fun _=> some s)=some r):s=r:=by
 obtain ⟨_,h⟩:=chkE_ h
 injection h
def evT:Step→Mem→Step×Mem
 | .rdb s g k,m=> match m.at_ s g with
  | some (.box cs)=> evT (k cs) m
  | _=> (.fail,m)
 | .rdr s g k,m=> match m.at_ s g with
  | some (.rows _ es _)=> evT (k es) m
  | _=> (.fail,m)
 | .rdm s g k,m=> match m.at_ s g with
  | some (.mapi ck es)=> evT (k ck es) m
  | _=> (.fail,m)
 | .rww s g k,m=> match m.at_ s g with
  | some (.rows sz es false)=> evT (k sz es) m
  | _=> (.fail,m)
 | .rdz s g z k,m=> match m.at_ s g with
  | some (.rows sz _ _)=> bif Nat.beq sz z then evT k m else (.fail,m)
  | _=> (.fail,m)
 | .wr s g i k,m=> evT k (m.set s g (some i))
 | .new s i k,m=> evT (k (m.gen s + 1)) (m.add s i)
 | .app s g sz xs k,m=> match m.at_ s g with
  | some (.rows sz' es false)=> bif Nat.beq sz sz' then evT (k (m.gen s + 1)) ((m.set s g none).add s (.rows sz (es ++ xs) false)) else (.fail,m)
  | _=> (.fail,m)
 | .frz s g k,m=> match m.at_ s g with
  | some (.rows sz es _)=> evT k (m.set s g (some (.rows sz es true)))
  | _=> (.fail,m)
 | .ret v,m=> (.ret v,m)
 | .elem es i k,m=> (.elem es i k,m)
 | .call f args k,m=> (.call f args k,m)
 | .chk p k,m=> (.chk p k,m)
 | .br b x y,m=> (.br b x y,m)
 | .fail,m=> (.fail,m)
section
variable {F : FuncId → List AV → AV → Prop}
theorem evT_wp (s:Step):∀(m:Mem) (K:AV→Mem→Prop),(evT s m).1.wp F (evT s m).2 K→s.wp F m K:=by
 induction s with
 | ret v=> exact fun m K h=> h
 | rdb s g k ih=>
  intro m K h
  simp only [evT] at h
  simp only [Step.wp]
  split at h
  ·rename_i hm
   simp only [hm]
   exact ih _ _ _ h
  ·exact h.elim
 | rdr s g k ih=>
  intro m K h
  simp only [evT] at h
  simp only [Step.wp]
  split at h
  ·rename_i hm
   simp only [hm]
   exact ih _ _ _ h
  ·exact h.elim
 | rdm s g k ih=>
  intro m K h
  simp only [evT] at h
  simp only [Step.wp]
  split at h
  ·rename_i hm
   simp only [hm]
   exact ih _ _ _ _ h
  ·exact h.elim
 | rww s g k ih=>
  intro m K h
  simp only [evT] at h
  simp only [Step.wp]
  split at h
  ·rename_i hm
   simp only [hm]
   exact ih _ _ _ _ h
  ·exact h.elim
 | rdz s g z k ih=>
  intro m K h
  simp only [evT] at h
  simp only [Step.wp]
  split at h
  ·rename_i sz es ro hm
   cases hb:Nat.beq sz z
   ·rw [hb] at h;exact h.elim
   ·rw [hb] at h
    simp only [hm,hb,cond_true]
    exact ih _ _ h
  ·exact h.elim
 | wr s g i k ih=> exact fun m K h=> ih _ _ h
 | new s i k ih=> exact fun m K h=> ih _ _ _ h
 | app s g sz xs k ih=>
  intro m K h
  simp only [evT] at h
  simp only [Step.wp]
  split at h
  ·rename_i sz' es hm
   cases hb:Nat.beq sz sz'
   ·rw [hb] at h;exact h.elim
   ·rw [hb] at h
    simp only [hm,hb,cond_true]
    exact ih _ _ _ h
  ·exact h.elim
 | frz s g k ih=>
  intro m K h
  simp only [evT] at h
  simp only [Step.wp]
  split at h
  ·rename_i hm
   simp only [hm]
   exact ih _ _ h
  ·exact h.elim
 | elem es i k ih=> exact fun m K h=> h
 | call f args k ih=> exact fun m K h=> h
 | chk p k ih=> exact fun m K h=> h
 | br b x y ihx ihy=> exact fun m K h=> h
 | fail=> exact fun m K h=> h
variable {s : Step} {m m' m0 : Mem} {K : AV → Mem → Prop}
theorem evT_to {s':Step} (e:evT s m=(s',m')) (h:s'.wp F m' K):s.wp F m K:=evT_wp s m K (by rw [e];exact h)
theorem W.det (v:AV) (m':Mem) (e:evT s m=(.ret v,m')) (h:K v m'):s.wp F m K:=evT_to e h
theorem W.chk {p:Prop} {k:Step} (e:evT s m=(.chk p k,m')) (hp:p) (h:k.wp F m' K):s.wp F m K:=evT_to e ⟨hp,h⟩
theorem W.elem {es:List (List D)} {i:Nat} {k:List D→Step} {c:List D} (e:evT s m=(.elem es i k,m')) (hc:es[i]? =some c) (h:(k c).wp F m' K):s.wp F m K:=evT_to e ⟨c,hc,h⟩
theorem W.call {f:FuncId} {args:List AV} {k:AV→Step} {r:AV} (e:evT s m=(.call f args k,m')) (hf:F f args r) (h:(k r).wp F m' K):s.wp F m K:=evT_to e ⟨r,hf,h⟩
theorem W.rows (n n2:Nat) (es es2:List (List D)) {s1 g1 z:Nat} (e:evT s m=(.ret (.row s1 g1 n),Mem.add m0 s1 (.rows z es false))) (hn:n=n2) (he:es=es2) (h:K (.row s1 g1 n2) (Mem.add m0 s1 (.rows z es2 false))):s.wp F m K:=by
 subst hn he
 exact evT_to e h
theorem W.len {A:Type} {enc:A→List D} {l:List A} (e:evT s m=(.ret (.d (.v (.int .i64 ((List.map enc l).length:Int)))),m')) (h:K (.d (.v (.int .i64 (l.length:Int)))) m'):s.wp F m K:=by
 rw [List.length_map] at e
 exact evT_to e h
end
def seqK (y:ASt→(Ex→ASt→Prop)→Prop) (Q:Ex→ASt→Prop):Ex→ASt→Prop
 | .normal,st=> y st Q
 | .exit i,st=> Q (.exit i) st
 | .ret,st=> Q .ret st
def blockK (id:Nat) (Q:Ex→ASt→Prop):Ex→ASt→Prop
 | .normal,st=> Q .normal st
 | .exit i,st=> bif Nat.beq i id then Q .normal st else Q (.exit i) st
 | .ret,st=> Q .ret st
def headK {S:Type} (E:S→List (Nat×AV)) (M:S→List (Nat×Inst)) (J:S→Prop) (Q:Ex→ASt→Prop):Ex→ASt→Prop
 | .normal,st=> ∃x,J x∧Enters st (E x) (M x)
 | .exit i,st=> Q (.exit i) st
 | .ret,st=> Q .ret st
section
variable {T : Nat → TI} {base nt : Nat} {F : FuncId → List AV → AV → Prop} {js : List Nat} {st : ASt} {Q : Ex → ASt → Prop}
theorem seqK.e {y:ASt→(Ex→ASt→Prop)→Prop} {i:Nat} (h:Q (.exit i) st):seqK y Q (.exit i) st:=h
theorem seqK.r {y:ASt→(Ex→ASt→Prop)→Prop} (h:Q .ret st):seqK y Q .ret st:=h
theorem blockK.x {id:Nat} (h:Q .normal st):blockK id Q (.exit id) st:=by
 show bif Nat.beq id id then _ else _
 rw [Nat.beq_refl]
 exact h
theorem blockK.e {id i:Nat} (hi:Nat.beq i id=false) (h:Q (.exit i) st):blockK id Q (.exit i) st:=by
 show bif Nat.beq i id then _ else _
 rw [hi]
 exact h
theorem blockK.r {id:Nat} (h:Q .ret st):blockK id Q .ret st:=h
theorem headK.e {S:Type} {E:S→List (Nat×AV)} {M:S→List (Nat×Inst)} {J:S→Prop} {i:Nat} (h:Q (.exit i) st):headK E M J Q (.exit i) st:=h
theorem headK.r {S:Type} {E:S→List (Nat×AV)} {M:S→List (Nat×Inst)} {J:S→Prop} (h:Q .ret st):headK E M J Q .ret st:=h
theorem Enters.of (fl:List (Nat×Nat)) (σ:List (Nat×Nat×Nat)) {E:List (Nat×AV)} {M:List (Nat×Inst)} (m:Mem) (h0:frzM st.m fl=some m) (h1:sepM σ M=true) (h2:chkE σ ⟨st.env,m⟩ E) (h3:chkM σ ⟨st.env,m⟩ M):Enters st E M:=by
 refine ⟨fl,σ,?_⟩
 rw [h0]
 exact ⟨h1,h2,h3⟩
theorem chkE.c {σ:List (Nat×Nat×Nat)} {t:Nat} {v:AV} {r:List (Nat×AV)} (hl:lowV v=true) (h:mapO (viewV st.m v) (unkO (st.env t))=some (renV σ v)) (hr:chkE σ st r):chkE σ st ((t,v)::r):=by
 simp only [chkE,hl]
 exact ⟨h,hr⟩
theorem chkM.c {σ:List (Nat×Nat×Nat)} {s:Nat} {i:Inst} {r:List (Nat×Inst)} (hl:lowI i=true) (h:mapO (viewI st.m i) (st.m.at_ (sig σ s).1 (sig σ s).2)=some (renI σ i)) (hr:chkM σ st r):chkM σ st ((s,i)::r):=by
 simp only [chkM,hl]
 exact ⟨h,hr⟩
theorem A.skip (h:Q .normal st):AW T base nt F js .skip st Q:=h
theorem A.seq {a b:Code} (hj:joinAt js b=false) (h:AW T base nt F js a st (seqK (AW T base nt F js b) Q)):AW T base nt F js (.seq a b) st Q:=by
 have e:seqK (AW T base nt F js b) Q=fun e st'=> match e with
   | .normal=> AW T base nt F js b st' Q
   | e=> Q e st':=by
  funext e st'
  cases e <;> rfl
 rw [e] at h
 simp only [AW,hj]
 exact h
theorem A.block {id:Nat} {c:Code} (h:AW T base nt F js c st (blockK id Q)):AW T base nt F js (.block id c) st Q:=by
 have e:blockK id Q=fun e st'=> match e with
   | .exit i=> bif Nat.beq i id then Q .normal st' else Q (.exit i) st'
   | e=> Q e st':=by
  funext e st'
  cases e <;> rfl
 rw [e] at h
 exact h
theorem A.join {S B:Type} {a b:Code} {p:Option (S⊕B)} {k:S→Option B} {o:B} (E:S→List (Nat×AV)) (M:S→List (Nat×Inst)) (G:B→Prop) (h:seqF p k=some o) (hG:G o) (hj:joinAt js b=true)
  (ha:∀(J:S→Prop) (f:S⊕B),p=some f→Good J G f→AW T base nt F js a st (headK E M J Q))
  (hb:∀(s:S) (o:B),k s=some o→G o→AW T base nt F js b (mkSt (E s) (M s)) Q):AW T base nt F js (.seq a b) st Q:=by
 simp only [AW,hj]
 refine SeqP.of E M G h hG (fun J f h1 h2=> ?_) hb
 have e:headK E M J Q=fun e st'=> match e with
   | .normal=> ∃z,J z∧Enters st' (E z) (M z)
   | e=> Q e st':=by
  funext e st'
  cases e <;> rfl
 have:=ha J f h1 h2
 rw [e] at this
 exact this
theorem A.loop {S B:Type} {c:Code} {body:S→Option (S⊕B)} {s0:S} {o:B} (E:S→List (Nat×AV)) (M:S→List (Nat×Inst)) (G:B→Prop) (h:loopF body s0=some o) (hG:G o) (hen:Enters st (E s0) (M s0))
  (round:∀(J:S→Prop) (s:S) (f:S⊕B),body s=some f→Good J G f→AW T base nt F js c (mkSt (E s) (M s)) (headK E M J Q)):AW T base nt F js (.loop c) st Q:=by
 refine LoopP.of E M G h hG hen (fun J s f h1 h2=> ?_)
 have e:headK E M J Q=fun e st'=> match e with
   | .normal=> ∃x',J x'∧Enters st' (E x') (M x')
   | e=> Q e st':=by
  funext e st'
  cases e <;> rfl
 have:=round J s f h1 h2
 rw [e] at this
 exact this
theorem A.condT {c:Operand} {x y:Code} (e:rawOf st.env c=some (.kb true)) (h:AW T base nt F js x st Q):AW T base nt F js (.cond c x y) st Q:=by
 simp only [AW,e]
 exact h
theorem A.condF {c:Operand} {x y:Code} (e:rawOf st.env c=some (.kb false)) (h:AW T base nt F js y st Q):AW T base nt F js (.cond c x y) st Q:=by
 simp only [AW,e]
 exact h
theorem A.condB {B:Type} {c:Operand} {x y:Code} {b:Bool} {p q:Option B} {f:B} (e:rawOf st.env c=some (.d (.v (.bool b)))) (hb:(bif b then p else q)=some f) (h1:b=true→p=some f→AW T base nt F js x st Q) (h2:b=false→q=some f→AW T base nt F js y st Q):AW T base nt F js (.cond c x y) st Q:=by
 simp only [AW,e]
 exact ifp hb h1 h2
theorem A.condBT {c:Operand} {x y:Code} (e:rawOf st.env c=some (.d (.v (.bool true)))) (h:AW T base nt F js x st Q):AW T base nt F js (.cond c x y) st Q:=by
 simp only [AW,e]
 exact ⟨fun _=> h,fun e=> (by cases e)⟩
theorem A.condBF {c:Operand} {x y:Code} (e:rawOf st.env c=some (.d (.v (.bool false)))) (h:AW T base nt F js y st Q):AW T base nt F js (.cond c x y) st Q:=by
 simp only [AW,e]
 exact ⟨fun e=> (by cases e),fun _=> h⟩
theorem A.regionD {i:Nat} {l:List Oper} (hd:drawOk T l.toArray=true) (h:runL T base nt F l l st (Q .normal)):AW T base nt F js (.region i l.toArray true) st Q:=Or.inl ⟨hd,h⟩
variable {ops r : List Oper} {K : ASt → Prop} {dst : Option Tmp} {op : Op} {ty : TypeId} {pos : String} {after : Array Edge}
theorem R.one (hd:dstOk nt ⟨dst,op,ty,pos,after,none⟩=true) (h:(opF T base st.env ⟨dst,op,ty,pos,after,none⟩).wp F st.m fun v m=> runL T base nt F ops r ⟨putE st.env dst v,m⟩ K):runL T base nt F ops (⟨dst,op,ty,pos,after,none⟩::r) st K:=by
 simp only [runL,hd]
 exact h
theorem R.skip {j:Nat} {want:Bool} {t:Tmp} (hd:dstOk nt ⟨dst,op,ty,pos,after,some (j,want)⟩=true) (et:gdst ops j=some t) (e:st.env t=some (.kb !want)) (h:runL T base nt F ops r ⟨putE st.env dst (.tup []),st.m⟩ K):runL T base nt F ops (⟨dst,op,ty,pos,after,some (j,want)⟩::r) st K:=by
 simp only [runL,hd,et,e]
 cases want <;> exact h
theorem R.none_ {j:Nat} {want:Bool} {t:Tmp} (hd:dstOk nt ⟨dst,op,ty,pos,after,some (j,want)⟩=true) (et:gdst ops j=some t) (e:st.env t=some (.tup [])) (h:runL T base nt F ops r ⟨putE st.env dst (.tup []),st.m⟩ K):runL T base nt F ops (⟨dst,op,ty,pos,after,some (j,want)⟩::r) st K:=by
 simp only [runL,hd,et,e]
 exact h
theorem R.run {j:Nat} {want:Bool} {t:Tmp} (hd:dstOk nt ⟨dst,op,ty,pos,after,some (j,want)⟩=true) (et:gdst ops j=some t) (e:st.env t=some (.kb want)) (h:(opF T base st.env ⟨dst,op,ty,pos,after,some (j,want)⟩).wp F st.m fun v m=> runL T base nt F ops r ⟨putE st.env dst v,m⟩ K):runL T base nt F ops (⟨dst,op,ty,pos,after,some (j,want)⟩::r) st K:=by
 simp only [runL,hd,et,e]
 cases want <;> exact h
theorem R.gT {B:Type} {p q:Option B} {f:B} {j:Nat} {t:Tmp} {b:Bool} (hd:dstOk nt ⟨dst,op,ty,pos,after,some (j,true)⟩=true) (et:gdst ops j=some t) (e:st.env t=some (.d (.v (.bool b)))) (hb:(bif b then p else q)=some f)
  (h1:b=true→p=some f→(opF T base (updT st.env t (some (.kb true))) ⟨dst,op,ty,pos,after,some (j,true)⟩).wp F st.m fun v m=> runL T base nt F ops r ⟨putE (updT st.env t (some (.kb true))) dst v,m⟩ K)
  (h2:b=false→q=some f→runL T base nt F ops r ⟨putE (updT st.env t (some (.kb false))) dst (.tup []),st.m⟩ K):runL T base nt F ops (⟨dst,op,ty,pos,after,some (j,true)⟩::r) st K:=by
 simp only [runL,hd,et,e]
 exact ifp hb h1 h2
theorem R.gF {B:Type} {p q:Option B} {f:B} {j:Nat} {t:Tmp} {b:Bool} (hd:dstOk nt ⟨dst,op,ty,pos,after,some (j,false)⟩=true) (et:gdst ops j=some t) (e:st.env t=some (.d (.v (.bool b)))) (hb:(bif b then p else q)=some f)
  (h1:b=true→p=some f→runL T base nt F ops r ⟨putE (updT st.env t (some (.kb true))) dst (.tup []),st.m⟩ K)
  (h2:b=false→q=some f→(opF T base (updT st.env t (some (.kb false))) ⟨dst,op,ty,pos,after,some (j,false)⟩).wp F st.m fun v m=> runL T base nt F ops r ⟨putE (updT st.env t (some (.kb false))) dst v,m⟩ K):runL T base nt F ops (⟨dst,op,ty,pos,after,some (j,false)⟩::r) st K:=by
 simp only [runL,hd,et,e]
 exact ifp hb h1 h2
end
end Go.Proofs.YtmgcnoigihdhpaaGreatDoor
namespace Go.Proofs.YtmgcnoigihdhpaaGreatDoor
open Go.RowKit
abbrev VI (n:Int):AV:= .d (.v (.int .i64 n))
abbrev VB (b:Bool):AV:= .d (.v (.bool b))
abbrev VS (s:ByteArray):AV:= .d (.v (.string s))
abbrev VF (l:List (List D)):AV:= .d (.fz l)
abbrev DI (n:Int):D:= .v (.int .i64 n)
abbrev DB (b:Bool):D:= .v (.bool b)
abbrev DS (s:ByteArray):D:= .v (.string s)
section
variable {T : Nat → TI} {base nt : Nat} {F : FuncId → List AV → AV → Prop} {js : List Nat} {Q : Ex → ASt → Prop} {env : Nat → Option AV} {m : Mem}
variable {ops r : List Oper} {K : ASt → Prop} {dst : Option Tmp} {op : Op} {ty : TypeId} {pos : String} {after : Array Edge}
theorem Y1 (hd:dstOk nt ⟨dst,op,ty,pos,after,none⟩=true) (h:(opF T base env ⟨dst,op,ty,pos,after,none⟩).wp F m fun v m=> runL T base nt F ops r ⟨putE env dst v,m⟩ K):runL T base nt F ops (⟨dst,op,ty,pos,after,none⟩::r) ⟨env,m⟩ K:=R.one hd h
theorem Y2 {j:Nat} {want:Bool} {t:Tmp} (hd:dstOk nt ⟨dst,op,ty,pos,after,some (j,want)⟩=true) (et:gdst ops j=some t) (e:env t=some (.kb want)) (h:(opF T base env ⟨dst,op,ty,pos,after,some (j,want)⟩).wp F m fun v m=> runL T base nt F ops r ⟨putE env dst v,m⟩ K):runL T base nt F ops (⟨dst,op,ty,pos,after,some (j,want)⟩::r) ⟨env,m⟩ K:=R.run hd et e h
theorem YT {B:Type} {p q:Option B} {f:B} {j:Nat} {t:Tmp} {b:Bool} (hd:dstOk nt ⟨dst,op,ty,pos,after,some (j,true)⟩=true) (et:gdst ops j=some t) (e:env t=some (.d (.v (.bool b)))) (hb:(bif b then p else q)=some f)
  (h1:b=true→p=some f→(opF T base (updT env t (some (.kb true))) ⟨dst,op,ty,pos,after,some (j,true)⟩).wp F m fun v m=> runL T base nt F ops r ⟨putE (updT env t (some (.kb true))) dst v,m⟩ K)
  (h2:b=false→q=some f→runL T base nt F ops r ⟨putE (updT env t (some (.kb false))) dst (.tup []),m⟩ K):runL T base nt F ops (⟨dst,op,ty,pos,after,some (j,true)⟩::r) ⟨env,m⟩ K:=R.gT hd et e hb h1 h2
theorem YF {B:Type} {p q:Option B} {f:B} {j:Nat} {t:Tmp} {b:Bool} (hd:dstOk nt ⟨dst,op,ty,pos,after,some (j,false)⟩=true) (et:gdst ops j=some t) (e:env t=some (.d (.v (.bool b)))) (hb:(bif b then p else q)=some f)
  (h1:b=true→p=some f→runL T base nt F ops r ⟨putE (updT env t (some (.kb true))) dst (.tup []),m⟩ K)
  (h2:b=false→q=some f→(opF T base (updT env t (some (.kb false))) ⟨dst,op,ty,pos,after,some (j,false)⟩).wp F m fun v m=> runL T base nt F ops r ⟨putE (updT env t (some (.kb false))) dst v,m⟩ K):runL T base nt F ops (⟨dst,op,ty,pos,after,some (j,false)⟩::r) ⟨env,m⟩ K:=R.gF hd et e hb h1 h2
theorem Zm (v:AV) (m':Mem) (hd:dstOk nt ⟨dst,op,ty,pos,after,none⟩=true) (e:evT (opF T base env ⟨dst,op,ty,pos,after,none⟩) m=(.ret v,m')) (h:runL T base nt F ops r ⟨putE env dst v,m'⟩ K):runL T base nt F ops (⟨dst,op,ty,pos,after,none⟩::r) ⟨env,m⟩ K:=R.one hd (W.det v m' e h)
theorem Zo (v:AV) {m':Mem} (hd:dstOk nt ⟨dst,op,ty,pos,after,none⟩=true) (e:evT (opF T base env ⟨dst,op,ty,pos,after,none⟩) m=(.ret v,m')) (h:runL T base nt F ops r ⟨putE env dst v,m'⟩ K):runL T base nt F ops (⟨dst,op,ty,pos,after,none⟩::r) ⟨env,m⟩ K:=R.one hd (W.det v m' e h)
theorem Zu {j:Nat} {want:Bool} {t:Tmp} (v:AV) {m':Mem} (hd:dstOk nt ⟨dst,op,ty,pos,after,some (j,want)⟩=true) (et:gdst ops j=some t) (e:env t=some (.kb want)) (e2:evT (opF T base env ⟨dst,op,ty,pos,after,some (j,want)⟩) m=(.ret v,m')) (h:runL T base nt F ops r ⟨putE env dst v,m'⟩ K):runL T base nt F ops (⟨dst,op,ty,pos,after,some (j,want)⟩::r) ⟨env,m⟩ K:=R.run hd et e (W.det v m' e2 h)
end
section
variable {σ : List (Nat × Nat × Nat)} {st : ASt} {Q : Ex → ASt → Prop}
theorem Ze {σ:List (Nat×Nat×Nat)} {t:Nat} {v:AV} {r:List (Nat×AV)} (hl:lowV v=true) (h:mapO (viewV st.m v) (unkO (st.env t))=some (renV σ v)) (hr:chkE σ st r):chkE σ st ((t,v)::r):=chkE.c hl h hr
theorem Zc {σ:List (Nat×Nat×Nat)} {s:Nat} {i:Inst} {r:List (Nat×Inst)} (hl:lowI i=true) (h:mapO (viewI st.m i) (st.m.at_ (sig σ s).1 (sig σ s).2)=some (renI σ i)) (hr:chkM σ st r):chkM σ st ((s,i)::r):=chkM.c hl h hr
theorem Zf (fl:List (Nat×Nat)) (σ:List (Nat×Nat×Nat)) {E:List (Nat×AV)} {M:List (Nat×Inst)} {m:Mem} (h0:frzM st.m fl=some m) (h1:sepM σ M=true) (h2:chkE σ ⟨st.env,m⟩ E) (h3:chkM σ ⟨st.env,m⟩ M):Enters st E M:=Enters.of fl σ m h0 h1 h2 h3
theorem Zh {S:Type} {E:S→List (Nat×AV)} {M:S→List (Nat×Inst)} {J:S→Prop} {x:S} (hJ:J x) (fl:List (Nat×Nat)) (σ:List (Nat×Nat×Nat)) {m:Mem} (h0:frzM st.m fl=some m) (h1:sepM σ (M x)=true) (h2:chkE σ ⟨st.env,m⟩ (E x)) (h3:chkM σ ⟨st.env,m⟩ (M x)):headK E M J Q .normal st:=⟨x,hJ,Enters.of fl σ m h0 h1 h2 h3⟩
end
inductive Fr where
 | s (c:Code)
 | b (id:Nat)
inductive Cf where
 | code (c:Code) (fs:List Fr) (env:Nat→Option AV) (m:Mem)
 | ops (l0 l:List Oper) (fs:List Fr) (env:Nat→Option AV) (m:Mem)
 | op (s:Step) (m:Mem) (env:Nat→Option AV) (dst:Option Tmp) (l0 l:List Oper) (fs:List Fr)
 | out (e:Ex) (fs:List Fr) (env:Nat→Option AV) (m:Mem)
 | bad
section
variable (T : Nat → TI) (base nt : Nat) (F : FuncId → List AV → AV → Prop) (js : List Nat)
def KQ:List Fr→(Ex→ASt→Prop)→Ex→ASt→Prop
 | [],Q=> Q
 | .s c::fs,Q=> seqK (AW T base nt F js c) (KQ fs Q)
 | .b id::fs,Q=> blockK id (KQ fs Q)
def den (Q:Ex→ASt→Prop):Cf→Prop
 | .code c fs env m=> AW T base nt F js c ⟨env,m⟩ (KQ T base nt F js fs Q)
 | .ops l0 l fs env m=> runL T base nt F l0 l ⟨env,m⟩ (KQ T base nt F js fs Q .normal)
 | .op s m env dst l0 l fs=> s.wp F m fun v m=> runL T base nt F l0 l ⟨putE env dst v,m⟩ (KQ T base nt F js fs Q .normal)
 | .out e fs env m=> KQ T base nt F js fs Q e ⟨env,m⟩
 | .bad=> False
def opC (env:Nat→Option AV) (dst:Option Tmp) (l0 l:List Oper) (fs:List Fr):Step×Mem→Cf
 | (.ret v,m)=> .ops l0 l fs (putE env dst v) m
 | _=> .bad
def stepOps (l0 r:List Oper) (fs:List Fr) (env:Nat→Option AV) (m:Mem) (o:Oper):Cf:=bif dstOk nt o then (match o with
 | ⟨dst,op,ty,pos,after,none⟩=> opC env dst l0 r fs (evT (opF T base env ⟨dst,op,ty,pos,after,none⟩) m)
 | ⟨dst,op,ty,pos,after,some (j,want)⟩=> match gdst l0 j with
  | none=> .bad
  | some t=> match env t with
   | some (.kb true)=> bif want then opC env dst l0 r fs (evT (opF T base env ⟨dst,op,ty,pos,after,some (j,want)⟩) m) else .ops l0 r fs (putE env dst (.tup [])) m
   | some (.kb false)=> bif want then .ops l0 r fs (putE env dst (.tup [])) m else opC env dst l0 r fs (evT (opF T base env ⟨dst,op,ty,pos,after,some (j,want)⟩) m)
   | some (.tup [])=> .ops l0 r fs (putE env dst (.tup [])) m
   | _=> .bad) else .bad
def stepC:Cf→Cf
 | .code .skip fs env m=> .out .normal fs env m
 | .code (.exit id) fs env m=> .out (.exit id) fs env m
 | .code .ret fs env m=> .out .ret fs env m
 | .code (.seq a b) fs env m=> bif joinAt js b then .bad else .code a (.s b::fs) env m
 | .code (.block id c) fs env m=> .code c (.b id::fs) env m
 | .code (.region _ ⟨l⟩ false) fs env m=> .ops l l fs env m
 | .code (.cond c x y) fs env m=> match rawOf env c with
  | some (.kb true)=> .code x fs env m
  | some (.kb false)=> .code y fs env m
  | some (.d (.v (.bool true)))=> .code x fs env m
  | some (.d (.v (.bool false)))=> .code y fs env m
  | _=> .bad
 | .code _ _ _ _=> .bad
 | .ops _ [] fs env m=> .out .normal fs env m
 | .ops l0 (o::r) fs env m=> stepOps T base nt l0 r fs env m o
 | .op s m env dst l0 l fs=> opC env dst l0 l fs (evT s m)
 | .out .normal (.s c::fs) env m=> .code c fs env m
 | .out (.exit i) (.s _::fs) env m=> .out (.exit i) fs env m
 | .out .ret (.s _::fs) env m=> .out .ret fs env m
 | .out .normal (.b _::fs) env m=> .out .normal fs env m
 | .out (.exit i) (.b id::fs) env m=> bif Nat.beq i id then .out .normal fs env m else .out (.exit i) fs env m
 | .out .ret (.b _::fs) env m=> .out .ret fs env m
 | .out _ [] _ _=> .bad
 | .bad=> .bad
def runM:Nat→Cf→Cf
 | 0,c=> c
 | n + 1,c=> match stepC T base nt js c with
  | .code c fs env m=> runM n (.code c fs env m)
  | .ops l0 l fs env m=> runM n (.ops l0 l fs env m)
  | .op s m env dst l0 l fs=> runM n (.op s m env dst l0 l fs)
  | .out e fs env m=> runM n (.out e fs env m)
  | .bad=> .bad
theorem runM_succ (n:Nat) (c:Cf):runM T base nt js (n + 1) c=runM T base nt js n (stepC T base nt js c):=by
 rw [runM]
 cases stepC T base nt js c <;> first | rfl | (cases n <;> rfl)
end
section
variable {T : Nat → TI} {base nt : Nat} {F : FuncId → List AV → AV → Prop} {js : List Nat} {Q : Ex → ASt → Prop}
theorem opC_ok {env:Nat→Option AV} {dst:Option Tmp} {l0 l:List Oper} {fs:List Fr} {s:Step} {m:Mem} (h:den T base nt F js Q (opC env dst l0 l fs (evT s m))):s.wp F m fun v m=> runL T base nt F l0 l ⟨putE env dst v,m⟩ (KQ T base nt F js fs Q .normal):=by
 apply evT_wp
 generalize evT s m=x at h
 obtain ⟨x,m'⟩:=x
 cases x <;> first | exact h | exact h.elim
theorem stepOps_ok {l0 r:List Oper} {fs:List Fr} {env:Nat→Option AV} {m:Mem} {o:Oper} (h:den T base nt F js Q (stepOps T base nt l0 r fs env m o)):runL T base nt F l0 (o::r) ⟨env,m⟩ (KQ T base nt F js fs Q .normal):=by
 cases hd:dstOk nt o with
 | false=> unfold stepOps at h;rw [hd] at h;exact h.elim
 | true=>
  unfold stepOps at h
  rw [hd] at h
  obtain ⟨dst,op,ty,pos,after,guard⟩:=o
  cases guard with
  | none=> exact R.one hd (opC_ok h)
  | some g=>
   obtain ⟨j,want⟩:=g
   dsimp only [cond_true] at h
   cases et:gdst l0 j with
   | none=> rw [et] at h;exact h.elim
   | some t=>
    rw [et] at h
    dsimp only at h
    split at h
    ·rename_i e
     cases want
     ·exact R.skip hd et e h
     ·exact R.run hd et e (opC_ok h)
    ·rename_i e
     cases want
     ·exact R.run hd et e (opC_ok h)
     ·exact R.skip hd et e h
    ·rename_i e
     exact R.none_ hd et e h
    ·exact h.elim
theorem stepC_ok {c:Cf} (h:den T base nt F js Q (stepC T base nt js c)):den T base nt F js Q c:=by
 unfold stepC at h
 split at h
 ·exact h
 ·exact h
 ·exact h
 ·rename_i a b fs env m
  cases hj:joinAt js b with
  | true=> rw [hj] at h;exact h.elim
  | false=> rw [hj] at h;exact A.seq hj h
 ·exact A.block h
 ·exact h
 ·split at h
  ·rename_i e;exact A.condT e h
  ·rename_i e;exact A.condF e h
  ·rename_i e;exact A.condBT e h
  ·rename_i e;exact A.condBF e h
  ·exact h.elim
 ·exact h.elim
 ·exact h
 ·exact stepOps_ok h
 ·exact opC_ok h
 ·exact h
 ·exact h
 ·exact h
 ·exact h
 ·rename_i i id fs env m
  cases hi:Nat.beq i id with
  | false=> rw [hi] at h;exact blockK.e hi h
  | true=>
   rw [hi] at h
   have:=Nat.eq_of_beq_eq_true hi
   subst this
   exact blockK.x h
 ·exact h
 ·exact h.elim
 ·exact h.elim
theorem runM_ok:∀(n:Nat) (c:Cf),den T base nt F js Q (runM T base nt js n c)→den T base nt F js Q c
 | 0,_,h=> h
 | n + 1,_,h=> stepC_ok (runM_ok n _ (by rw [runM_succ] at h;exact h))
theorem runM_to {n:Nat} {c c':Cf} (e:runM T base nt js n c=c') (h:den T base nt F js Q c'):den T base nt F js Q c:=runM_ok n c (by rw [e];exact h)
theorem Zac (n:Nat) {c:Code} {env:Nat→Option AV} {m:Mem} {c2:Code} {fs2:List Fr} {env2:Nat→Option AV} {m2:Mem} (e:runM T base nt js n (.code c [] env m)= .code c2 fs2 env2 m2) (h:AW T base nt F js c2 ⟨env2,m2⟩ (KQ T base nt F js fs2 Q)):AW T base nt F js c ⟨env,m⟩ Q:=runM_to (Q:=Q) e h
theorem Zap (n:Nat) {c:Code} {env:Nat→Option AV} {m:Mem} {l2 l3:List Oper} {fs2:List Fr} {env2:Nat→Option AV} {m2:Mem} (e:runM T base nt js n (.code c [] env m)= .ops l2 l3 fs2 env2 m2) (h:runL T base nt F l2 l3 ⟨env2,m2⟩ (KQ T base nt F js fs2 Q .normal)):AW T base nt F js c ⟨env,m⟩ Q:=runM_to (Q:=Q) e h
theorem Zcc (n:Nat) {c:Code} {fs:List Fr} {env:Nat→Option AV} {m:Mem} {c2:Code} {fs2:List Fr} {env2:Nat→Option AV} {m2:Mem} (e:runM T base nt js n (.code c fs env m)= .code c2 fs2 env2 m2) (h:AW T base nt F js c2 ⟨env2,m2⟩ (KQ T base nt F js fs2 Q)):AW T base nt F js c ⟨env,m⟩ (KQ T base nt F js fs Q):=runM_to (Q:=Q) e h
theorem Zcp (n:Nat) {c:Code} {fs:List Fr} {env:Nat→Option AV} {m:Mem} {l2 l3:List Oper} {fs2:List Fr} {env2:Nat→Option AV} {m2:Mem} (e:runM T base nt js n (.code c fs env m)= .ops l2 l3 fs2 env2 m2) (h:runL T base nt F l2 l3 ⟨env2,m2⟩ (KQ T base nt F js fs2 Q .normal)):AW T base nt F js c ⟨env,m⟩ (KQ T base nt F js fs Q):=runM_to (Q:=Q) e h
theorem Zcb (n:Nat) {c:Code} {fs:List Fr} {env:Nat→Option AV} {m:Mem} {e2:Ex} {env2:Nat→Option AV} {m2:Mem} (e:runM T base nt js n (.code c fs env m)= .out e2 [] env2 m2) (h:Q e2 ⟨env2,m2⟩):AW T base nt F js c ⟨env,m⟩ (KQ T base nt F js fs Q):=runM_to (Q:=Q) e h
theorem Zpc (n:Nat) {l0 l:List Oper} {fs:List Fr} {env:Nat→Option AV} {m:Mem} {c2:Code} {fs2:List Fr} {env2:Nat→Option AV} {m2:Mem} (e:runM T base nt js n (.ops l0 l fs env m)= .code c2 fs2 env2 m2) (h:AW T base nt F js c2 ⟨env2,m2⟩ (KQ T base nt F js fs2 Q)):runL T base nt F l0 l ⟨env,m⟩ (KQ T base nt F js fs Q .normal):=runM_to (Q:=Q) e h
theorem Zpp (n:Nat) {l0 l:List Oper} {fs:List Fr} {env:Nat→Option AV} {m:Mem} {l2 l3:List Oper} {fs2:List Fr} {env2:Nat→Option AV} {m2:Mem} (e:runM T base nt js n (.ops l0 l fs env m)= .ops l2 l3 fs2 env2 m2) (h:runL T base nt F l2 l3 ⟨env2,m2⟩ (KQ T base nt F js fs2 Q .normal)):runL T base nt F l0 l ⟨env,m⟩ (KQ T base nt F js fs Q .normal):=runM_to (Q:=Q) e h
theorem Zpb (n:Nat) {l0 l:List Oper} {fs:List Fr} {env:Nat→Option AV} {m:Mem} {e2:Ex} {env2:Nat→Option AV} {m2:Mem} (e:runM T base nt js n (.ops l0 l fs env m)= .out e2 [] env2 m2) (h:Q e2 ⟨env2,m2⟩):runL T base nt F l0 l ⟨env,m⟩ (KQ T base nt F js fs Q .normal):=runM_to (Q:=Q) e h
theorem Zwc (n:Nat) {s:Step} {m:Mem} {env:Nat→Option AV} {dst:Option Tmp} {l0 l:List Oper} {fs:List Fr} {c2:Code} {fs2:List Fr} {env2:Nat→Option AV} {m2:Mem} (e:runM T base nt js n (.op s m env dst l0 l fs)= .code c2 fs2 env2 m2) (h:AW T base nt F js c2 ⟨env2,m2⟩ (KQ T base nt F js fs2 Q)):s.wp F m fun v m=> runL T base nt F l0 l ⟨putE env dst v,m⟩ (KQ T base nt F js fs Q .normal):=runM_to (Q:=Q) e h
theorem Zwp (n:Nat) {s:Step} {m:Mem} {env:Nat→Option AV} {dst:Option Tmp} {l0 l:List Oper} {fs:List Fr} {l2 l3:List Oper} {fs2:List Fr} {env2:Nat→Option AV} {m2:Mem} (e:runM T base nt js n (.op s m env dst l0 l fs)= .ops l2 l3 fs2 env2 m2) (h:runL T base nt F l2 l3 ⟨env2,m2⟩ (KQ T base nt F js fs2 Q .normal)):s.wp F m fun v m=> runL T base nt F l0 l ⟨putE env dst v,m⟩ (KQ T base nt F js fs Q .normal):=runM_to (Q:=Q) e h
theorem Zwb (n:Nat) {s:Step} {m:Mem} {env:Nat→Option AV} {dst:Option Tmp} {l0 l:List Oper} {fs:List Fr} {e2:Ex} {env2:Nat→Option AV} {m2:Mem} (e:runM T base nt js n (.op s m env dst l0 l fs)= .out e2 [] env2 m2) (h:Q e2 ⟨env2,m2⟩):s.wp F m fun v m=> runL T base nt F l0 l ⟨putE env dst v,m⟩ (KQ T base nt F js fs Q .normal):=runM_to (Q:=Q) e h
theorem Zob (n:Nat) {e:Ex} {fs:List Fr} {env:Nat→Option AV} {m:Mem} {e2:Ex} {env2:Nat→Option AV} {m2:Mem} (e0:runM T base nt js n (.out e fs env m)= .out e2 [] env2 m2) (h:Q e2 ⟨env2,m2⟩):KQ T base nt F js fs Q e ⟨env,m⟩:=runM_to (Q:=Q) e0 h
end
end Go.Proofs.YtmgcnoigihdhpaaGreatDoor
namespace Go.Proofs.YtmgcnoigihdhpaaGreatDoor
open Go.RowKit
section
variable {P : Program} {T : Nat → TI}
theorem relD_plain {S S':Nat→Prop} {w:World} {x:Value} {v:Value} (h:RelD S w (.v x) v):RelD S' w (.v x) v:=by
 cases h with
 | v _ h=> exact .v _ h
end
end Go.Proofs.YtmgcnoigihdhpaaGreatDoor
namespace Go.Proofs.YtmgcnoigihdhpaaGreatDoor
open Go.RowKit
section
variable {P : Program} {T : Nat → TI}
end
end Go.Proofs.YtmgcnoigihdhpaaGreatDoor
namespace Go.Proofs.YtmgcnoigihdhpaaGreatDoor
open Go.RowKit
attribute [local irreducible] IntKind.wrap AW runL Step.wp
set_option linter.unusedVariables false
set_option maxHeartbeats 4000000
set_option maxRecDepth 100000
structure linguaref38_Op where
 Do:Int
 Tenant:Int
 Name:Int
 Text:ByteArray
def linguaref38_Op.enc (x:linguaref38_Op):List D:= [.v (.int .i64 x.Do),.v (.int .i64 x.Tenant),.v (.int .i64 x.Name),.v (.string x.Text)]
abbrev linguaref38_Op.av (x:linguaref38_Op):List AV:= [VI x.Do,VI x.Tenant,VI x.Name,VS x.Text]
noncomputable def ref38_Few_L1 (l_:(List linguaref38_Op)) (n_:Int) (s3:Int):Option ((Int)⊕((Unit)⊕(Bool))):=
 (bif (decide (s3 < (l_.length:Int))) then
  (bif (decide (s3≤n_)) then
   (getI l_ s3).bind fun x12=>
   (bif (decide ((200:Int) < (x12.Text.size:Int))) then
    some (.inr (.inr false))
   else
    some (.inl (IntKind.i64.wrap (s3 + (1:Int)))))
  else
   some (.inr (.inl ())))
 else
  some (.inr (.inl ())))
noncomputable def ref38_Few (l_:(List linguaref38_Op)) (n_:Int):Option (Bool):=
 (seqF (A:=Unit) (
  loopF (ref38_Few_L1 l_ n_) (0:Int))
 fun s2=>
  some (decide ((l_.length:Int)≤n_)))
theorem ref38_Few_fn {dr:Prop} {l_:(List linguaref38_Op)} {n_:Int} {r:Bool} (h:ref38_Few l_ n_=some r):Fn dr Tryz.prog 5 [VF (List.map linguaref38_Op.enc l_),VI n_] (VB r):=by
 refine Fn.of_AW (dr:=dr) (F:=FnX dr Tryz.prog) (base:=0) (js:= [6]) mixed tok noeqs (fun _ _ _ h=> h) Tryz.call5 Tryz.func5 rfl Tryz.ntmps5 (by rw [Tryz.results5]) (by simp) ?_;have hG:(fun x=> x=r) r:=rfl;unfold ref38_Few at h;refine Zac 5 rfl ?_;refine A.join (fun (s2:Unit)=> [(0,VF (List.map linguaref38_Op.enc l_)),(1,VI n_)]) (fun s2=> []) _ h hG rfl ?_ ?_
 ·intro J f h hG;refine Zac 6 rfl ?_;refine A.loop (fun (s3:Int)=> [(0,VF (List.map linguaref38_Op.enc l_)),(1,VI n_),(5,VI s3)]) (fun s3=> []) _ h hG (Zf [] [] rfl rfl (Ze rfl rfl (Ze rfl rfl (Ze rfl rfl trivial))) trivial) ?_;intro J s3 f h hG;unfold ref38_Few_L1 at h;refine Zap 5 rfl ?_;refine Y1 rfl ?_;refine W.len rfl ?_;refine Zpp 2 rfl ?_;refine YT rfl rfl rfl h (fun _ h=> ?_) (fun _ h=> ?_)
  ·refine Zwc 6 rfl ?_;refine A.condB rfl h (fun _ h=> ?_) (fun _ h=> ?_)
   ·refine Zcp 8 rfl ?_;refine Y1 rfl ?_;refine bindK h fun x12 hx12 h=> ?_;refine W.chk rfl (elemB hx12) ?_;refine W.elem rfl (elemG hx12) ?_;refine W.chk rfl rfl ?_;refine W.det (.fp [.v (.int .i64 x12.Do),.v (.int .i64 x12.Tenant),.v (.int .i64 x12.Name),.v (.string x12.Text)]) _ rfl ?_;refine Zo (.fp [.v (.string x12.Text)]) rfl rfl ?_;refine Zpc 5 rfl ?_;refine A.condB rfl h (fun _ h=> ?_) (fun _ h=> ?_)
    ·refine Zcb 8 rfl ?_;refine headK.r ?_;refine Zob 1 rfl ?_;refine headK.r ?_;cases h;cases hG;exact ⟨rfl,trivial⟩
    ·refine Zcb 8 rfl ?_;cases h;exact Zh hG [] [] rfl rfl (Ze rfl rfl (Ze rfl rfl (Ze rfl rfl trivial))) trivial
   ·refine Zcb 2 rfl ?_;refine headK.e ?_;refine Zob 1 rfl ?_;cases h;exact Zh hG [] [] rfl rfl (Ze rfl rfl (Ze rfl rfl trivial)) trivial
  ·refine Zpb 8 rfl ?_;refine headK.e ?_;refine Zob 1 rfl ?_;cases h;exact Zh hG [] [] rfl rfl (Ze rfl rfl (Ze rfl rfl trivial)) trivial
 ·intro s2 r2 h hG;refine Zcp 3 rfl ?_;refine Y1 rfl ?_;refine W.len rfl ?_;refine Zpb 6 rfl ?_;cases h;cases hG;exact ⟨rfl,trivial⟩
structure api_Change where
 From:ByteArray
 To:ByteArray
 Most:Int
def api_Change.enc (x:api_Change):List D:= [.v (.string x.From),.v (.string x.To),.v (.int .i64 x.Most)]
abbrev api_Change.av (x:api_Change):List AV:= [VS x.From,VS x.To,VI x.Most]
noncomputable def ref39_Few_L1 (changes_:(List api_Change)) (s3:Int):Option ((Int)⊕((Unit)⊕(Bool))):=
 (bif (decide (s3 < (changes_.length:Int))) then
  (bif (decide (s3≤(12:Int))) then
   (getI changes_ s3).bind fun x24=>
   (bif (decide ((20:Int) < (x24.From.size:Int))) then
    some (.inr (.inr false))
   else
    (bif (decide ((20:Int) < (x24.To.size:Int))) then
     some (.inr (.inr false))
    else
     some (.inl (IntKind.i64.wrap (s3 + (1:Int))))))
  else
   some (.inr (.inl ())))
 else
  some (.inr (.inl ())))
noncomputable def ref39_Few_L2 (types_:(List ByteArray)) (s6:Int):Option ((Int)⊕((Unit)⊕(Bool))):=
 (bif (decide (s6 < (types_.length:Int))) then
  (bif (decide (s6≤(20:Int))) then
   (getI types_ s6).bind fun x36=>
   (bif (decide ((20:Int) < (x36.size:Int))) then
    some (.inr (.inr false))
   else
    some (.inl (IntKind.i64.wrap (s6 + (1:Int)))))
  else
   some (.inr (.inl ())))
 else
  some (.inr (.inl ())))
noncomputable def ref39_Few (changes_:(List api_Change)) (from_:ByteArray) (types_:(List ByteArray)):Option (Bool):=
 (seqF (A:=Unit) (
  loopF (ref39_Few_L1 changes_) (0:Int))
 fun s2=>
  (seqF (A:=Unit) (
   loopF (ref39_Few_L2 types_) (0:Int))
  fun s5=>
   (bif (decide ((changes_.length:Int)≤(12:Int))) then
    (bif (decide ((types_.length:Int)≤(20:Int))) then
     some (decide ((from_.size:Int)≤(20:Int)))
    else
     some false)
   else
    some false)))
theorem ref39_Few_fn {dr:Prop} {changes_:(List api_Change)} {from_:ByteArray} {types_:(List ByteArray)} {r:Bool} (h:ref39_Few changes_ from_ types_=some r):Fn dr Tryz.prog 6 [VF (List.map api_Change.enc changes_),VS from_,VF (List.map encS types_)] (VB r):=by
 refine Fn.of_AW (dr:=dr) (F:=FnX dr Tryz.prog) (base:=0) (js:= [6,11]) mixed tok noeqs (fun _ _ _ h=> h) Tryz.call6 Tryz.func6 rfl Tryz.ntmps6 (by rw [Tryz.results6]) (by simp) ?_;have hG:(fun x=> x=r) r:=rfl;unfold ref39_Few at h;refine Zac 5 rfl ?_;refine A.join (fun (s2:Unit)=> [(0,VF (List.map api_Change.enc changes_)),(1,VS from_),(2,VF (List.map encS types_))]) (fun s2=> []) _ h hG rfl ?_ ?_
 ·intro J f h hG;refine Zac 6 rfl ?_;refine A.loop (fun (s3:Int)=> [(0,VF (List.map api_Change.enc changes_)),(1,VS from_),(2,VF (List.map encS types_)),(7,VI s3)]) (fun s3=> []) _ h hG (Zf [] [] rfl rfl (Ze rfl rfl (Ze rfl rfl (Ze rfl rfl (Ze rfl rfl trivial)))) trivial) ?_;intro J s3 f h hG;unfold ref39_Few_L1 at h;refine Zap 5 rfl ?_;refine Y1 rfl ?_;refine W.len rfl ?_;refine Zpp 2 rfl ?_;refine YT rfl rfl rfl h (fun _ h=> ?_) (fun _ h=> ?_)
  ·refine Zwc 5 rfl ?_;refine A.condB rfl h (fun _ h=> ?_) (fun _ h=> ?_)
   ·refine Zcp 8 rfl ?_;refine Y1 rfl ?_;refine bindK h fun x24 hx24 h=> ?_;refine W.chk rfl (elemB hx24) ?_;refine W.elem rfl (elemG hx24) ?_;refine W.chk rfl rfl ?_;refine W.det (.fp [.v (.string x24.From),.v (.string x24.To),.v (.int .i64 x24.Most)]) _ rfl ?_;refine Zo (.fp [.v (.string x24.From),.v (.string x24.To),.v (.int .i64 x24.Most)]) rfl rfl ?_;refine Zpp 4 rfl ?_;refine YF rfl rfl rfl h (fun _ h=> ?_) (fun _ h=> ?_)
    ·refine Zpb 18 rfl ?_;refine headK.r ?_;refine Zob 1 rfl ?_;refine headK.r ?_;cases h;cases hG;exact ⟨rfl,trivial⟩
    ·refine Zwp 2 rfl ?_;refine Y2 rfl rfl rfl ?_;refine W.chk rfl (elemB hx24) ?_;refine W.elem rfl (elemG hx24) ?_;refine W.chk rfl rfl ?_;refine W.det (.fp [.v (.string x24.From),.v (.string x24.To),.v (.int .i64 x24.Most)]) _ rfl ?_;refine Zu (.fp [.v (.string x24.To),.v (.int .i64 x24.Most)]) rfl rfl rfl rfl ?_;refine Zpc 6 rfl ?_;refine A.condB rfl h (fun _ h=> ?_) (fun _ h=> ?_)
     ·refine Zcb 8 rfl ?_;refine headK.r ?_;refine Zob 1 rfl ?_;refine headK.r ?_;cases h;cases hG;exact ⟨rfl,trivial⟩
     ·refine Zcb 8 rfl ?_;cases h;exact Zh hG [] [] rfl rfl (Ze rfl rfl (Ze rfl rfl (Ze rfl rfl (Ze rfl rfl trivial)))) trivial
   ·refine Zcb 2 rfl ?_;refine headK.e ?_;refine Zob 1 rfl ?_;cases h;exact Zh hG [] [] rfl rfl (Ze rfl rfl (Ze rfl rfl (Ze rfl rfl trivial))) trivial
  ·refine Zpb 7 rfl ?_;refine headK.e ?_;refine Zob 1 rfl ?_;cases h;exact Zh hG [] [] rfl rfl (Ze rfl rfl (Ze rfl rfl (Ze rfl rfl trivial))) trivial
 ·intro s2 r2 h hG;refine A.join (fun (s5:Unit)=> [(0,VF (List.map api_Change.enc changes_)),(1,VS from_),(2,VF (List.map encS types_))]) (fun s5=> []) _ h hG rfl ?_ ?_
  ·intro J f h hG;refine Zac 6 rfl ?_;refine A.loop (fun (s6:Int)=> [(0,VF (List.map api_Change.enc changes_)),(1,VS from_),(2,VF (List.map encS types_)),(8,VI s6)]) (fun s6=> []) _ h hG (Zf [] [] rfl rfl (Ze rfl rfl (Ze rfl rfl (Ze rfl rfl (Ze rfl rfl trivial)))) trivial) ?_;intro J s6 f h hG;unfold ref39_Few_L2 at h;refine Zap 5 rfl ?_;refine Y1 rfl ?_;refine W.len rfl ?_;refine Zpp 2 rfl ?_;refine YT rfl rfl rfl h (fun _ h=> ?_) (fun _ h=> ?_)
   ·refine Zwc 5 rfl ?_;refine A.condB rfl h (fun _ h=> ?_) (fun _ h=> ?_)
    ·refine Zcp 8 rfl ?_;refine Y1 rfl ?_;refine bindK h fun x36 hx36 h=> ?_;refine W.chk rfl (elemB hx36) ?_;refine W.elem rfl (elemG hx36) ?_;refine W.chk rfl rfl ?_;refine W.det (.fp [.v (.string x36)]) _ rfl ?_;refine Zpc 5 rfl ?_;refine A.condB rfl h (fun _ h=> ?_) (fun _ h=> ?_)
     ·refine Zcb 8 rfl ?_;refine headK.r ?_;refine Zob 1 rfl ?_;refine headK.r ?_;cases h;cases hG;exact ⟨rfl,trivial⟩
     ·refine Zcb 8 rfl ?_;cases h;exact Zh hG [] [] rfl rfl (Ze rfl rfl (Ze rfl rfl (Ze rfl rfl (Ze rfl rfl trivial)))) trivial
    ·refine Zcb 2 rfl ?_;refine headK.e ?_;refine Zob 1 rfl ?_;cases h;exact Zh hG [] [] rfl rfl (Ze rfl rfl (Ze rfl rfl (Ze rfl rfl trivial))) trivial
   ·refine Zpb 7 rfl ?_;refine headK.e ?_;refine Zob 1 rfl ?_;cases h;exact Zh hG [] [] rfl rfl (Ze rfl rfl (Ze rfl rfl (Ze rfl rfl trivial))) trivial
  ·intro s5 r2 h hG;refine Zcp 3 rfl ?_;refine Y1 rfl ?_;refine W.len rfl ?_;refine Zpp 2 rfl ?_;refine YT rfl rfl rfl h (fun _ h=> ?_) (fun _ h=> ?_)
   ·refine Zwp 1 rfl ?_;refine Y2 rfl rfl rfl ?_;refine W.len rfl ?_;refine Zpp 3 rfl ?_;refine YT rfl rfl rfl h (fun _ h=> ?_) (fun _ h=> ?_)
    ·refine Zwb 8 rfl ?_;cases h;cases hG;exact ⟨rfl,trivial⟩
    ·refine Zpb 7 rfl ?_;cases h;cases hG;exact ⟨rfl,trivial⟩
   ·refine Zpb 12 rfl ?_;cases h;cases hG;exact ⟨rfl,trivial⟩
structure api_Profile where
 Name:ByteArray
 Edit:Int
 Within:Int
 Delete:Int
 React:Bool
 Thread:Int
 Quote:Bool
 Mention:Bool
 Size:Int
 Parts:Int
 Files:Int
 Bytes:Int
 Types:(List ByteArray)
 Join:Int
 History:Int
 Remove:Int
 Level:Int
 Batch:Bool
 Rate:Int
 Down:Int
 Window:Int
 Keep:Int
def api_Profile.enc (x:api_Profile):List D:= [.v (.string x.Name),.v (.int .i64 x.Edit),.v (.int .i64 x.Within),.v (.int .i64 x.Delete),.v (.bool x.React),.v (.int .i64 x.Thread),.v (.bool x.Quote),.v (.bool x.Mention),.v (.int .i64 x.Size),.v (.int .i64 x.Parts),.v (.int .i64 x.Files),.v (.int .i64 x.Bytes),.fz (List.map encS x.Types),.v (.int .i64 x.Join),.v (.int .i64 x.History),.v (.int .i64 x.Remove),.v (.int .i64 x.Level),.v (.bool x.Batch),.v (.int .i64 x.Rate),.v (.int .i64 x.Down),.v (.int .i64 x.Window),.v (.int .i64 x.Keep)]
abbrev api_Profile.av (x:api_Profile):List AV:= [VS x.Name,VI x.Edit,VI x.Within,VI x.Delete,VB x.React,VI x.Thread,VB x.Quote,VB x.Mention,VI x.Size,VI x.Parts,VI x.Files,VI x.Bytes,VF (List.map encS x.Types),VI x.Join,VI x.History,VI x.Remove,VI x.Level,VB x.Batch,VI x.Rate,VI x.Down,VI x.Window,VI x.Keep]
noncomputable def ref13_Few_L1 (p_:api_Profile) (s3:Int):Option ((Int)⊕((Unit)⊕(Bool))):=
 (bif (decide (s3 < (p_.Types.length:Int))) then
  (bif (decide (s3 < (13:Int))) then
   (getI p_.Types s3).bind fun x12=>
   (bif (decide ((60:Int) < (x12.size:Int))) then
    some (.inr (.inr false))
   else
    some (.inl (IntKind.i64.wrap (s3 + (1:Int)))))
  else
   some (.inr (.inl ())))
 else
  some (.inr (.inl ())))
noncomputable def ref13_Few (p_:api_Profile):Option (Bool):=
 (seqF (A:=Unit) (
  loopF (ref13_Few_L1 p_) (0:Int))
 fun s2=>
  (bif (decide ((p_.Types.length:Int)≤(12:Int))) then
   some (decide ((p_.Name.size:Int)≤(60:Int)))
  else
   some false))
theorem ref13_Few_fn {dr:Prop} {p_:api_Profile} {r:Bool} (h:ref13_Few p_=some r):Fn dr Tryz.prog 7 [.agg (api_Profile.av p_)] (VB r):=by
 refine Fn.of_AW (dr:=dr) (F:=FnX dr Tryz.prog) (base:=0) (js:= [6]) mixed tok noeqs (fun _ _ _ h=> h) Tryz.call7 Tryz.func7 rfl Tryz.ntmps7 (by rw [Tryz.results7]) (by simp) ?_;have hG:(fun x=> x=r) r:=rfl;unfold ref13_Few at h;refine Zap 2 rfl ?_;refine Zm (.lp 1 1 0) (Mem.add _ 1 (.box (api_Profile.av p_))) rfl rfl ?_;refine Zpc 3 rfl ?_;refine A.join (fun (s2:Unit)=> [(1,.lp 900000 1 0)]) (fun s2=> [(900000,.box (api_Profile.av p_))]) _ h hG rfl ?_ ?_
 ·intro J f h hG;refine Zac 6 rfl ?_;refine A.loop (fun (s3:Int)=> [(1,.lp 900000 1 0),(3,VI s3)]) (fun s3=> [(900000,.box (api_Profile.av p_))]) _ h hG (Zf [] [(900000,(1,1))] rfl rfl (Ze rfl rfl (Ze rfl rfl trivial)) (Zc rfl rfl trivial)) ?_;intro J s3 f h hG;unfold ref13_Few_L1 at h;refine Zap 6 rfl ?_;refine Y1 rfl ?_;refine W.len rfl ?_;refine Zpp 2 rfl ?_;refine YT rfl rfl rfl h (fun _ h=> ?_) (fun _ h=> ?_)
  ·refine Zwc 5 rfl ?_;refine A.condB rfl h (fun _ h=> ?_) (fun _ h=> ?_)
   ·refine Zcp 9 rfl ?_;refine Y1 rfl ?_;refine bindK h fun x12 hx12 h=> ?_;refine W.chk rfl (elemB hx12) ?_;refine W.elem rfl (elemG hx12) ?_;refine W.chk rfl rfl ?_;refine W.det (.fp [.v (.string x12)]) _ rfl ?_;refine Zpc 5 rfl ?_;refine A.condB rfl h (fun _ h=> ?_) (fun _ h=> ?_)
    ·refine Zcb 8 rfl ?_;refine headK.r ?_;refine Zob 1 rfl ?_;refine headK.r ?_;cases h;cases hG;exact ⟨rfl,trivial⟩
    ·refine Zcb 8 rfl ?_;cases h;exact Zh hG [] [(900000,(900000,1))] rfl rfl (Ze rfl rfl (Ze rfl rfl trivial)) (Zc rfl rfl trivial)
   ·refine Zcb 2 rfl ?_;refine headK.e ?_;refine Zob 1 rfl ?_;cases h;exact Zh hG [] [(900000,(900000,1))] rfl rfl (Ze rfl rfl trivial) (Zc rfl rfl trivial)
  ·refine Zpb 7 rfl ?_;refine headK.e ?_;refine Zob 1 rfl ?_;cases h;exact Zh hG [] [(900000,(900000,1))] rfl rfl (Ze rfl rfl trivial) (Zc rfl rfl trivial)
 ·intro s2 r2 h hG;refine Zcp 4 rfl ?_;refine Y1 rfl ?_;refine W.len rfl ?_;refine Zpp 2 rfl ?_;refine YT rfl rfl rfl h (fun _ h=> ?_) (fun _ h=> ?_)
  ·refine Zwb 9 rfl ?_;cases h;cases hG;exact ⟨rfl,trivial⟩
  ·refine Zpb 8 rfl ?_;cases h;cases hG;exact ⟨rfl,trivial⟩
noncomputable def ref39_Lead_L1 (way_:(List Int)) (changes_:(List api_Change)) (bytes_:Int) (s3:ByteArray×Int):Option ((ByteArray×Int)⊕((ByteArray)⊕(ByteArray×Bool))):=
 (bif (decide (s3.2 < (way_.length:Int))) then
  (getI way_ s3.2).bind fun x56=>
  (bif (decide (x56 < (0:Int))) then
   some (.inr (.inr ((ByteArray.mk #[]),false)))
  else
   (bif (decide ((changes_.length:Int)≤x56)) then
    some (.inr (.inr ((ByteArray.mk #[]),false)))
   else
    (getI changes_ x56).bind fun x60=>
    (bif (!(x60.From.toList==s3.1.toList)) then
     some (.inr (.inr ((ByteArray.mk #[]),false)))
    else
     (bif (decide (x60.Most < bytes_)) then
      some (.inr (.inr ((ByteArray.mk #[]),false)))
     else
      some (.inl (x60.To,(IntKind.i64.wrap (s3.2 + (1:Int)))))))))
 else
  some (.inr (.inl s3.1)))
noncomputable def ref39_Lead (changes_:(List api_Change)) (from_:ByteArray) (way_:(List Int)) (bytes_:Int):Option (ByteArray×Bool):=
 (seqF (A:=ByteArray) (
  loopF (ref39_Lead_L1 way_ changes_ bytes_) (from_,(0:Int)))
 fun s2=>
  some (s2,(decide ((0:Int)≤bytes_))))
theorem ref39_Lead_fn {dr:Prop} {changes_:(List api_Change)} {from_:ByteArray} {way_:(List Int)} {bytes_:Int} {r:ByteArray×Bool} (h:ref39_Lead changes_ from_ way_ bytes_=some r):Fn dr Tryz.prog 10 [VF (List.map api_Change.enc changes_),VS from_,VF (List.map (encI .i64) way_),VI bytes_] (.tup [VS r.1,VB r.2]):=by
 refine Fn.of_AW (dr:=dr) (F:=FnX dr Tryz.prog) (base:=0) (js:= [10]) mixed tok noeqs (fun _ _ _ h=> h) Tryz.call10 Tryz.func10 rfl Tryz.ntmps10 (by rw [Tryz.results10]) (by simp) ?_;have hG:(fun x=> x=r) r:=rfl;unfold ref39_Lead at h;refine Zac 6 rfl ?_
 refine A.join (fun (s2:ByteArray)=> [(1,VS s2),(3,VI bytes_)]) (fun s2=> []) _ h hG rfl ?_ ?_
 ·intro J f h hG;refine Zac 6 rfl ?_
  refine A.loop (fun (s3:ByteArray×Int)=> [(0,VF (List.map api_Change.enc changes_)),(1,VS s3.1),(2,VF (List.map (encI .i64) way_)),(3,VI bytes_),(10,VI s3.2)]) (fun s3=> []) _ h hG (Zf [] [] rfl rfl (Ze rfl rfl (Ze rfl rfl (Ze rfl rfl (Ze rfl rfl (Ze rfl rfl trivial))))) trivial) ?_
  intro J s3 f h hG;unfold ref39_Lead_L1 at h;refine Zap 5 rfl ?_;refine Y1 rfl ?_;refine W.len rfl ?_;refine Zpc 3 rfl ?_;refine A.condB rfl h (fun _ h=> ?_) (fun _ h=> ?_)
  ·refine Zcp 8 rfl ?_;refine Y1 rfl ?_;refine bindK h fun x56 hx56 h=> ?_;refine W.chk rfl (elemB hx56) ?_;refine W.elem rfl (elemG hx56) ?_;refine W.chk rfl rfl ?_;refine W.det (.fp [.v (.int .i64 x56)]) _ rfl ?_;refine Zpp 10 rfl ?_;refine YF rfl rfl rfl h (fun _ h=> ?_) (fun _ h=> ?_)
   ·refine Zpb 17 rfl ?_;refine headK.r ?_;refine Zob 1 rfl ?_;refine headK.r ?_;cases h;cases hG;exact ⟨rfl,rfl,trivial⟩
   ·refine Zwp 2 rfl ?_;refine Y2 rfl rfl rfl ?_;refine W.len rfl ?_;refine Zpc 4 rfl ?_;refine A.condB rfl h (fun _ h=> ?_) (fun _ h=> ?_)
    ·refine Zcb 10 rfl ?_;refine headK.r ?_;refine Zob 1 rfl ?_;refine headK.r ?_;cases h;cases hG;exact ⟨rfl,rfl,trivial⟩
    ·refine Zcp 7 rfl ?_;refine Y1 rfl ?_;refine bindK h fun x60 hx60 h=> ?_;refine W.chk rfl (elemB hx60) ?_;refine W.elem rfl (elemG hx60) ?_;refine W.chk rfl rfl ?_;refine W.det (.fp [.v (.string x60.From),.v (.string x60.To),.v (.int .i64 x60.Most)]) _ rfl ?_;refine Zo (.fp [.v (.string x60.From),.v (.string x60.To),.v (.int .i64 x60.Most)]) rfl rfl ?_;refine Zpp 4 rfl ?_;refine YF rfl rfl rfl h (fun _ h=> ?_) (fun _ h=> ?_)
     ·refine Zpb 20 rfl ?_;refine headK.r ?_;refine Zob 1 rfl ?_;refine headK.r ?_;cases h;cases hG;exact ⟨rfl,rfl,trivial⟩
     ·refine Zwp 3 rfl ?_;refine Y2 rfl rfl rfl ?_;refine W.chk rfl (elemB hx60) ?_;refine W.elem rfl (elemG hx60) ?_;refine W.chk rfl rfl ?_;refine W.det (.fp [.v (.string x60.From),.v (.string x60.To),.v (.int .i64 x60.Most)]) _ rfl ?_;refine Zu (.fp [.v (.int .i64 x60.Most)]) rfl rfl rfl rfl ?_;refine Zpc 5 rfl ?_;refine A.condB rfl h (fun _ h=> ?_) (fun _ h=> ?_)
      ·refine Zcb 10 rfl ?_;refine headK.r ?_;refine Zob 1 rfl ?_;refine headK.r ?_;cases h;cases hG;exact ⟨rfl,rfl,trivial⟩
      ·refine Zcp 5 rfl ?_;refine Y1 rfl ?_;refine W.chk rfl (elemB hx60) ?_;refine W.elem rfl (elemG hx60) ?_;refine W.chk rfl rfl ?_;refine W.det (.fp [.v (.string x60.From),.v (.string x60.To),.v (.int .i64 x60.Most)]) _ rfl ?_;refine Zo (.fp [.v (.string x60.To),.v (.int .i64 x60.Most)]) rfl rfl ?_;refine Zpb 10 rfl ?_;cases h;exact Zh hG [] [] rfl rfl (Ze rfl rfl (Ze rfl rfl (Ze rfl rfl (Ze rfl rfl (Ze rfl rfl trivial))))) trivial
  ·refine Zcb 2 rfl ?_;refine headK.e ?_;refine Zob 1 rfl ?_;cases h;exact Zh hG [] [] rfl rfl (Ze rfl rfl (Ze rfl rfl trivial)) trivial
 ·intro s2 r2 h hG;refine Zcb 10 rfl ?_;cases h;cases hG;exact ⟨rfl,rfl,trivial⟩
noncomputable def slices_Index_string_string_L1 (s_:(List ByteArray)) (v_:ByteArray) (s3:Int):Option ((Int)⊕((Unit)⊕(Int))):=
 (bif (decide (s3 < (s_.length:Int))) then
  (getI s_ s3).bind fun x12=>
  (bif (v_.toList==x12.toList) then
   some (.inr (.inr s3))
  else
   some (.inl (IntKind.i64.wrap (s3 + (1:Int)))))
 else
  some (.inr (.inl ())))
noncomputable def slices_Index_string_string (s_:(List ByteArray)) (v_:ByteArray):Option (Int):=
 (seqF (A:=Unit) (
  loopF (slices_Index_string_string_L1 s_ v_) (0:Int))
 fun s2=>
  some (-1:Int))
theorem slices_Index_string_string_fn {dr:Prop} {s_:(List ByteArray)} {v_:ByteArray} {r:Int} (h:slices_Index_string_string s_ v_=some r):Fn dr Tryz.prog 72 [VF (List.map encS s_),VS v_] (VI r):=by
 refine Fn.of_AW (dr:=dr) (F:=FnX dr Tryz.prog) (base:=0) (js:= [7]) mixed tok noeqs (fun _ _ _ h=> h) Tryz.call72 Tryz.func72 rfl Tryz.ntmps72 (by rw [Tryz.results72]) (by simp) ?_;have hG:(fun x=> x=r) r:=rfl;unfold slices_Index_string_string at h;refine Zac 5 rfl ?_;refine A.join (fun (s2:Unit)=> []) (fun s2=> []) _ h hG rfl ?_ ?_
 ·intro J f h hG;refine Zap 3 rfl ?_;refine Y1 rfl ?_;refine W.len rfl ?_;refine Zpc 4 rfl ?_;refine A.loop (fun (s3:Int)=> [(0,VF (List.map encS s_)),(1,VS v_),(7,VI (s_.length:Int)),(8,VI s3)]) (fun s3=> []) _ h hG (Zf [] [] rfl rfl (Ze rfl rfl (Ze rfl rfl (Ze rfl rfl (Ze rfl rfl trivial)))) trivial) ?_;intro J s3 f h hG;unfold slices_Index_string_string_L1 at h;refine Zac 6 rfl ?_;refine A.condB rfl h (fun _ h=> ?_) (fun _ h=> ?_)
  ·refine Zcp 15 rfl ?_;refine Y1 rfl ?_;refine bindK h fun x12 hx12 h=> ?_;refine W.chk rfl (elemB hx12) ?_;refine W.elem rfl (elemG hx12) ?_;refine W.chk rfl rfl ?_;refine W.det (.fp [.v (.string x12)]) _ rfl ?_;refine Zpc 4 rfl ?_;refine A.condB rfl h (fun _ h=> ?_) (fun _ h=> ?_)
   ·refine Zcb 9 rfl ?_;refine headK.r ?_;refine Zob 1 rfl ?_;refine headK.r ?_;cases h;cases hG;exact ⟨rfl,trivial⟩
   ·refine Zcb 7 rfl ?_;cases h;exact Zh hG [] [] rfl rfl (Ze rfl rfl (Ze rfl rfl (Ze rfl rfl (Ze rfl rfl trivial)))) trivial
  ·refine Zcb 2 rfl ?_;refine headK.e ?_;refine Zob 1 rfl ?_;cases h;exact Zh hG [] [] rfl rfl trivial trivial
 ·intro s2 r2 h hG;refine Zcb 6 rfl ?_;cases h;cases hG;exact ⟨rfl,trivial⟩
noncomputable def slices_Contains_string_string (s_:(List ByteArray)) (v_:ByteArray):Option (Bool):=
 (slices_Index_string_string s_ v_).bind fun y1=>
 some (decide ((0:Int)≤y1))
theorem slices_Contains_string_string_fn {dr:Prop} {s_:(List ByteArray)} {v_:ByteArray} {r:Bool} (h:slices_Contains_string_string s_ v_=some r):Fn dr Tryz.prog 24 [VF (List.map encS s_),VS v_] (VB r):=by
 refine Fn.of_AW (dr:=dr) (F:=FnX dr Tryz.prog) (base:=0) (js:= []) mixed tok noeqs (fun _ _ _ h=> h) Tryz.call24 Tryz.func24 rfl Tryz.ntmps24 (by rw [Tryz.results24]) (by simp) ?_;have hG:(fun x=> x=r) r:=rfl;unfold slices_Contains_string_string at h;refine Zap 9 rfl ?_;refine Y1 rfl ?_;refine bindK h fun y1 hy1 h=> ?_;refine W.call rfl (slices_Index_string_string_fn hy1) ?_;refine Zwb 6 rfl ?_;cases h;cases hG;exact ⟨rfl,trivial⟩
noncomputable def convert_Fits (p_:api_Profile) (kind_:ByteArray) (bytes_:Int):Option (Bool):=
 (bif (decide ((0:Int) < p_.Files)) then
  (slices_Contains_string_string p_.Types kind_).bind fun y1=>
  (bif y1 then
   (bif (decide ((0:Int)≤bytes_)) then
    some (decide (bytes_≤p_.Bytes))
   else
    some false)
  else
   some false)
 else
  some false)
theorem convert_Fits_fn {dr:Prop} {p_:api_Profile} {kind_:ByteArray} {bytes_:Int} {r:Bool} (h:convert_Fits p_ kind_ bytes_=some r):Fn dr Tryz.prog 11 [.agg (api_Profile.av p_),VS kind_,VI bytes_] (VB r):=by
 refine Fn.of_AW (dr:=dr) (F:=FnX dr Tryz.prog) (base:=0) (js:= []) mixed tok noeqs (fun _ _ _ h=> h) Tryz.call11 Tryz.func11 rfl Tryz.ntmps11 (by rw [Tryz.results11]) (by simp) ?_;have hG:(fun x=> x=r) r:=rfl;unfold convert_Fits at h;refine Zap 2 rfl ?_;refine Zm (.lp 3 1 0) (Mem.add _ 3 (.box (api_Profile.av p_))) rfl rfl ?_;refine Zpp 9 rfl ?_;refine YT rfl rfl rfl h (fun _ h=> ?_) (fun _ h=> ?_)
 ·refine Zwp 3 rfl ?_;refine Y2 rfl rfl rfl ?_;refine bindK h fun y1 hy1 h=> ?_;refine W.call rfl (slices_Contains_string_string_fn hy1) ?_;refine Zwp 3 rfl ?_;refine YT rfl rfl rfl h (fun _ h=> ?_) (fun _ h=> ?_)
  ·refine Zwp 4 rfl ?_;refine YT rfl rfl rfl h (fun _ h=> ?_) (fun _ h=> ?_)
   ·refine Zwb 9 rfl ?_;cases h;cases hG;exact ⟨rfl,trivial⟩
   ·refine Zpb 8 rfl ?_;cases h;cases hG;exact ⟨rfl,trivial⟩
  ·refine Zpb 12 rfl ?_;cases h;cases hG;exact ⟨rfl,trivial⟩
 ·refine Zpb 18 rfl ?_;cases h;cases hG;exact ⟨rfl,trivial⟩
noncomputable def slices_Clone_int_int_a:Option ((List Int)):=
 some ([]:List Int)
theorem slices_Clone_int_int_a_fn {dr:Prop} {r:(List Int)} (h:slices_Clone_int_int_a=some r):Fn dr Tryz.prog 25 [.d (.v (.slice none 0 0))] (.ow 1 (List.map (encI .i64) r)):=by
 refine Fn.of_AW (dr:=dr) (F:=FnX dr Tryz.prog) (base:=0) (js:= []) mixed tok noeqs (fun _ _ _ h=> h) Tryz.call25 Tryz.func25 rfl Tryz.ntmps25 (by rw [Tryz.results25]) (by simp) ?_;have hG:(fun x=> x=r) r:=rfl;unfold slices_Clone_int_int_a at h;refine Zap 2 rfl ?_;refine Zm (.row 2 1 0) (Mem.add _ 2 (.rows 1 (List.map (encI .i64) ([]:List Int)) false)) rfl rfl ?_;refine Zpp 5 rfl ?_;refine Zo (.d (.v (.slice none 0 0))) rfl rfl ?_;refine Zpp 6 rfl ?_;refine Zm (.row 2 2 0) (Mem.add _ 2 (.rows 1 (List.map (encI .i64) ([]:List Int)) false)) rfl rfl ?_;refine Zpb 4 rfl ?_;cases h;cases hG;exact ⟨rfl,rfl,trivial⟩
noncomputable def slices_Clone_int_int_b (a_:Addr) (c_:Nat):Option ((List Int)):=
 (chkO (decide (0 + ([]:List Int).length≤1000000))).bind fun _=>
 some (([]:List Int) ++ ([]:List Int))
theorem slices_Clone_int_int_b_fn {dr:Prop} {a_:Addr} {c_:Nat} {r:(List Int)} (h:slices_Clone_int_int_b a_ c_=some r):Fn dr Tryz.prog 25 [.d (.v (.slice (some a_) 0 c_))] (.ow 1 (List.map (encI .i64) r)):=by
 refine Fn.of_AW (dr:=dr) (F:=FnX dr Tryz.prog) (base:=0) (js:= []) mixed tok noeqs (fun _ _ _ h=> h) Tryz.call25 Tryz.func25 rfl Tryz.ntmps25 (by rw [Tryz.results25]) (by simp) ?_;have hG:(fun x=> x=r) r:=rfl;unfold slices_Clone_int_int_b at h;refine Zap 2 rfl ?_;refine Zm (.row 2 1 0) (Mem.add _ 2 (.rows 1 (List.map (encI .i64) ([]:List Int)) false)) rfl rfl ?_;refine Zpp 5 rfl ?_;refine Zo (.d (.v (.slice (some a_) 0 c_))) rfl rfl ?_;refine Zpp 8 rfl ?_;refine Zm (.row 5 1 0) (Mem.add _ 5 (.rows 1 (List.map (encI .i64) ([]:List Int)) false)) rfl rfl ?_;refine Zo (.d (.v (.slice (some a_) 0 c_))) rfl rfl ?_;refine Y1 rfl ?_;refine chkK h fun g1 h=> ?_;refine W.chk rfl ⟨fun _ hc=> (by cases hc),of_decide_eq_true g1⟩ ?_;refine W.rows (0 + (List.map (encI .i64) ([]:List Int)).length) (([]:List Int) ++ ([]:List Int)).length ([] ++ (List.map (encI .i64) ([]:List Int))) (List.map (encI .i64) (([]:List Int) ++ ([]:List Int))) rfl (by first | rfl | (simp;done) | simp only [partMap,List.length_map,List.length_append,List.nil_append,Nat.zero_add,List.length_nil]) (by first | rfl | (simp;done) | simp only [partMap,List.map_append,List.nil_append,List.map_nil]) ?_;refine Zo (.row 5 2 (([]:List Int) ++ ([]:List Int)).length) rfl rfl ?_;refine Zpb 3 rfl ?_;cases h;cases hG;exact ⟨rfl,rfl,trivial⟩
noncomputable def slices_Clone_int_int_c (x_:Int) (s_:(List Int)):Option ((List Int)):=
 (chkO (decide (0 + (x_::s_).length≤1000000))).bind fun _=>
 some (([]:List Int) ++ (x_::s_))
theorem slices_Clone_int_int_c_fn {dr:Prop} {x_:Int} {s_:(List Int)} {r:(List Int)} (h:slices_Clone_int_int_c x_ s_=some r):Fn dr Tryz.prog 25 [VF (List.map (encI .i64) (x_::s_))] (.ow 1 (List.map (encI .i64) r)):=by
 refine Fn.of_AW (dr:=dr) (F:=FnX dr Tryz.prog) (base:=0) (js:= []) mixed tok noeqs (fun _ _ _ h=> h) Tryz.call25 Tryz.func25 rfl Tryz.ntmps25 (by rw [Tryz.results25]) (by simp) ?_;have hG:(fun x=> x=r) r:=rfl;unfold slices_Clone_int_int_c at h;refine Zap 2 rfl ?_;refine Zm (.row 2 1 0) (Mem.add _ 2 (.rows 1 (List.map (encI .i64) ([]:List Int)) false)) rfl rfl ?_;refine Zpp 14 rfl ?_;refine Zm (.row 5 1 0) (Mem.add _ 5 (.rows 1 (List.map (encI .i64) ([]:List Int)) false)) rfl rfl ?_;refine Zpp 1 rfl ?_;refine Y1 rfl ?_;refine chkK h fun g1 h=> ?_;refine W.chk rfl (appChk (fun _=> rfl) g1) ?_;refine W.rows (0 + (List.map (encI .i64) (x_::s_)).length) (([]:List Int) ++ (x_::s_)).length ([] ++ (List.map (encI .i64) (x_::s_))) (List.map (encI .i64) (([]:List Int) ++ (x_::s_))) rfl (by first | rfl | (simp;done) | simp only [partMap,List.length_map,List.length_append,List.nil_append,Nat.zero_add,List.length_nil]) (by first | rfl | (simp;done) | simp only [partMap,List.map_append,List.nil_append,List.map_nil]) ?_;refine Zo (.row 5 2 (([]:List Int) ++ (x_::s_)).length) rfl rfl ?_;refine Zpb 3 rfl ?_;cases h;cases hG;exact ⟨rfl,rfl,trivial⟩
noncomputable def slices_Clone_int_int (s_:List Int):Option (List Int):=(chkO (decide (s_.length≤1000000))).bind fun _=> some s_
theorem slices_Clone_int_int_fn {dr:Prop} {s_ r:List Int} (h:slices_Clone_int_int s_=some r):Fn dr Tryz.prog 25 [VF (List.map (encI .i64) s_)] (.ow 1 (List.map (encI .i64) r)):=by
 have e:s_=r:=cloneE h
 subst e
 cases s_ with
 | nil=> exact Fn.slice0 (slices_Clone_int_int_a_fn rfl) fun a c=> slices_Clone_int_int_b_fn (a_:=a) (c_:=c) rfl
 | cons x s=>
  refine slices_Clone_int_int_c_fn ?_;unfold slices_Clone_int_int at h;unfold slices_Clone_int_int_c
  simpa only [List.nil_append,Nat.zero_add] using h
noncomputable def ref10_Ints_L1 (a_:(List Int)) (b_:(List Int)) (s3:Int):Option ((Int)⊕((Unit)⊕(Bool))):=
 (bif (decide (s3 < (a_.length:Int))) then
  (getI a_ s3).bind fun x23=>
  (getI b_ s3).bind fun x24=>
  (bif (x23 !=x24) then
   some (.inr (.inr false))
  else
   some (.inl (IntKind.i64.wrap (s3 + (1:Int)))))
 else
  some (.inr (.inl ())))
noncomputable def ref10_Ints (a_:(List Int)) (b_:(List Int)):Option (Bool):=
 (bif ((a_.length:Int) !=(b_.length:Int)) then
  some false
 else
  (seqF (A:=Unit) (
   loopF (ref10_Ints_L1 a_ b_) (0:Int))
  fun s2=>
   some true))
theorem ref10_Ints_fn {dr:Prop} {a_:(List Int)} {b_:(List Int)} {r:Bool} (h:ref10_Ints a_ b_=some r):Fn dr Tryz.prog 16 [VF (List.map (encI .i64) a_),VF (List.map (encI .i64) b_)] (VB r):=by
 refine Fn.of_AW (dr:=dr) (F:=FnX dr Tryz.prog) (base:=0) (js:= [8]) mixed tok noeqs (fun _ _ _ h=> h) Tryz.call16 Tryz.func16 rfl Tryz.ntmps16 (by rw [Tryz.results16]) (by simp) ?_;have hG:(fun x=> x=r) r:=rfl;unfold ref10_Ints at h;refine Zap 9 rfl ?_;refine Y1 rfl ?_;refine W.len rfl ?_;refine Zpp 1 rfl ?_;refine Y1 rfl ?_;refine W.len rfl ?_;refine Zpc 3 rfl ?_;refine A.condB rfl h (fun _ h=> ?_) (fun _ h=> ?_)
 ·refine Zcb 7 rfl ?_;cases h;cases hG;exact ⟨rfl,trivial⟩
 ·refine Zcc 2 rfl ?_;refine A.join (fun (s2:Unit)=> []) (fun s2=> []) _ h hG rfl ?_ ?_
  ·intro J f h hG;refine Zac 6 rfl ?_;refine A.loop (fun (s3:Int)=> [(0,VF (List.map (encI .i64) a_)),(1,VF (List.map (encI .i64) b_)),(5,VI s3)]) (fun s3=> []) _ h hG (Zf [] [] rfl rfl (Ze rfl rfl (Ze rfl rfl (Ze rfl rfl trivial))) trivial) ?_;intro J s3 f h hG;unfold ref10_Ints_L1 at h;refine Zap 5 rfl ?_;refine Y1 rfl ?_;refine W.len rfl ?_;refine Zpc 3 rfl ?_;refine A.condB rfl h (fun _ h=> ?_) (fun _ h=> ?_)
   ·refine Zcc 5 rfl ?_;refine A.regionD (by kernel_rfl) ?_;refine Zpp 2 rfl ?_;refine Y1 rfl ?_;refine bindK h fun x23 hx23 h=> ?_;refine W.chk rfl (elemB hx23) ?_;refine W.elem rfl (elemG hx23) ?_;refine W.chk rfl rfl ?_;refine W.det (.fp [.v (.int .i64 x23)]) _ rfl ?_;refine Zpp 3 rfl ?_;refine Y1 rfl ?_;refine bindK h fun x24 hx24 h=> ?_;refine W.chk rfl (elemB hx24) ?_;refine W.elem rfl (elemG hx24) ?_;refine W.chk rfl rfl ?_;refine W.det (.fp [.v (.int .i64 x24)]) _ rfl ?_;refine Zpc 4 rfl ?_;refine A.condB rfl h (fun _ h=> ?_) (fun _ h=> ?_)
    ·refine Zcb 8 rfl ?_;refine headK.r ?_;refine Zob 1 rfl ?_;refine headK.r ?_;cases h;cases hG;exact ⟨rfl,trivial⟩
    ·refine Zcb 8 rfl ?_;cases h;exact Zh hG [] [] rfl rfl (Ze rfl rfl (Ze rfl rfl (Ze rfl rfl trivial))) trivial
   ·refine Zcb 2 rfl ?_;refine headK.e ?_;refine Zob 1 rfl ?_;cases h;exact Zh hG [] [] rfl rfl trivial trivial
  ·intro s2 r2 h hG;refine Zcb 6 rfl ?_;cases h;cases hG;exact ⟨rfl,trivial⟩
end Go.Proofs.YtmgcnoigihdhpaaGreatDoor

/-
  The table of the types of the program, and that it is the program's. Printed by wip/tools/types.py.
-/
import Derived.Test.YtljdbikodogeiaaGreatDoorEvU
namespace Go.Proofs.YtljdbikodogeiaaGreatDoor
open Go.RowKit
theorem sizeIs_of {P : Program} {t : Nat} {ti : TypeInfo} (h : P.info? t = some ti) : SizeIs P t ti.size := by
  unfold SizeIs
  rw [h]
  rfl
def tOfA : Nat → TI
  | 1 => ⟨1, false, 8, [], Value.nilFunc, [0], .other⟩
  | 2 => ⟨1, false, 8, [], Value.int IntKind.i64 0, [0], .int .i64⟩
  | 3 => ⟨1, false, 8, [], Value.int IntKind.i64 0, [0], .int .i64⟩
  | 4 => ⟨1, false, 1, [], Value.bool false, [0], .bool⟩
  | 5 => ⟨1, false, 1, [], Value.int IntKind.u8 0, [0], .int .u8⟩
  | 6 => ⟨1, false, 1, [], Value.int IntKind.u8 0, [0], .int .u8⟩
  | 7 => ⟨4, true, 24, [], Value.agg #[Value.int IntKind.i64 0, Value.int IntKind.i64 0, Value.bool false, Value.int IntKind.u8 0], [0, 0, 0, 0], .struct [(0, 2, 1), (1, 3, 1), (2, 4, 1), (3, 6, 1)]⟩
  | 8 => ⟨4, true, 24, [], Value.agg #[Value.int IntKind.i64 0, Value.int IntKind.i64 0, Value.bool false, Value.int IntKind.u8 0], [0, 0, 0, 0], .struct [(0, 2, 1), (1, 3, 1), (2, 4, 1), (3, 6, 1)]⟩
  | 9 => ⟨1, false, 16, [], Value.string { data := #[] }, [0], .str⟩
  | 10 => ⟨1, false, 16, [], Value.string { data := #[] }, [0], .str⟩
  | 11 => ⟨1, false, 16, [], Value.string { data := #[] }, [0], .str⟩
  | 12 => ⟨1, false, 8, [], Value.int IntKind.u64 0, [0], .int .u64⟩
  | 13 => ⟨2, true, 24, [], Value.agg #[Value.string { data := #[] }, Value.int IntKind.u64 0], [0, 0], .struct [(0, 9, 1), (1, 12, 1)]⟩
  | 14 => ⟨2, true, 24, [], Value.agg #[Value.string { data := #[] }, Value.int IntKind.u64 0], [0, 0], .struct [(0, 9, 1), (1, 12, 1)]⟩
  | 15 => ⟨1, false, 8, [], Value.pointer none, [0], .other⟩
  | 16 => ⟨1, false, 8, [], Value.pointer none, [0], .other⟩
  | 17 => ⟨1, false, 8, [], Value.pointer none, [0], .other⟩
  | 18 => ⟨1, true, 8, [], Value.agg #[Value.pointer none], [0], .struct [(0, 17, 1)]⟩
  | 19 => ⟨1, true, 8, [], Value.agg #[Value.pointer none], [0], .struct [(0, 17, 1)]⟩
  | 20 => ⟨1, false, 16, [], Value.nilIface, [0], .other⟩
  | 21 => ⟨1, false, 4, [], Value.int IntKind.i32 0, [0], .int .i32⟩
  | 22 => ⟨1, false, 24, [], Value.slice none 0 0, [1], .slice 9 1⟩
  | 23 => ⟨22, true, 192, [], Value.agg #[Value.string { data := #[] }, Value.int IntKind.i64 0, Value.int IntKind.i64 0, Value.int IntKind.i64 0, Value.bool false, Value.int IntKind.i64 0, Value.bool false, Value.bool false, Value.int IntKind.i64 0, Value.int IntKind.i64 0, Value.int IntKind.i64 0, Value.int IntKind.i64 0, Value.slice none 0 0, Value.int IntKind.i64 0, Value.int IntKind.i64 0, Value.int IntKind.i64 0, Value.int IntKind.i64 0, Value.bool false, Value.int IntKind.i64 0, Value.int IntKind.i64 0, Value.int IntKind.i64 0, Value.int IntKind.i64 0], [0, 0, 0, 0, 0, 0, 0, 0, 0, 0, 0, 0, 1, 0, 0, 0, 0, 0, 0, 0, 0, 0], .struct [(0, 9, 1), (1, 3, 1), (2, 3, 1), (3, 3, 1), (4, 4, 1), (5, 3, 1), (6, 4, 1), (7, 4, 1), (8, 3, 1), (9, 3, 1), (10, 3, 1), (11, 3, 1), (12, 22, 1), (13, 3, 1), (14, 3, 1), (15, 3, 1), (16, 3, 1), (17, 4, 1), (18, 3, 1), (19, 3, 1), (20, 3, 1), (21, 3, 1)]⟩
  | 24 => ⟨22, true, 192, [], Value.agg #[Value.string { data := #[] }, Value.int IntKind.i64 0, Value.int IntKind.i64 0, Value.int IntKind.i64 0, Value.bool false, Value.int IntKind.i64 0, Value.bool false, Value.bool false, Value.int IntKind.i64 0, Value.int IntKind.i64 0, Value.int IntKind.i64 0, Value.int IntKind.i64 0, Value.slice none 0 0, Value.int IntKind.i64 0, Value.int IntKind.i64 0, Value.int IntKind.i64 0, Value.int IntKind.i64 0, Value.bool false, Value.int IntKind.i64 0, Value.int IntKind.i64 0, Value.int IntKind.i64 0, Value.int IntKind.i64 0], [0, 0, 0, 0, 0, 0, 0, 0, 0, 0, 0, 0, 1, 0, 0, 0, 0, 0, 0, 0, 0, 0], .struct [(0, 9, 1), (1, 3, 1), (2, 3, 1), (3, 3, 1), (4, 4, 1), (5, 3, 1), (6, 4, 1), (7, 4, 1), (8, 3, 1), (9, 3, 1), (10, 3, 1), (11, 3, 1), (12, 22, 1), (13, 3, 1), (14, 3, 1), (15, 3, 1), (16, 3, 1), (17, 4, 1), (18, 3, 1), (19, 3, 1), (20, 3, 1), (21, 3, 1)]⟩
  | 25 => ⟨1, false, 24, [], Value.slice none 0 0, [2], .slice 58 2⟩
  | 26 => ⟨1, false, 24, [], Value.slice none 0 0, [12], .slice 45 12⟩
  | 27 => ⟨1, false, 24, [], Value.slice none 0 0, [1], .slice 3 1⟩
  | 28 => ⟨1, false, 8, [], Value.nilFunc, [0], .other⟩
  | 29 => ⟨1, false, 8, [], Value.nilFunc, [0], .other⟩
  | 30 => ⟨1, false, 8, [], Value.int IntKind.i64 0, [0], .int .i64⟩
  | 32 => ⟨1, false, 8, [], Value.nilFunc, [0], .other⟩
  | 33 => ⟨1, false, 24, [], Value.slice none 0 0, [11], .slice 50 11⟩
  | 35 => ⟨1, false, 8, [], Value.nilFunc, [0], .other⟩
  | 36 => ⟨1, false, 8, [], Value.nilFunc, [0], .other⟩
  | 37 => ⟨1, false, 8, [], Value.nilFunc, [0], .other⟩
  | 38 => ⟨1, false, 8, [], Value.nilFunc, [0], .other⟩
  | 39 => ⟨1, false, 24, [], Value.slice none 0 0, [11], .slice 43 11⟩
  | 40 => ⟨1, false, 8, [], Value.nilFunc, [0], .other⟩
  | 41 => ⟨1, false, 24, [], Value.slice none 0 0, [2], .slice 91 2⟩
  | 42 => ⟨11, true, 128, [], Value.agg #[Value.int IntKind.i64 0, Value.int IntKind.i64 0, Value.int IntKind.i64 0, Value.int IntKind.i64 0, Value.int IntKind.i64 0, Value.int IntKind.i64 0, Value.string { data := #[] }, Value.slice none 0 0, Value.int IntKind.i64 0, Value.slice none 0 0, Value.bool false], [0, 0, 0, 0, 0, 0, 0, 1, 0, 2, 0], .struct [(0, 3, 1), (1, 3, 1), (2, 3, 1), (3, 3, 1), (4, 3, 1), (5, 3, 1), (6, 9, 1), (7, 27, 1), (8, 3, 1), (9, 41, 1), (10, 4, 1)]⟩
  | 43 => ⟨11, true, 128, [], Value.agg #[Value.int IntKind.i64 0, Value.int IntKind.i64 0, Value.int IntKind.i64 0, Value.int IntKind.i64 0, Value.int IntKind.i64 0, Value.int IntKind.i64 0, Value.string { data := #[] }, Value.slice none 0 0, Value.int IntKind.i64 0, Value.slice none 0 0, Value.bool false], [0, 0, 0, 0, 0, 0, 0, 1, 0, 2, 0], .struct [(0, 3, 1), (1, 3, 1), (2, 3, 1), (3, 3, 1), (4, 3, 1), (5, 3, 1), (6, 9, 1), (7, 27, 1), (8, 3, 1), (9, 41, 1), (10, 4, 1)]⟩
  | 44 => ⟨12, true, 136, [], Value.agg #[Value.int IntKind.i64 0, Value.int IntKind.i64 0, Value.slice none 0 0, Value.int IntKind.i64 0, Value.int IntKind.i64 0, Value.int IntKind.i64 0, Value.int IntKind.i64 0, Value.int IntKind.i64 0, Value.int IntKind.i64 0, Value.string { data := #[] }, Value.slice none 0 0, Value.int IntKind.i64 0], [0, 0, 1, 0, 0, 0, 0, 0, 0, 0, 1, 0], .struct [(0, 3, 1), (1, 3, 1), (2, 27, 1), (3, 3, 1), (4, 3, 1), (5, 3, 1), (6, 3, 1), (7, 3, 1), (8, 3, 1), (9, 9, 1), (10, 27, 1), (11, 3, 1)]⟩
  | 45 => ⟨12, true, 136, [], Value.agg #[Value.int IntKind.i64 0, Value.int IntKind.i64 0, Value.slice none 0 0, Value.int IntKind.i64 0, Value.int IntKind.i64 0, Value.int IntKind.i64 0, Value.int IntKind.i64 0, Value.int IntKind.i64 0, Value.int IntKind.i64 0, Value.string { data := #[] }, Value.slice none 0 0, Value.int IntKind.i64 0], [0, 0, 1, 0, 0, 0, 0, 0, 0, 0, 1, 0], .struct [(0, 3, 1), (1, 3, 1), (2, 27, 1), (3, 3, 1), (4, 3, 1), (5, 3, 1), (6, 3, 1), (7, 3, 1), (8, 3, 1), (9, 9, 1), (10, 27, 1), (11, 3, 1)]⟩
  | 46 => ⟨1, false, 8, [], Value.nilFunc, [0], .other⟩
  | 47 => ⟨1, false, 8, [], Value.nilFunc, [0], .other⟩
  | 48 => ⟨1, false, 8, [], Value.nilFunc, [0], .other⟩
  | 49 => ⟨11, true, 112, [], Value.agg #[Value.int IntKind.i64 0, Value.int IntKind.i64 0, Value.int IntKind.i64 0, Value.int IntKind.i64 0, Value.int IntKind.i64 0, Value.int IntKind.i64 0, Value.int IntKind.i64 0, Value.int IntKind.i64 0, Value.int IntKind.i64 0, Value.string { data := #[] }, Value.slice none 0 0], [0, 0, 0, 0, 0, 0, 0, 0, 0, 0, 1], .struct [(0, 3, 1), (1, 3, 1), (2, 3, 1), (3, 3, 1), (4, 3, 1), (5, 3, 1), (6, 3, 1), (7, 3, 1), (8, 3, 1), (9, 9, 1), (10, 27, 1)]⟩
  | 50 => ⟨11, true, 112, [], Value.agg #[Value.int IntKind.i64 0, Value.int IntKind.i64 0, Value.int IntKind.i64 0, Value.int IntKind.i64 0, Value.int IntKind.i64 0, Value.int IntKind.i64 0, Value.int IntKind.i64 0, Value.int IntKind.i64 0, Value.int IntKind.i64 0, Value.string { data := #[] }, Value.slice none 0 0], [0, 0, 0, 0, 0, 0, 0, 0, 0, 0, 1], .struct [(0, 3, 1), (1, 3, 1), (2, 3, 1), (3, 3, 1), (4, 3, 1), (5, 3, 1), (6, 3, 1), (7, 3, 1), (8, 3, 1), (9, 9, 1), (10, 27, 1)]⟩
  | 51 => ⟨1, false, 8, [], Value.nilFunc, [0], .other⟩
  | 52 => ⟨1, false, 8, [], Value.nilFunc, [0], .other⟩
  | 53 => ⟨1, false, 8, [], Value.nilFunc, [0], .other⟩
  | 54 => ⟨1, false, 8, [], Value.nilFunc, [0], .other⟩
  | 55 => ⟨1, false, 8, [], Value.nilFunc, [0], .other⟩
  | 56 => ⟨1, false, 8, [], Value.nilFunc, [0], .other⟩
  | 57 => ⟨2, true, 16, [.i .i64, .i .i64], Value.agg #[Value.int IntKind.i64 0, Value.int IntKind.i64 0], [0, 0], .struct [(0, 3, 1), (1, 3, 1)]⟩
  | 58 => ⟨2, true, 16, [.i .i64, .i .i64], Value.agg #[Value.int IntKind.i64 0, Value.int IntKind.i64 0], [0, 0], .struct [(0, 3, 1), (1, 3, 1)]⟩
  | 59 => ⟨1, false, 8, [], Value.nilFunc, [0], .other⟩
  | 60 => ⟨3, true, 24, [], Value.agg #[Value.bool false, Value.int IntKind.i64 0, Value.int IntKind.i64 0], [0, 0, 0], .struct [(0, 4, 1), (1, 58, 2)]⟩
  | 61 => ⟨3, true, 24, [], Value.agg #[Value.bool false, Value.int IntKind.i64 0, Value.int IntKind.i64 0], [0, 0, 0], .struct [(0, 4, 1), (1, 58, 2)]⟩
  | 62 => ⟨1, false, 8, [], Value.nilFunc, [0], .other⟩
  | 63 => ⟨25, true, 264, [], Value.agg #[Value.string { data := #[] }, Value.int IntKind.i64 0, Value.int IntKind.i64 0, Value.int IntKind.i64 0, Value.bool false, Value.int IntKind.i64 0, Value.bool false, Value.bool false, Value.int IntKind.i64 0, Value.int IntKind.i64 0, Value.int IntKind.i64 0, Value.int IntKind.i64 0, Value.slice none 0 0, Value.int IntKind.i64 0, Value.int IntKind.i64 0, Value.int IntKind.i64 0, Value.int IntKind.i64 0, Value.bool false, Value.int IntKind.i64 0, Value.int IntKind.i64 0, Value.int IntKind.i64 0, Value.int IntKind.i64 0, Value.slice none 0 0, Value.slice none 0 0, Value.slice none 0 0], [0, 0, 0, 0, 0, 0, 0, 0, 0, 0, 0, 0, 1, 0, 0, 0, 0, 0, 0, 0, 0, 0, 2, 12, 1], .struct [(0, 24, 22), (22, 25, 1), (23, 26, 1), (24, 27, 1)]⟩
  | 64 => ⟨25, true, 264, [], Value.agg #[Value.string { data := #[] }, Value.int IntKind.i64 0, Value.int IntKind.i64 0, Value.int IntKind.i64 0, Value.bool false, Value.int IntKind.i64 0, Value.bool false, Value.bool false, Value.int IntKind.i64 0, Value.int IntKind.i64 0, Value.int IntKind.i64 0, Value.int IntKind.i64 0, Value.slice none 0 0, Value.int IntKind.i64 0, Value.int IntKind.i64 0, Value.int IntKind.i64 0, Value.int IntKind.i64 0, Value.bool false, Value.int IntKind.i64 0, Value.int IntKind.i64 0, Value.int IntKind.i64 0, Value.int IntKind.i64 0, Value.slice none 0 0, Value.slice none 0 0, Value.slice none 0 0], [0, 0, 0, 0, 0, 0, 0, 0, 0, 0, 0, 0, 1, 0, 0, 0, 0, 0, 0, 0, 0, 0, 2, 12, 1], .struct [(0, 24, 22), (22, 25, 1), (23, 26, 1), (24, 27, 1)]⟩
  | 65 => ⟨1, false, 8, [], Value.nilFunc, [0], .other⟩
  | 66 => ⟨1, false, 8, [], Value.nilFunc, [0], .other⟩
  | 67 => ⟨1, false, 8, [], Value.nilFunc, [0], .other⟩
  | 68 => ⟨1, false, 8, [], Value.nilFunc, [0], .other⟩
  | 69 => ⟨1, false, 8, [], Value.nilFunc, [0], .other⟩
  | 70 => ⟨1, false, 8, [], Value.nilFunc, [0], .other⟩
  | 71 => ⟨1, false, 8, [], Value.nilFunc, [0], .other⟩
  | 72 => ⟨1, false, 8, [], Value.nilFunc, [0], .other⟩
  | 73 => ⟨1, false, 8, [], Value.nilFunc, [0], .other⟩
  | 74 => ⟨1, false, 8, [], Value.nilFunc, [0], .other⟩
  | 75 => ⟨1, false, 8, [], Value.nilFunc, [0], .other⟩
  | 76 => ⟨1, false, 8, [], Value.nilFunc, [0], .other⟩
  | 77 => ⟨1, false, 8, [], Value.nilFunc, [0], .other⟩
  | 78 => ⟨1, false, 8, [], Value.map none, [0], .map 3 79⟩
  | 79 => ⟨1, false, 8, [], Value.pointer none, [0], .other⟩
  | 80 => ⟨1, false, 8, [], Value.map none, [0], .map 91 4⟩
  | 81 => ⟨12, true, 136, [], Value.agg #[Value.int IntKind.i64 0, Value.int IntKind.i64 0, Value.int IntKind.i64 0, Value.int IntKind.i64 0, Value.int IntKind.i64 0, Value.int IntKind.i64 0, Value.string { data := #[] }, Value.slice none 0 0, Value.int IntKind.i64 0, Value.slice none 0 0, Value.bool false, Value.map none], [0, 0, 0, 0, 0, 0, 0, 1, 0, 2, 0, 0], .struct [(0, 43, 11), (11, 80, 1)]⟩
  | 82 => ⟨12, true, 136, [], Value.agg #[Value.int IntKind.i64 0, Value.int IntKind.i64 0, Value.int IntKind.i64 0, Value.int IntKind.i64 0, Value.int IntKind.i64 0, Value.int IntKind.i64 0, Value.string { data := #[] }, Value.slice none 0 0, Value.int IntKind.i64 0, Value.slice none 0 0, Value.bool false, Value.map none], [0, 0, 0, 0, 0, 0, 0, 1, 0, 2, 0, 0], .struct [(0, 43, 11), (11, 80, 1)]⟩
  | 84 => ⟨1, false, 8, [], Value.nilFunc, [0], .other⟩
  | 85 => ⟨1, false, 8, [], Value.nilFunc, [0], .other⟩
  | 86 => ⟨1, false, 8, [], Value.nilFunc, [0], .other⟩
  | 87 => ⟨1, false, 8, [], Value.nilFunc, [0], .other⟩
  | 88 => ⟨1, false, 8, [], Value.nilFunc, [0], .other⟩
  | 89 => ⟨1, false, 8, [], Value.nilFunc, [0], .other⟩
  | 90 => ⟨1, false, 8, [], Value.nilFunc, [0], .other⟩
  | 91 => ⟨2, true, 16, [.i .i64, .i .i64], Value.agg #[Value.int IntKind.i64 0, Value.int IntKind.i64 0], [0, 0], .array 2 3 1⟩
  | 92 => ⟨1, false, 8, [], Value.nilFunc, [0], .other⟩
  | 93 => ⟨1, false, 8, [], Value.nilFunc, [0], .other⟩
  | 94 => ⟨1, false, 8, [], Value.nilFunc, [0], .other⟩
  | 95 => ⟨1, false, 8, [], Value.nilFunc, [0], .other⟩
  | 96 => ⟨1, false, 8, [], Value.nilFunc, [0], .other⟩
  | 97 => ⟨1, false, 8, [], Value.nilFunc, [0], .other⟩
  | 98 => ⟨1, false, 8, [], Value.nilFunc, [0], .other⟩
  | 99 => ⟨1, false, 8, [], Value.nilFunc, [0], .other⟩
  | _ => ⟨0, false, 0, [], .bool false, [], .none_⟩
def tOfB : Nat → TI
  | 100 => ⟨1, false, 8, [], Value.nilFunc, [0], .other⟩
  | 101 => ⟨1, false, 8, [], Value.nilFunc, [0], .other⟩
  | 102 => ⟨1, false, 8, [], Value.nilFunc, [0], .other⟩
  | 103 => ⟨1, false, 24, [], Value.slice none 0 0, [3], .slice 61 3⟩
  | 104 => ⟨1, false, 8, [], Value.nilFunc, [0], .other⟩
  | 105 => ⟨1, false, 8, [], Value.nilFunc, [0], .other⟩
  | 106 => ⟨1, false, 8, [], Value.nilFunc, [0], .other⟩
  | 107 => ⟨1, false, 8, [], Value.nilFunc, [0], .other⟩
  | 108 => ⟨1, false, 8, [], Value.nilFunc, [0], .other⟩
  | 109 => ⟨1, false, 8, [], Value.nilFunc, [0], .other⟩
  | 110 => ⟨1, false, 8, [], Value.nilFunc, [0], .other⟩
  | 111 => ⟨1, false, 8, [], Value.nilFunc, [0], .other⟩
  | 112 => ⟨1, false, 8, [], Value.nilFunc, [0], .other⟩
  | 113 => ⟨1, false, 8, [], Value.nilFunc, [0], .other⟩
  | 114 => ⟨1, false, 8, [], Value.nilFunc, [0], .other⟩
  | 115 => ⟨1, false, 8, [], Value.nilFunc, [0], .other⟩
  | 116 => ⟨1, false, 8, [], Value.nilFunc, [0], .other⟩
  | 117 => ⟨1, false, 8, [], Value.nilFunc, [0], .other⟩
  | 118 => ⟨1, false, 8, [], Value.nilFunc, [0], .other⟩
  | 119 => ⟨1, false, 8, [], Value.nilFunc, [0], .other⟩
  | 120 => ⟨1, false, 8, [], Value.nilFunc, [0], .other⟩
  | 121 => ⟨1, false, 8, [], Value.nilFunc, [0], .other⟩
  | 122 => ⟨1, false, 8, [], Value.nilFunc, [0], .other⟩
  | 123 => ⟨1, false, 8, [], Value.nilFunc, [0], .other⟩
  | 124 => ⟨1, false, 8, [], Value.nilFunc, [0], .other⟩
  | 125 => ⟨1, false, 8, [], Value.nilFunc, [0], .other⟩
  | 126 => ⟨1, false, 8, [], Value.nilFunc, [0], .other⟩
  | 127 => ⟨1, false, 8, [], Value.int IntKind.u64 0, [0], .int .u64⟩
  | 128 => ⟨1, false, 8, [], Value.nilFunc, [0], .other⟩
  | 129 => ⟨1, false, 8, [], Value.nilFunc, [0], .other⟩
  | 130 => ⟨1, false, 8, [], Value.nilFunc, [0], .other⟩
  | 131 => ⟨1, false, 8, [], Value.nilFunc, [0], .other⟩
  | 132 => ⟨1, false, 8, [], Value.nilFunc, [0], .other⟩
  | 133 => ⟨1, false, 24, [], Value.slice none 0 0, [1], .slice 5 1⟩
  | 134 => ⟨1, false, 8, [], Value.nilFunc, [0], .other⟩
  | 135 => ⟨1, false, 8, [], Value.int IntKind.i64 0, [0], .int .i64⟩
  | 137 => ⟨1, false, 8, [], Value.nilFunc, [0], .other⟩
  | 138 => ⟨1, false, 8, [], Value.nilFunc, [0], .other⟩
  | 139 => ⟨1, false, 8, [], Value.nilFunc, [0], .other⟩
  | 141 => ⟨1, false, 8, [], Value.nilFunc, [0], .other⟩
  | 142 => ⟨1, false, 8, [], Value.nilFunc, [0], .other⟩
  | 143 => ⟨1, false, 4, [], Value.int IntKind.u32 0, [0], .int .u32⟩
  | 144 => ⟨1, false, 8, [], Value.nilFunc, [0], .other⟩
  | 145 => ⟨1, false, 8, [], Value.int IntKind.u64 0, [0], .int .u64⟩
  | 146 => ⟨1, false, 8, [], Value.nilFunc, [0], .other⟩
  | 147 => ⟨1, false, 8, [], Value.nilFunc, [0], .other⟩
  | 148 => ⟨1, false, 8, [], Value.nilFunc, [0], .other⟩
  | 149 => ⟨1, false, 8, [], Value.nilFunc, [0], .other⟩
  | 150 => ⟨1, false, 8, [], Value.nilFunc, [0], .other⟩
  | 151 => ⟨1, false, 8, [], Value.nilFunc, [0], .other⟩
  | 153 => ⟨1, false, 8, [], Value.nilFunc, [0], .other⟩
  | 154 => ⟨1, false, 8, [], Value.nilFunc, [0], .other⟩
  | 155 => ⟨1, false, 8, [], Value.int IntKind.u64 0, [0], .int .u64⟩
  | 156 => ⟨1, false, 8, [], Value.nilFunc, [0], .other⟩
  | 157 => ⟨1, false, 8, [], Value.nilFunc, [0], .other⟩
  | 158 => ⟨1, false, 8, [], Value.nilFunc, [0], .other⟩
  | 159 => ⟨1, false, 8, [], Value.pointer none, [0], .other⟩
  | 160 => ⟨1, false, 8, [], Value.nilFunc, [0], .other⟩
  | 161 => ⟨1, false, 8, [], Value.nilFunc, [0], .other⟩
  | 162 => ⟨1, false, 8, [], Value.nilFunc, [0], .other⟩
  | 163 => ⟨24, true, 24, [], Value.agg #[Value.int IntKind.u8 0, Value.int IntKind.u8 0, Value.int IntKind.u8 0, Value.int IntKind.u8 0, Value.int IntKind.u8 0, Value.int IntKind.u8 0, Value.int IntKind.u8 0, Value.int IntKind.u8 0, Value.int IntKind.u8 0, Value.int IntKind.u8 0, Value.int IntKind.u8 0, Value.int IntKind.u8 0, Value.int IntKind.u8 0, Value.int IntKind.u8 0, Value.int IntKind.u8 0, Value.int IntKind.u8 0, Value.int IntKind.u8 0, Value.int IntKind.u8 0, Value.int IntKind.u8 0, Value.int IntKind.u8 0, Value.int IntKind.u8 0, Value.int IntKind.u8 0, Value.int IntKind.u8 0, Value.int IntKind.u8 0], [0, 0, 0, 0, 0, 0, 0, 0, 0, 0, 0, 0, 0, 0, 0, 0, 0, 0, 0, 0, 0, 0, 0, 0], .array 24 5 1⟩
  | 164 => ⟨1, false, 8, [], Value.nilFunc, [0], .other⟩
  | 166 => ⟨1, false, 8, [], Value.nilFunc, [0], .other⟩
  | 167 => ⟨1, false, 8, [], Value.pointer none, [0], .other⟩
  | 169 => ⟨1, false, 8, [], Value.nilFunc, [0], .other⟩
  | 170 => ⟨1, false, 8, [], Value.nilFunc, [0], .other⟩
  | 171 => ⟨1, false, 8, [], Value.nilFunc, [0], .other⟩
  | 172 => ⟨1, false, 8, [], Value.nilFunc, [0], .other⟩
  | 173 => ⟨20, true, 160, [], Value.agg #[Value.int IntKind.u64 0, Value.int IntKind.u64 0, Value.int IntKind.u64 0, Value.int IntKind.u64 0, Value.int IntKind.u64 0, Value.int IntKind.u64 0, Value.int IntKind.u64 0, Value.int IntKind.u64 0, Value.int IntKind.u64 0, Value.int IntKind.u64 0, Value.int IntKind.u64 0, Value.int IntKind.u64 0, Value.int IntKind.u64 0, Value.int IntKind.u64 0, Value.int IntKind.u64 0, Value.int IntKind.u64 0, Value.int IntKind.u64 0, Value.int IntKind.u64 0, Value.int IntKind.u64 0, Value.int IntKind.u64 0], [0, 0, 0, 0, 0, 0, 0, 0, 0, 0, 0, 0, 0, 0, 0, 0, 0, 0, 0, 0], .array 20 145 1⟩
  | 174 => ⟨65, true, 65, [], Value.agg ([Value.int IntKind.u8 0, Value.int IntKind.u8 0, Value.int IntKind.u8 0, Value.int IntKind.u8 0, Value.int IntKind.u8 0, Value.int IntKind.u8 0, Value.int IntKind.u8 0, Value.int IntKind.u8 0, Value.int IntKind.u8 0, Value.int IntKind.u8 0, Value.int IntKind.u8 0, Value.int IntKind.u8 0, Value.int IntKind.u8 0, Value.int IntKind.u8 0, Value.int IntKind.u8 0, Value.int IntKind.u8 0, Value.int IntKind.u8 0, Value.int IntKind.u8 0, Value.int IntKind.u8 0, Value.int IntKind.u8 0, Value.int IntKind.u8 0, Value.int IntKind.u8 0, Value.int IntKind.u8 0, Value.int IntKind.u8 0, Value.int IntKind.u8 0, Value.int IntKind.u8 0, Value.int IntKind.u8 0, Value.int IntKind.u8 0, Value.int IntKind.u8 0, Value.int IntKind.u8 0, Value.int IntKind.u8 0, Value.int IntKind.u8 0].append [Value.int IntKind.u8 0, Value.int IntKind.u8 0, Value.int IntKind.u8 0, Value.int IntKind.u8 0, Value.int IntKind.u8 0, Value.int IntKind.u8 0, Value.int IntKind.u8 0, Value.int IntKind.u8 0, Value.int IntKind.u8 0, Value.int IntKind.u8 0, Value.int IntKind.u8 0, Value.int IntKind.u8 0, Value.int IntKind.u8 0, Value.int IntKind.u8 0, Value.int IntKind.u8 0, Value.int IntKind.u8 0, Value.int IntKind.u8 0, Value.int IntKind.u8 0, Value.int IntKind.u8 0, Value.int IntKind.u8 0, Value.int IntKind.u8 0, Value.int IntKind.u8 0, Value.int IntKind.u8 0, Value.int IntKind.u8 0, Value.int IntKind.u8 0, Value.int IntKind.u8 0, Value.int IntKind.u8 0, Value.int IntKind.u8 0, Value.int IntKind.u8 0, Value.int IntKind.u8 0, Value.int IntKind.u8 0, Value.int IntKind.u8 0, Value.int IntKind.u8 0]).toArray, [0, 0, 0, 0, 0, 0, 0, 0, 0, 0, 0, 0, 0, 0, 0, 0, 0, 0, 0, 0, 0, 0, 0, 0, 0, 0, 0, 0, 0, 0, 0, 0, 0, 0, 0, 0, 0, 0, 0, 0, 0, 0, 0, 0, 0, 0, 0, 0, 0, 0, 0, 0, 0, 0, 0, 0, 0, 0, 0, 0, 0, 0, 0, 0, 0], .array 65 5 1⟩
  | 175 => ⟨1, false, 8, [], Value.nilFunc, [0], .other⟩
  | 177 => ⟨1, false, 8, [], Value.nilFunc, [0], .other⟩
  | 178 => ⟨32, true, 32, [], Value.agg #[Value.int IntKind.u8 0, Value.int IntKind.u8 0, Value.int IntKind.u8 0, Value.int IntKind.u8 0, Value.int IntKind.u8 0, Value.int IntKind.u8 0, Value.int IntKind.u8 0, Value.int IntKind.u8 0, Value.int IntKind.u8 0, Value.int IntKind.u8 0, Value.int IntKind.u8 0, Value.int IntKind.u8 0, Value.int IntKind.u8 0, Value.int IntKind.u8 0, Value.int IntKind.u8 0, Value.int IntKind.u8 0, Value.int IntKind.u8 0, Value.int IntKind.u8 0, Value.int IntKind.u8 0, Value.int IntKind.u8 0, Value.int IntKind.u8 0, Value.int IntKind.u8 0, Value.int IntKind.u8 0, Value.int IntKind.u8 0, Value.int IntKind.u8 0, Value.int IntKind.u8 0, Value.int IntKind.u8 0, Value.int IntKind.u8 0, Value.int IntKind.u8 0, Value.int IntKind.u8 0, Value.int IntKind.u8 0, Value.int IntKind.u8 0], [0, 0, 0, 0, 0, 0, 0, 0, 0, 0, 0, 0, 0, 0, 0, 0, 0, 0, 0, 0, 0, 0, 0, 0, 0, 0, 0, 0, 0, 0, 0, 0], .array 32 5 1⟩
  | 179 => ⟨64, true, 64, [], Value.agg #[Value.int IntKind.u8 0, Value.int IntKind.u8 0, Value.int IntKind.u8 0, Value.int IntKind.u8 0, Value.int IntKind.u8 0, Value.int IntKind.u8 0, Value.int IntKind.u8 0, Value.int IntKind.u8 0, Value.int IntKind.u8 0, Value.int IntKind.u8 0, Value.int IntKind.u8 0, Value.int IntKind.u8 0, Value.int IntKind.u8 0, Value.int IntKind.u8 0, Value.int IntKind.u8 0, Value.int IntKind.u8 0, Value.int IntKind.u8 0, Value.int IntKind.u8 0, Value.int IntKind.u8 0, Value.int IntKind.u8 0, Value.int IntKind.u8 0, Value.int IntKind.u8 0, Value.int IntKind.u8 0, Value.int IntKind.u8 0, Value.int IntKind.u8 0, Value.int IntKind.u8 0, Value.int IntKind.u8 0, Value.int IntKind.u8 0, Value.int IntKind.u8 0, Value.int IntKind.u8 0, Value.int IntKind.u8 0, Value.int IntKind.u8 0, Value.int IntKind.u8 0, Value.int IntKind.u8 0, Value.int IntKind.u8 0, Value.int IntKind.u8 0, Value.int IntKind.u8 0, Value.int IntKind.u8 0, Value.int IntKind.u8 0, Value.int IntKind.u8 0, Value.int IntKind.u8 0, Value.int IntKind.u8 0, Value.int IntKind.u8 0, Value.int IntKind.u8 0, Value.int IntKind.u8 0, Value.int IntKind.u8 0, Value.int IntKind.u8 0, Value.int IntKind.u8 0, Value.int IntKind.u8 0, Value.int IntKind.u8 0, Value.int IntKind.u8 0, Value.int IntKind.u8 0, Value.int IntKind.u8 0, Value.int IntKind.u8 0, Value.int IntKind.u8 0, Value.int IntKind.u8 0, Value.int IntKind.u8 0, Value.int IntKind.u8 0, Value.int IntKind.u8 0, Value.int IntKind.u8 0, Value.int IntKind.u8 0, Value.int IntKind.u8 0, Value.int IntKind.u8 0, Value.int IntKind.u8 0], [0, 0, 0, 0, 0, 0, 0, 0, 0, 0, 0, 0, 0, 0, 0, 0, 0, 0, 0, 0, 0, 0, 0, 0, 0, 0, 0, 0, 0, 0, 0, 0, 0, 0, 0, 0, 0, 0, 0, 0, 0, 0, 0, 0, 0, 0, 0, 0, 0, 0, 0, 0, 0, 0, 0, 0, 0, 0, 0, 0, 0, 0, 0, 0], .array 64 5 1⟩
  | 180 => ⟨1, false, 8, [], Value.nilFunc, [0], .other⟩
  | 181 => ⟨4, true, 40, [], Value.agg #[Value.pointer none, Value.pointer none, Value.pointer none, Value.string { data := #[] }], [0, 0, 0, 0], .struct [(0, 17, 1), (1, 17, 1), (2, 17, 1), (3, 9, 1)]⟩
  | 182 => ⟨4, true, 40, [], Value.agg #[Value.pointer none, Value.pointer none, Value.pointer none, Value.string { data := #[] }], [0, 0, 0, 0], .struct [(0, 17, 1), (1, 17, 1), (2, 17, 1), (3, 9, 1)]⟩
  | 183 => ⟨0, true, 0, [], Value.agg #[], [], .array 0 16 1⟩
  | 184 => ⟨0, true, 0, [], Value.agg #[], [], .struct [(0, 183, 0)]⟩
  | 185 => ⟨0, true, 0, [], Value.agg #[], [], .struct [(0, 183, 0)]⟩
  | 186 => ⟨1, false, 8, [], Value.nilFunc, [0], .other⟩
  | 187 => ⟨1, false, 1, [], Value.int IntKind.u8 0, [0], .int .u8⟩
  | 188 => ⟨1, false, 1, [], Value.int IntKind.u8 0, [0], .int .u8⟩
  | 189 => ⟨1, false, 8, [], Value.nilFunc, [0], .other⟩
  | 190 => ⟨1, false, 8, [], Value.pointer none, [0], .other⟩
  | 191 => ⟨1, false, 4, [], Value.int IntKind.i32 0, [0], .int .i32⟩
  | 192 => ⟨1, false, 4, [], Value.int IntKind.i32 0, [0], .int .i32⟩
  | 193 => ⟨11, true, 48, [], Value.agg #[Value.int IntKind.u64 0, Value.int IntKind.u64 0, Value.int IntKind.u32 0, Value.int IntKind.u8 0, Value.int IntKind.u8 0, Value.int IntKind.u8 0, Value.int IntKind.u8 0, Value.nilFunc, Value.pointer none, Value.int IntKind.i32 0, Value.int IntKind.i32 0], [0, 0, 0, 0, 0, 0, 0, 0, 0, 0, 0], .struct [(0, 12, 1), (1, 12, 1), (2, 143, 1), (3, 187, 1), (4, 5, 1), (5, 5, 1), (6, 188, 1), (7, 189, 1), (8, 190, 1), (9, 191, 1), (10, 192, 1)]⟩
  | 194 => ⟨11, true, 48, [], Value.agg #[Value.int IntKind.u64 0, Value.int IntKind.u64 0, Value.int IntKind.u32 0, Value.int IntKind.u8 0, Value.int IntKind.u8 0, Value.int IntKind.u8 0, Value.int IntKind.u8 0, Value.nilFunc, Value.pointer none, Value.int IntKind.i32 0, Value.int IntKind.i32 0], [0, 0, 0, 0, 0, 0, 0, 0, 0, 0, 0], .struct [(0, 12, 1), (1, 12, 1), (2, 143, 1), (3, 187, 1), (4, 5, 1), (5, 5, 1), (6, 188, 1), (7, 189, 1), (8, 190, 1), (9, 191, 1), (10, 192, 1)]⟩
  | 195 => ⟨1, false, 8, [], Value.pointer none, [0], .other⟩
  | _ => ⟨0, false, 0, [], .bool false, [], .none_⟩
def tOf (t : Nat) : TI := bif Nat.ble t 99 then tOfA t else tOfB t
theorem inf_1 : Tryz.prog.info? 1 = some Tryz.t1 := by kernel_rfl
theorem inf_2 : Tryz.prog.info? 2 = some Tryz.t2 := by kernel_rfl
theorem inf_3 : Tryz.prog.info? 3 = some Tryz.t3 := by kernel_rfl
theorem inf_4 : Tryz.prog.info? 4 = some Tryz.t4 := by kernel_rfl
theorem inf_5 : Tryz.prog.info? 5 = some Tryz.t5 := by kernel_rfl
theorem inf_6 : Tryz.prog.info? 6 = some Tryz.t6 := by kernel_rfl
theorem inf_7 : Tryz.prog.info? 7 = some Tryz.t7 := by kernel_rfl
theorem inf_8 : Tryz.prog.info? 8 = some Tryz.t8 := by kernel_rfl
theorem inf_9 : Tryz.prog.info? 9 = some Tryz.t9 := by kernel_rfl
theorem inf_10 : Tryz.prog.info? 10 = some Tryz.t10 := by kernel_rfl
theorem inf_11 : Tryz.prog.info? 11 = some Tryz.t11 := by kernel_rfl
theorem inf_12 : Tryz.prog.info? 12 = some Tryz.t12 := by kernel_rfl
theorem inf_13 : Tryz.prog.info? 13 = some Tryz.t13 := by kernel_rfl
theorem inf_14 : Tryz.prog.info? 14 = some Tryz.t14 := by kernel_rfl
theorem inf_15 : Tryz.prog.info? 15 = some Tryz.t15 := by kernel_rfl
theorem inf_16 : Tryz.prog.info? 16 = some Tryz.t16 := by kernel_rfl
theorem inf_17 : Tryz.prog.info? 17 = some Tryz.t17 := by kernel_rfl
theorem inf_18 : Tryz.prog.info? 18 = some Tryz.t18 := by kernel_rfl
theorem inf_19 : Tryz.prog.info? 19 = some Tryz.t19 := by kernel_rfl
theorem inf_20 : Tryz.prog.info? 20 = some Tryz.t20 := by kernel_rfl
theorem inf_21 : Tryz.prog.info? 21 = some Tryz.t21 := by kernel_rfl
theorem inf_22 : Tryz.prog.info? 22 = some Tryz.t22 := by kernel_rfl
theorem inf_23 : Tryz.prog.info? 23 = some Tryz.t23 := by kernel_rfl
theorem inf_24 : Tryz.prog.info? 24 = some Tryz.t24 := by kernel_rfl
theorem inf_25 : Tryz.prog.info? 25 = some Tryz.t25 := by kernel_rfl
theorem inf_26 : Tryz.prog.info? 26 = some Tryz.t26 := by kernel_rfl
theorem inf_27 : Tryz.prog.info? 27 = some Tryz.t27 := by kernel_rfl
theorem inf_28 : Tryz.prog.info? 28 = some Tryz.t28 := by kernel_rfl
theorem inf_29 : Tryz.prog.info? 29 = some Tryz.t29 := by kernel_rfl
theorem inf_30 : Tryz.prog.info? 30 = some Tryz.t30 := by kernel_rfl
theorem inf_32 : Tryz.prog.info? 32 = some Tryz.t32 := by kernel_rfl
theorem inf_33 : Tryz.prog.info? 33 = some Tryz.t33 := by kernel_rfl
theorem inf_35 : Tryz.prog.info? 35 = some Tryz.t35 := by kernel_rfl
theorem inf_36 : Tryz.prog.info? 36 = some Tryz.t36 := by kernel_rfl
theorem inf_37 : Tryz.prog.info? 37 = some Tryz.t37 := by kernel_rfl
theorem inf_38 : Tryz.prog.info? 38 = some Tryz.t38 := by kernel_rfl
theorem inf_39 : Tryz.prog.info? 39 = some Tryz.t39 := by kernel_rfl
theorem inf_40 : Tryz.prog.info? 40 = some Tryz.t40 := by kernel_rfl
theorem inf_41 : Tryz.prog.info? 41 = some Tryz.t41 := by kernel_rfl
theorem inf_42 : Tryz.prog.info? 42 = some Tryz.t42 := by kernel_rfl
theorem inf_43 : Tryz.prog.info? 43 = some Tryz.t43 := by kernel_rfl
theorem inf_44 : Tryz.prog.info? 44 = some Tryz.t44 := by kernel_rfl
theorem inf_45 : Tryz.prog.info? 45 = some Tryz.t45 := by kernel_rfl
theorem inf_46 : Tryz.prog.info? 46 = some Tryz.t46 := by kernel_rfl
theorem inf_47 : Tryz.prog.info? 47 = some Tryz.t47 := by kernel_rfl
theorem inf_48 : Tryz.prog.info? 48 = some Tryz.t48 := by kernel_rfl
theorem inf_49 : Tryz.prog.info? 49 = some Tryz.t49 := by kernel_rfl
theorem inf_50 : Tryz.prog.info? 50 = some Tryz.t50 := by kernel_rfl
theorem inf_51 : Tryz.prog.info? 51 = some Tryz.t51 := by kernel_rfl
theorem inf_52 : Tryz.prog.info? 52 = some Tryz.t52 := by kernel_rfl
theorem inf_53 : Tryz.prog.info? 53 = some Tryz.t53 := by kernel_rfl
theorem inf_54 : Tryz.prog.info? 54 = some Tryz.t54 := by kernel_rfl
theorem inf_55 : Tryz.prog.info? 55 = some Tryz.t55 := by kernel_rfl
theorem inf_56 : Tryz.prog.info? 56 = some Tryz.t56 := by kernel_rfl
theorem inf_57 : Tryz.prog.info? 57 = some Tryz.t57 := by kernel_rfl
theorem inf_58 : Tryz.prog.info? 58 = some Tryz.t58 := by kernel_rfl
theorem inf_59 : Tryz.prog.info? 59 = some Tryz.t59 := by kernel_rfl
theorem inf_60 : Tryz.prog.info? 60 = some Tryz.t60 := by kernel_rfl
theorem inf_61 : Tryz.prog.info? 61 = some Tryz.t61 := by kernel_rfl
theorem inf_62 : Tryz.prog.info? 62 = some Tryz.t62 := by kernel_rfl
theorem inf_63 : Tryz.prog.info? 63 = some Tryz.t63 := by kernel_rfl
theorem inf_64 : Tryz.prog.info? 64 = some Tryz.t64 := by kernel_rfl
theorem inf_65 : Tryz.prog.info? 65 = some Tryz.t65 := by kernel_rfl
theorem inf_66 : Tryz.prog.info? 66 = some Tryz.t66 := by kernel_rfl
theorem inf_67 : Tryz.prog.info? 67 = some Tryz.t67 := by kernel_rfl
theorem inf_68 : Tryz.prog.info? 68 = some Tryz.t68 := by kernel_rfl
theorem inf_69 : Tryz.prog.info? 69 = some Tryz.t69 := by kernel_rfl
theorem inf_70 : Tryz.prog.info? 70 = some Tryz.t70 := by kernel_rfl
theorem inf_71 : Tryz.prog.info? 71 = some Tryz.t71 := by kernel_rfl
theorem inf_72 : Tryz.prog.info? 72 = some Tryz.t72 := by kernel_rfl
theorem inf_73 : Tryz.prog.info? 73 = some Tryz.t73 := by kernel_rfl
theorem inf_74 : Tryz.prog.info? 74 = some Tryz.t74 := by kernel_rfl
theorem inf_75 : Tryz.prog.info? 75 = some Tryz.t75 := by kernel_rfl
theorem inf_76 : Tryz.prog.info? 76 = some Tryz.t76 := by kernel_rfl
theorem inf_77 : Tryz.prog.info? 77 = some Tryz.t77 := by kernel_rfl
theorem inf_78 : Tryz.prog.info? 78 = some Tryz.t78 := by kernel_rfl
theorem inf_79 : Tryz.prog.info? 79 = some Tryz.t79 := by kernel_rfl
theorem inf_80 : Tryz.prog.info? 80 = some Tryz.t80 := by kernel_rfl
theorem inf_81 : Tryz.prog.info? 81 = some Tryz.t81 := by kernel_rfl
theorem inf_82 : Tryz.prog.info? 82 = some Tryz.t82 := by kernel_rfl
theorem inf_84 : Tryz.prog.info? 84 = some Tryz.t84 := by kernel_rfl
theorem inf_85 : Tryz.prog.info? 85 = some Tryz.t85 := by kernel_rfl
theorem inf_86 : Tryz.prog.info? 86 = some Tryz.t86 := by kernel_rfl
theorem inf_87 : Tryz.prog.info? 87 = some Tryz.t87 := by kernel_rfl
theorem inf_88 : Tryz.prog.info? 88 = some Tryz.t88 := by kernel_rfl
theorem inf_89 : Tryz.prog.info? 89 = some Tryz.t89 := by kernel_rfl
theorem inf_90 : Tryz.prog.info? 90 = some Tryz.t90 := by kernel_rfl
theorem inf_91 : Tryz.prog.info? 91 = some Tryz.t91 := by kernel_rfl
theorem inf_92 : Tryz.prog.info? 92 = some Tryz.t92 := by kernel_rfl
theorem inf_93 : Tryz.prog.info? 93 = some Tryz.t93 := by kernel_rfl
theorem inf_94 : Tryz.prog.info? 94 = some Tryz.t94 := by kernel_rfl
theorem inf_95 : Tryz.prog.info? 95 = some Tryz.t95 := by kernel_rfl
theorem inf_96 : Tryz.prog.info? 96 = some Tryz.t96 := by kernel_rfl
theorem inf_97 : Tryz.prog.info? 97 = some Tryz.t97 := by kernel_rfl
theorem inf_98 : Tryz.prog.info? 98 = some Tryz.t98 := by kernel_rfl
theorem inf_99 : Tryz.prog.info? 99 = some Tryz.t99 := by kernel_rfl
theorem inf_100 : Tryz.prog.info? 100 = some Tryz.t100 := by kernel_rfl
theorem inf_101 : Tryz.prog.info? 101 = some Tryz.t101 := by kernel_rfl
theorem inf_102 : Tryz.prog.info? 102 = some Tryz.t102 := by kernel_rfl
theorem inf_103 : Tryz.prog.info? 103 = some Tryz.t103 := by kernel_rfl
theorem inf_104 : Tryz.prog.info? 104 = some Tryz.t104 := by kernel_rfl
theorem inf_105 : Tryz.prog.info? 105 = some Tryz.t105 := by kernel_rfl
theorem inf_106 : Tryz.prog.info? 106 = some Tryz.t106 := by kernel_rfl
theorem inf_107 : Tryz.prog.info? 107 = some Tryz.t107 := by kernel_rfl
theorem inf_108 : Tryz.prog.info? 108 = some Tryz.t108 := by kernel_rfl
theorem inf_109 : Tryz.prog.info? 109 = some Tryz.t109 := by kernel_rfl
theorem inf_110 : Tryz.prog.info? 110 = some Tryz.t110 := by kernel_rfl
theorem inf_111 : Tryz.prog.info? 111 = some Tryz.t111 := by kernel_rfl
theorem inf_112 : Tryz.prog.info? 112 = some Tryz.t112 := by kernel_rfl
theorem inf_113 : Tryz.prog.info? 113 = some Tryz.t113 := by kernel_rfl
theorem inf_114 : Tryz.prog.info? 114 = some Tryz.t114 := by kernel_rfl
theorem inf_115 : Tryz.prog.info? 115 = some Tryz.t115 := by kernel_rfl
theorem inf_116 : Tryz.prog.info? 116 = some Tryz.t116 := by kernel_rfl
theorem inf_117 : Tryz.prog.info? 117 = some Tryz.t117 := by kernel_rfl
theorem inf_118 : Tryz.prog.info? 118 = some Tryz.t118 := by kernel_rfl
theorem inf_119 : Tryz.prog.info? 119 = some Tryz.t119 := by kernel_rfl
theorem inf_120 : Tryz.prog.info? 120 = some Tryz.t120 := by kernel_rfl
theorem inf_121 : Tryz.prog.info? 121 = some Tryz.t121 := by kernel_rfl
theorem inf_122 : Tryz.prog.info? 122 = some Tryz.t122 := by kernel_rfl
theorem inf_123 : Tryz.prog.info? 123 = some Tryz.t123 := by kernel_rfl
theorem inf_124 : Tryz.prog.info? 124 = some Tryz.t124 := by kernel_rfl
theorem inf_125 : Tryz.prog.info? 125 = some Tryz.t125 := by kernel_rfl
theorem inf_126 : Tryz.prog.info? 126 = some Tryz.t126 := by kernel_rfl
theorem inf_127 : Tryz.prog.info? 127 = some Tryz.t127 := by kernel_rfl
theorem inf_128 : Tryz.prog.info? 128 = some Tryz.t128 := by kernel_rfl
theorem inf_129 : Tryz.prog.info? 129 = some Tryz.t129 := by kernel_rfl
theorem inf_130 : Tryz.prog.info? 130 = some Tryz.t130 := by kernel_rfl
theorem inf_131 : Tryz.prog.info? 131 = some Tryz.t131 := by kernel_rfl
theorem inf_132 : Tryz.prog.info? 132 = some Tryz.t132 := by kernel_rfl
theorem inf_133 : Tryz.prog.info? 133 = some Tryz.t133 := by kernel_rfl
theorem inf_134 : Tryz.prog.info? 134 = some Tryz.t134 := by kernel_rfl
theorem inf_135 : Tryz.prog.info? 135 = some Tryz.t135 := by kernel_rfl
theorem inf_137 : Tryz.prog.info? 137 = some Tryz.t137 := by kernel_rfl
theorem inf_138 : Tryz.prog.info? 138 = some Tryz.t138 := by kernel_rfl
theorem inf_139 : Tryz.prog.info? 139 = some Tryz.t139 := by kernel_rfl
theorem inf_141 : Tryz.prog.info? 141 = some Tryz.t141 := by kernel_rfl
theorem inf_142 : Tryz.prog.info? 142 = some Tryz.t142 := by kernel_rfl
theorem inf_143 : Tryz.prog.info? 143 = some Tryz.t143 := by kernel_rfl
theorem inf_144 : Tryz.prog.info? 144 = some Tryz.t144 := by kernel_rfl
theorem inf_145 : Tryz.prog.info? 145 = some Tryz.t145 := by kernel_rfl
theorem inf_146 : Tryz.prog.info? 146 = some Tryz.t146 := by kernel_rfl
theorem inf_147 : Tryz.prog.info? 147 = some Tryz.t147 := by kernel_rfl
theorem inf_148 : Tryz.prog.info? 148 = some Tryz.t148 := by kernel_rfl
theorem inf_149 : Tryz.prog.info? 149 = some Tryz.t149 := by kernel_rfl
theorem inf_150 : Tryz.prog.info? 150 = some Tryz.t150 := by kernel_rfl
theorem inf_151 : Tryz.prog.info? 151 = some Tryz.t151 := by kernel_rfl
theorem inf_153 : Tryz.prog.info? 153 = some Tryz.t153 := by kernel_rfl
theorem inf_154 : Tryz.prog.info? 154 = some Tryz.t154 := by kernel_rfl
theorem inf_155 : Tryz.prog.info? 155 = some Tryz.t155 := by kernel_rfl
theorem inf_156 : Tryz.prog.info? 156 = some Tryz.t156 := by kernel_rfl
theorem inf_157 : Tryz.prog.info? 157 = some Tryz.t157 := by kernel_rfl
theorem inf_158 : Tryz.prog.info? 158 = some Tryz.t158 := by kernel_rfl
theorem inf_159 : Tryz.prog.info? 159 = some Tryz.t159 := by kernel_rfl
theorem inf_160 : Tryz.prog.info? 160 = some Tryz.t160 := by kernel_rfl
theorem inf_161 : Tryz.prog.info? 161 = some Tryz.t161 := by kernel_rfl
theorem inf_162 : Tryz.prog.info? 162 = some Tryz.t162 := by kernel_rfl
theorem inf_163 : Tryz.prog.info? 163 = some Tryz.t163 := by kernel_rfl
theorem inf_164 : Tryz.prog.info? 164 = some Tryz.t164 := by kernel_rfl
theorem inf_166 : Tryz.prog.info? 166 = some Tryz.t166 := by kernel_rfl
theorem inf_167 : Tryz.prog.info? 167 = some Tryz.t167 := by kernel_rfl
theorem inf_169 : Tryz.prog.info? 169 = some Tryz.t169 := by kernel_rfl
theorem inf_170 : Tryz.prog.info? 170 = some Tryz.t170 := by kernel_rfl
theorem inf_171 : Tryz.prog.info? 171 = some Tryz.t171 := by kernel_rfl
theorem inf_172 : Tryz.prog.info? 172 = some Tryz.t172 := by kernel_rfl
theorem inf_173 : Tryz.prog.info? 173 = some Tryz.t173 := by kernel_rfl
theorem inf_174 : Tryz.prog.info? 174 = some Tryz.t174 := by kernel_rfl
theorem inf_175 : Tryz.prog.info? 175 = some Tryz.t175 := by kernel_rfl
theorem inf_177 : Tryz.prog.info? 177 = some Tryz.t177 := by kernel_rfl
theorem inf_178 : Tryz.prog.info? 178 = some Tryz.t178 := by kernel_rfl
theorem inf_179 : Tryz.prog.info? 179 = some Tryz.t179 := by kernel_rfl
theorem inf_180 : Tryz.prog.info? 180 = some Tryz.t180 := by kernel_rfl
theorem inf_181 : Tryz.prog.info? 181 = some Tryz.t181 := by kernel_rfl
theorem inf_182 : Tryz.prog.info? 182 = some Tryz.t182 := by kernel_rfl
theorem inf_183 : Tryz.prog.info? 183 = some Tryz.t183 := by kernel_rfl
theorem inf_184 : Tryz.prog.info? 184 = some Tryz.t184 := by kernel_rfl
theorem inf_185 : Tryz.prog.info? 185 = some Tryz.t185 := by kernel_rfl
theorem inf_186 : Tryz.prog.info? 186 = some Tryz.t186 := by kernel_rfl
theorem inf_187 : Tryz.prog.info? 187 = some Tryz.t187 := by kernel_rfl
theorem inf_188 : Tryz.prog.info? 188 = some Tryz.t188 := by kernel_rfl
theorem inf_189 : Tryz.prog.info? 189 = some Tryz.t189 := by kernel_rfl
theorem inf_190 : Tryz.prog.info? 190 = some Tryz.t190 := by kernel_rfl
theorem inf_191 : Tryz.prog.info? 191 = some Tryz.t191 := by kernel_rfl
theorem inf_192 : Tryz.prog.info? 192 = some Tryz.t192 := by kernel_rfl
theorem inf_193 : Tryz.prog.info? 193 = some Tryz.t193 := by kernel_rfl
theorem inf_194 : Tryz.prog.info? 194 = some Tryz.t194 := by kernel_rfl
theorem inf_195 : Tryz.prog.info? 195 = some Tryz.t195 := by kernel_rfl
theorem sz_1 : SizeIs Tryz.prog 1 1 := sizeIs_of inf_1
theorem sz_2 : SizeIs Tryz.prog 2 1 := sizeIs_of inf_2
theorem sz_3 : SizeIs Tryz.prog 3 1 := sizeIs_of inf_3
theorem sz_4 : SizeIs Tryz.prog 4 1 := sizeIs_of inf_4
theorem sz_5 : SizeIs Tryz.prog 5 1 := sizeIs_of inf_5
theorem sz_6 : SizeIs Tryz.prog 6 1 := sizeIs_of inf_6
theorem sz_7 : SizeIs Tryz.prog 7 4 := sizeIs_of inf_7
theorem sz_8 : SizeIs Tryz.prog 8 4 := sizeIs_of inf_8
theorem sz_9 : SizeIs Tryz.prog 9 1 := sizeIs_of inf_9
theorem sz_10 : SizeIs Tryz.prog 10 1 := sizeIs_of inf_10
theorem sz_11 : SizeIs Tryz.prog 11 1 := sizeIs_of inf_11
theorem sz_12 : SizeIs Tryz.prog 12 1 := sizeIs_of inf_12
theorem sz_13 : SizeIs Tryz.prog 13 2 := sizeIs_of inf_13
theorem sz_14 : SizeIs Tryz.prog 14 2 := sizeIs_of inf_14
theorem sz_15 : SizeIs Tryz.prog 15 1 := sizeIs_of inf_15
theorem sz_16 : SizeIs Tryz.prog 16 1 := sizeIs_of inf_16
theorem sz_17 : SizeIs Tryz.prog 17 1 := sizeIs_of inf_17
theorem sz_18 : SizeIs Tryz.prog 18 1 := sizeIs_of inf_18
theorem sz_19 : SizeIs Tryz.prog 19 1 := sizeIs_of inf_19
theorem sz_20 : SizeIs Tryz.prog 20 1 := sizeIs_of inf_20
theorem sz_21 : SizeIs Tryz.prog 21 1 := sizeIs_of inf_21
theorem sz_22 : SizeIs Tryz.prog 22 1 := sizeIs_of inf_22
theorem sz_23 : SizeIs Tryz.prog 23 22 := sizeIs_of inf_23
theorem sz_24 : SizeIs Tryz.prog 24 22 := sizeIs_of inf_24
theorem sz_25 : SizeIs Tryz.prog 25 1 := sizeIs_of inf_25
theorem sz_26 : SizeIs Tryz.prog 26 1 := sizeIs_of inf_26
theorem sz_27 : SizeIs Tryz.prog 27 1 := sizeIs_of inf_27
theorem sz_28 : SizeIs Tryz.prog 28 1 := sizeIs_of inf_28
theorem sz_29 : SizeIs Tryz.prog 29 1 := sizeIs_of inf_29
theorem sz_30 : SizeIs Tryz.prog 30 1 := sizeIs_of inf_30
theorem sz_32 : SizeIs Tryz.prog 32 1 := sizeIs_of inf_32
theorem sz_33 : SizeIs Tryz.prog 33 1 := sizeIs_of inf_33
theorem sz_35 : SizeIs Tryz.prog 35 1 := sizeIs_of inf_35
theorem sz_36 : SizeIs Tryz.prog 36 1 := sizeIs_of inf_36
theorem sz_37 : SizeIs Tryz.prog 37 1 := sizeIs_of inf_37
theorem sz_38 : SizeIs Tryz.prog 38 1 := sizeIs_of inf_38
theorem sz_39 : SizeIs Tryz.prog 39 1 := sizeIs_of inf_39
theorem sz_40 : SizeIs Tryz.prog 40 1 := sizeIs_of inf_40
theorem sz_41 : SizeIs Tryz.prog 41 1 := sizeIs_of inf_41
theorem sz_42 : SizeIs Tryz.prog 42 11 := sizeIs_of inf_42
theorem sz_43 : SizeIs Tryz.prog 43 11 := sizeIs_of inf_43
theorem sz_44 : SizeIs Tryz.prog 44 12 := sizeIs_of inf_44
theorem sz_45 : SizeIs Tryz.prog 45 12 := sizeIs_of inf_45
theorem sz_46 : SizeIs Tryz.prog 46 1 := sizeIs_of inf_46
theorem sz_47 : SizeIs Tryz.prog 47 1 := sizeIs_of inf_47
theorem sz_48 : SizeIs Tryz.prog 48 1 := sizeIs_of inf_48
theorem sz_49 : SizeIs Tryz.prog 49 11 := sizeIs_of inf_49
theorem sz_50 : SizeIs Tryz.prog 50 11 := sizeIs_of inf_50
theorem sz_51 : SizeIs Tryz.prog 51 1 := sizeIs_of inf_51
theorem sz_52 : SizeIs Tryz.prog 52 1 := sizeIs_of inf_52
theorem sz_53 : SizeIs Tryz.prog 53 1 := sizeIs_of inf_53
theorem sz_54 : SizeIs Tryz.prog 54 1 := sizeIs_of inf_54
theorem sz_55 : SizeIs Tryz.prog 55 1 := sizeIs_of inf_55
theorem sz_56 : SizeIs Tryz.prog 56 1 := sizeIs_of inf_56
theorem sz_57 : SizeIs Tryz.prog 57 2 := sizeIs_of inf_57
theorem sz_58 : SizeIs Tryz.prog 58 2 := sizeIs_of inf_58
theorem sz_59 : SizeIs Tryz.prog 59 1 := sizeIs_of inf_59
theorem sz_60 : SizeIs Tryz.prog 60 3 := sizeIs_of inf_60
theorem sz_61 : SizeIs Tryz.prog 61 3 := sizeIs_of inf_61
theorem sz_62 : SizeIs Tryz.prog 62 1 := sizeIs_of inf_62
theorem sz_63 : SizeIs Tryz.prog 63 25 := sizeIs_of inf_63
theorem sz_64 : SizeIs Tryz.prog 64 25 := sizeIs_of inf_64
theorem sz_65 : SizeIs Tryz.prog 65 1 := sizeIs_of inf_65
theorem sz_66 : SizeIs Tryz.prog 66 1 := sizeIs_of inf_66
theorem sz_67 : SizeIs Tryz.prog 67 1 := sizeIs_of inf_67
theorem sz_68 : SizeIs Tryz.prog 68 1 := sizeIs_of inf_68
theorem sz_69 : SizeIs Tryz.prog 69 1 := sizeIs_of inf_69
theorem sz_70 : SizeIs Tryz.prog 70 1 := sizeIs_of inf_70
theorem sz_71 : SizeIs Tryz.prog 71 1 := sizeIs_of inf_71
theorem sz_72 : SizeIs Tryz.prog 72 1 := sizeIs_of inf_72
theorem sz_73 : SizeIs Tryz.prog 73 1 := sizeIs_of inf_73
theorem sz_74 : SizeIs Tryz.prog 74 1 := sizeIs_of inf_74
theorem sz_75 : SizeIs Tryz.prog 75 1 := sizeIs_of inf_75
theorem sz_76 : SizeIs Tryz.prog 76 1 := sizeIs_of inf_76
theorem sz_77 : SizeIs Tryz.prog 77 1 := sizeIs_of inf_77
theorem sz_78 : SizeIs Tryz.prog 78 1 := sizeIs_of inf_78
theorem sz_79 : SizeIs Tryz.prog 79 1 := sizeIs_of inf_79
theorem sz_80 : SizeIs Tryz.prog 80 1 := sizeIs_of inf_80
theorem sz_81 : SizeIs Tryz.prog 81 12 := sizeIs_of inf_81
theorem sz_82 : SizeIs Tryz.prog 82 12 := sizeIs_of inf_82
theorem sz_84 : SizeIs Tryz.prog 84 1 := sizeIs_of inf_84
theorem sz_85 : SizeIs Tryz.prog 85 1 := sizeIs_of inf_85
theorem sz_86 : SizeIs Tryz.prog 86 1 := sizeIs_of inf_86
theorem sz_87 : SizeIs Tryz.prog 87 1 := sizeIs_of inf_87
theorem sz_88 : SizeIs Tryz.prog 88 1 := sizeIs_of inf_88
theorem sz_89 : SizeIs Tryz.prog 89 1 := sizeIs_of inf_89
theorem sz_90 : SizeIs Tryz.prog 90 1 := sizeIs_of inf_90
theorem sz_91 : SizeIs Tryz.prog 91 2 := sizeIs_of inf_91
theorem sz_92 : SizeIs Tryz.prog 92 1 := sizeIs_of inf_92
theorem sz_93 : SizeIs Tryz.prog 93 1 := sizeIs_of inf_93
theorem sz_94 : SizeIs Tryz.prog 94 1 := sizeIs_of inf_94
theorem sz_95 : SizeIs Tryz.prog 95 1 := sizeIs_of inf_95
theorem sz_96 : SizeIs Tryz.prog 96 1 := sizeIs_of inf_96
theorem sz_97 : SizeIs Tryz.prog 97 1 := sizeIs_of inf_97
theorem sz_98 : SizeIs Tryz.prog 98 1 := sizeIs_of inf_98
theorem sz_99 : SizeIs Tryz.prog 99 1 := sizeIs_of inf_99
theorem sz_100 : SizeIs Tryz.prog 100 1 := sizeIs_of inf_100
theorem sz_101 : SizeIs Tryz.prog 101 1 := sizeIs_of inf_101
theorem sz_102 : SizeIs Tryz.prog 102 1 := sizeIs_of inf_102
theorem sz_103 : SizeIs Tryz.prog 103 1 := sizeIs_of inf_103
theorem sz_104 : SizeIs Tryz.prog 104 1 := sizeIs_of inf_104
theorem sz_105 : SizeIs Tryz.prog 105 1 := sizeIs_of inf_105
theorem sz_106 : SizeIs Tryz.prog 106 1 := sizeIs_of inf_106
theorem sz_107 : SizeIs Tryz.prog 107 1 := sizeIs_of inf_107
theorem sz_108 : SizeIs Tryz.prog 108 1 := sizeIs_of inf_108
theorem sz_109 : SizeIs Tryz.prog 109 1 := sizeIs_of inf_109
theorem sz_110 : SizeIs Tryz.prog 110 1 := sizeIs_of inf_110
theorem sz_111 : SizeIs Tryz.prog 111 1 := sizeIs_of inf_111
theorem sz_112 : SizeIs Tryz.prog 112 1 := sizeIs_of inf_112
theorem sz_113 : SizeIs Tryz.prog 113 1 := sizeIs_of inf_113
theorem sz_114 : SizeIs Tryz.prog 114 1 := sizeIs_of inf_114
theorem sz_115 : SizeIs Tryz.prog 115 1 := sizeIs_of inf_115
theorem sz_116 : SizeIs Tryz.prog 116 1 := sizeIs_of inf_116
theorem sz_117 : SizeIs Tryz.prog 117 1 := sizeIs_of inf_117
theorem sz_118 : SizeIs Tryz.prog 118 1 := sizeIs_of inf_118
theorem sz_119 : SizeIs Tryz.prog 119 1 := sizeIs_of inf_119
theorem sz_120 : SizeIs Tryz.prog 120 1 := sizeIs_of inf_120
theorem sz_121 : SizeIs Tryz.prog 121 1 := sizeIs_of inf_121
theorem sz_122 : SizeIs Tryz.prog 122 1 := sizeIs_of inf_122
theorem sz_123 : SizeIs Tryz.prog 123 1 := sizeIs_of inf_123
theorem sz_124 : SizeIs Tryz.prog 124 1 := sizeIs_of inf_124
theorem sz_125 : SizeIs Tryz.prog 125 1 := sizeIs_of inf_125
theorem sz_126 : SizeIs Tryz.prog 126 1 := sizeIs_of inf_126
theorem sz_127 : SizeIs Tryz.prog 127 1 := sizeIs_of inf_127
theorem sz_128 : SizeIs Tryz.prog 128 1 := sizeIs_of inf_128
theorem sz_129 : SizeIs Tryz.prog 129 1 := sizeIs_of inf_129
theorem sz_130 : SizeIs Tryz.prog 130 1 := sizeIs_of inf_130
theorem sz_131 : SizeIs Tryz.prog 131 1 := sizeIs_of inf_131
theorem sz_132 : SizeIs Tryz.prog 132 1 := sizeIs_of inf_132
theorem sz_133 : SizeIs Tryz.prog 133 1 := sizeIs_of inf_133
theorem sz_134 : SizeIs Tryz.prog 134 1 := sizeIs_of inf_134
theorem sz_135 : SizeIs Tryz.prog 135 1 := sizeIs_of inf_135
theorem sz_137 : SizeIs Tryz.prog 137 1 := sizeIs_of inf_137
theorem sz_138 : SizeIs Tryz.prog 138 1 := sizeIs_of inf_138
theorem sz_139 : SizeIs Tryz.prog 139 1 := sizeIs_of inf_139
theorem sz_141 : SizeIs Tryz.prog 141 1 := sizeIs_of inf_141
theorem sz_142 : SizeIs Tryz.prog 142 1 := sizeIs_of inf_142
theorem sz_143 : SizeIs Tryz.prog 143 1 := sizeIs_of inf_143
theorem sz_144 : SizeIs Tryz.prog 144 1 := sizeIs_of inf_144
theorem sz_145 : SizeIs Tryz.prog 145 1 := sizeIs_of inf_145
theorem sz_146 : SizeIs Tryz.prog 146 1 := sizeIs_of inf_146
theorem sz_147 : SizeIs Tryz.prog 147 1 := sizeIs_of inf_147
theorem sz_148 : SizeIs Tryz.prog 148 1 := sizeIs_of inf_148
theorem sz_149 : SizeIs Tryz.prog 149 1 := sizeIs_of inf_149
theorem sz_150 : SizeIs Tryz.prog 150 1 := sizeIs_of inf_150
theorem sz_151 : SizeIs Tryz.prog 151 1 := sizeIs_of inf_151
theorem sz_153 : SizeIs Tryz.prog 153 1 := sizeIs_of inf_153
theorem sz_154 : SizeIs Tryz.prog 154 1 := sizeIs_of inf_154
theorem sz_155 : SizeIs Tryz.prog 155 1 := sizeIs_of inf_155
theorem sz_156 : SizeIs Tryz.prog 156 1 := sizeIs_of inf_156
theorem sz_157 : SizeIs Tryz.prog 157 1 := sizeIs_of inf_157
theorem sz_158 : SizeIs Tryz.prog 158 1 := sizeIs_of inf_158
theorem sz_159 : SizeIs Tryz.prog 159 1 := sizeIs_of inf_159
theorem sz_160 : SizeIs Tryz.prog 160 1 := sizeIs_of inf_160
theorem sz_161 : SizeIs Tryz.prog 161 1 := sizeIs_of inf_161
theorem sz_162 : SizeIs Tryz.prog 162 1 := sizeIs_of inf_162
theorem sz_163 : SizeIs Tryz.prog 163 24 := sizeIs_of inf_163
theorem sz_164 : SizeIs Tryz.prog 164 1 := sizeIs_of inf_164
theorem sz_166 : SizeIs Tryz.prog 166 1 := sizeIs_of inf_166
theorem sz_167 : SizeIs Tryz.prog 167 1 := sizeIs_of inf_167
theorem sz_169 : SizeIs Tryz.prog 169 1 := sizeIs_of inf_169
theorem sz_170 : SizeIs Tryz.prog 170 1 := sizeIs_of inf_170
theorem sz_171 : SizeIs Tryz.prog 171 1 := sizeIs_of inf_171
theorem sz_172 : SizeIs Tryz.prog 172 1 := sizeIs_of inf_172
theorem sz_173 : SizeIs Tryz.prog 173 20 := sizeIs_of inf_173
theorem sz_174 : SizeIs Tryz.prog 174 65 := sizeIs_of inf_174
theorem sz_175 : SizeIs Tryz.prog 175 1 := sizeIs_of inf_175
theorem sz_177 : SizeIs Tryz.prog 177 1 := sizeIs_of inf_177
theorem sz_178 : SizeIs Tryz.prog 178 32 := sizeIs_of inf_178
theorem sz_179 : SizeIs Tryz.prog 179 64 := sizeIs_of inf_179
theorem sz_180 : SizeIs Tryz.prog 180 1 := sizeIs_of inf_180
theorem sz_181 : SizeIs Tryz.prog 181 4 := sizeIs_of inf_181
theorem sz_182 : SizeIs Tryz.prog 182 4 := sizeIs_of inf_182
theorem sz_183 : SizeIs Tryz.prog 183 0 := sizeIs_of inf_183
theorem sz_184 : SizeIs Tryz.prog 184 0 := sizeIs_of inf_184
theorem sz_185 : SizeIs Tryz.prog 185 0 := sizeIs_of inf_185
theorem sz_186 : SizeIs Tryz.prog 186 1 := sizeIs_of inf_186
theorem sz_187 : SizeIs Tryz.prog 187 1 := sizeIs_of inf_187
theorem sz_188 : SizeIs Tryz.prog 188 1 := sizeIs_of inf_188
theorem sz_189 : SizeIs Tryz.prog 189 1 := sizeIs_of inf_189
theorem sz_190 : SizeIs Tryz.prog 190 1 := sizeIs_of inf_190
theorem sz_191 : SizeIs Tryz.prog 191 1 := sizeIs_of inf_191
theorem sz_192 : SizeIs Tryz.prog 192 1 := sizeIs_of inf_192
theorem sz_193 : SizeIs Tryz.prog 193 11 := sizeIs_of inf_193
theorem sz_194 : SizeIs Tryz.prog 194 11 := sizeIs_of inf_194
theorem sz_195 : SizeIs Tryz.prog 195 1 := sizeIs_of inf_195
theorem tok_1 : TOk1 Tryz.prog 1 ⟨1, false, 8, [], Value.nilFunc, [0], .other⟩ := ⟨⟨Tryz.t1, inf_1, rfl, rfl, rfl⟩, ⟨_, Tryz.underlying1, rfl, trivial⟩, rfl, rfl, fun h => absurd h (by decide)⟩
theorem tok_2 : TOk1 Tryz.prog 2 ⟨1, false, 8, [], Value.int IntKind.i64 0, [0], .int .i64⟩ := ⟨⟨Tryz.t2, inf_2, rfl, rfl, rfl⟩, ⟨_, Tryz.underlying2, rfl, rfl⟩, rfl, rfl, fun h => absurd h (by decide)⟩
theorem tok_3 : TOk1 Tryz.prog 3 ⟨1, false, 8, [], Value.int IntKind.i64 0, [0], .int .i64⟩ := ⟨⟨Tryz.t3, inf_3, rfl, rfl, rfl⟩, ⟨_, Tryz.underlying3, rfl, rfl⟩, rfl, rfl, fun h => absurd h (by decide)⟩
theorem tok_4 : TOk1 Tryz.prog 4 ⟨1, false, 1, [], Value.bool false, [0], .bool⟩ := ⟨⟨Tryz.t4, inf_4, rfl, rfl, rfl⟩, ⟨_, Tryz.underlying4, rfl, rfl⟩, rfl, rfl, fun h => absurd h (by decide)⟩
theorem tok_5 : TOk1 Tryz.prog 5 ⟨1, false, 1, [], Value.int IntKind.u8 0, [0], .int .u8⟩ := ⟨⟨Tryz.t5, inf_5, rfl, rfl, rfl⟩, ⟨_, Tryz.underlying5, rfl, rfl⟩, rfl, rfl, fun h => absurd h (by decide)⟩
theorem tok_6 : TOk1 Tryz.prog 6 ⟨1, false, 1, [], Value.int IntKind.u8 0, [0], .int .u8⟩ := ⟨⟨Tryz.t6, inf_6, rfl, rfl, rfl⟩, ⟨_, Tryz.underlying6, rfl, rfl⟩, rfl, rfl, fun h => absurd h (by decide)⟩
theorem tok_7 : TOk1 Tryz.prog 7 ⟨4, true, 24, [], Value.agg #[Value.int IntKind.i64 0, Value.int IntKind.i64 0, Value.bool false, Value.int IntKind.u8 0], [0, 0, 0, 0], .struct [(0, 2, 1), (1, 3, 1), (2, 4, 1), (3, 6, 1)]⟩ := ⟨⟨Tryz.t7, inf_7, rfl, rfl, rfl⟩, ⟨_, Tryz.underlying7, rfl, ⟨_, rfl, rfl, List.forall_mem_cons.2 ⟨sz_2, List.forall_mem_cons.2 ⟨sz_3, List.forall_mem_cons.2 ⟨sz_4, List.forall_mem_cons.2 ⟨sz_6, fun _ h => by cases h⟩⟩⟩⟩⟩⟩, rfl, rfl, fun h => absurd h (by decide)⟩
theorem tok_8 : TOk1 Tryz.prog 8 ⟨4, true, 24, [], Value.agg #[Value.int IntKind.i64 0, Value.int IntKind.i64 0, Value.bool false, Value.int IntKind.u8 0], [0, 0, 0, 0], .struct [(0, 2, 1), (1, 3, 1), (2, 4, 1), (3, 6, 1)]⟩ := ⟨⟨Tryz.t8, inf_8, rfl, rfl, rfl⟩, ⟨_, Tryz.underlying8, rfl, ⟨_, rfl, rfl, List.forall_mem_cons.2 ⟨sz_2, List.forall_mem_cons.2 ⟨sz_3, List.forall_mem_cons.2 ⟨sz_4, List.forall_mem_cons.2 ⟨sz_6, fun _ h => by cases h⟩⟩⟩⟩⟩⟩, rfl, rfl, fun h => absurd h (by decide)⟩
theorem tok_9 : TOk1 Tryz.prog 9 ⟨1, false, 16, [], Value.string { data := #[] }, [0], .str⟩ := ⟨⟨Tryz.t9, inf_9, rfl, rfl, rfl⟩, ⟨_, Tryz.underlying9, rfl, rfl⟩, rfl, rfl, fun h => absurd h (by decide)⟩
theorem tok_10 : TOk1 Tryz.prog 10 ⟨1, false, 16, [], Value.string { data := #[] }, [0], .str⟩ := ⟨⟨Tryz.t10, inf_10, rfl, rfl, rfl⟩, ⟨_, Tryz.underlying10, rfl, rfl⟩, rfl, rfl, fun h => absurd h (by decide)⟩
theorem tok_11 : TOk1 Tryz.prog 11 ⟨1, false, 16, [], Value.string { data := #[] }, [0], .str⟩ := ⟨⟨Tryz.t11, inf_11, rfl, rfl, rfl⟩, ⟨_, Tryz.underlying11, rfl, rfl⟩, rfl, rfl, fun h => absurd h (by decide)⟩
theorem tok_12 : TOk1 Tryz.prog 12 ⟨1, false, 8, [], Value.int IntKind.u64 0, [0], .int .u64⟩ := ⟨⟨Tryz.t12, inf_12, rfl, rfl, rfl⟩, ⟨_, Tryz.underlying12, rfl, rfl⟩, rfl, rfl, fun h => absurd h (by decide)⟩
theorem tok_13 : TOk1 Tryz.prog 13 ⟨2, true, 24, [], Value.agg #[Value.string { data := #[] }, Value.int IntKind.u64 0], [0, 0], .struct [(0, 9, 1), (1, 12, 1)]⟩ := ⟨⟨Tryz.t13, inf_13, rfl, rfl, rfl⟩, ⟨_, Tryz.underlying13, rfl, ⟨_, rfl, rfl, List.forall_mem_cons.2 ⟨sz_9, List.forall_mem_cons.2 ⟨sz_12, fun _ h => by cases h⟩⟩⟩⟩, rfl, rfl, fun h => absurd h (by decide)⟩
theorem tok_14 : TOk1 Tryz.prog 14 ⟨2, true, 24, [], Value.agg #[Value.string { data := #[] }, Value.int IntKind.u64 0], [0, 0], .struct [(0, 9, 1), (1, 12, 1)]⟩ := ⟨⟨Tryz.t14, inf_14, rfl, rfl, rfl⟩, ⟨_, Tryz.underlying14, rfl, ⟨_, rfl, rfl, List.forall_mem_cons.2 ⟨sz_9, List.forall_mem_cons.2 ⟨sz_12, fun _ h => by cases h⟩⟩⟩⟩, rfl, rfl, fun h => absurd h (by decide)⟩
theorem tok_15 : TOk1 Tryz.prog 15 ⟨1, false, 8, [], Value.pointer none, [0], .other⟩ := ⟨⟨Tryz.t15, inf_15, rfl, rfl, rfl⟩, ⟨_, Tryz.underlying15, rfl, trivial⟩, rfl, rfl, fun h => absurd h (by decide)⟩
theorem tok_16 : TOk1 Tryz.prog 16 ⟨1, false, 8, [], Value.pointer none, [0], .other⟩ := ⟨⟨Tryz.t16, inf_16, rfl, rfl, rfl⟩, ⟨_, Tryz.underlying16, rfl, trivial⟩, rfl, rfl, fun h => absurd h (by decide)⟩
theorem tok_17 : TOk1 Tryz.prog 17 ⟨1, false, 8, [], Value.pointer none, [0], .other⟩ := ⟨⟨Tryz.t17, inf_17, rfl, rfl, rfl⟩, ⟨_, Tryz.underlying17, rfl, trivial⟩, rfl, rfl, fun h => absurd h (by decide)⟩
theorem tok_18 : TOk1 Tryz.prog 18 ⟨1, true, 8, [], Value.agg #[Value.pointer none], [0], .struct [(0, 17, 1)]⟩ := ⟨⟨Tryz.t18, inf_18, rfl, rfl, rfl⟩, ⟨_, Tryz.underlying18, rfl, ⟨_, rfl, rfl, List.forall_mem_cons.2 ⟨sz_17, fun _ h => by cases h⟩⟩⟩, rfl, rfl, fun h => absurd h (by decide)⟩
theorem tok_19 : TOk1 Tryz.prog 19 ⟨1, true, 8, [], Value.agg #[Value.pointer none], [0], .struct [(0, 17, 1)]⟩ := ⟨⟨Tryz.t19, inf_19, rfl, rfl, rfl⟩, ⟨_, Tryz.underlying19, rfl, ⟨_, rfl, rfl, List.forall_mem_cons.2 ⟨sz_17, fun _ h => by cases h⟩⟩⟩, rfl, rfl, fun h => absurd h (by decide)⟩
theorem tok_20 : TOk1 Tryz.prog 20 ⟨1, false, 16, [], Value.nilIface, [0], .other⟩ := ⟨⟨Tryz.t20, inf_20, rfl, rfl, rfl⟩, ⟨_, Tryz.underlying20, rfl, trivial⟩, rfl, rfl, fun h => absurd h (by decide)⟩
theorem tok_21 : TOk1 Tryz.prog 21 ⟨1, false, 4, [], Value.int IntKind.i32 0, [0], .int .i32⟩ := ⟨⟨Tryz.t21, inf_21, rfl, rfl, rfl⟩, ⟨_, Tryz.underlying21, rfl, rfl⟩, rfl, rfl, fun h => absurd h (by decide)⟩
theorem tok_22 : TOk1 Tryz.prog 22 ⟨1, false, 24, [], Value.slice none 0 0, [1], .slice 9 1⟩ := ⟨⟨Tryz.t22, inf_22, rfl, rfl, rfl⟩, ⟨_, Tryz.underlying22, rfl, ⟨rfl, sz_9⟩⟩, rfl, rfl, fun h => absurd h (by decide)⟩
theorem tok_23 : TOk1 Tryz.prog 23 ⟨22, true, 192, [], Value.agg #[Value.string { data := #[] }, Value.int IntKind.i64 0, Value.int IntKind.i64 0, Value.int IntKind.i64 0, Value.bool false, Value.int IntKind.i64 0, Value.bool false, Value.bool false, Value.int IntKind.i64 0, Value.int IntKind.i64 0, Value.int IntKind.i64 0, Value.int IntKind.i64 0, Value.slice none 0 0, Value.int IntKind.i64 0, Value.int IntKind.i64 0, Value.int IntKind.i64 0, Value.int IntKind.i64 0, Value.bool false, Value.int IntKind.i64 0, Value.int IntKind.i64 0, Value.int IntKind.i64 0, Value.int IntKind.i64 0], [0, 0, 0, 0, 0, 0, 0, 0, 0, 0, 0, 0, 1, 0, 0, 0, 0, 0, 0, 0, 0, 0], .struct [(0, 9, 1), (1, 3, 1), (2, 3, 1), (3, 3, 1), (4, 4, 1), (5, 3, 1), (6, 4, 1), (7, 4, 1), (8, 3, 1), (9, 3, 1), (10, 3, 1), (11, 3, 1), (12, 22, 1), (13, 3, 1), (14, 3, 1), (15, 3, 1), (16, 3, 1), (17, 4, 1), (18, 3, 1), (19, 3, 1), (20, 3, 1), (21, 3, 1)]⟩ := ⟨⟨Tryz.t23, inf_23, rfl, rfl, rfl⟩, ⟨_, Tryz.underlying23, rfl, ⟨_, rfl, rfl, List.forall_mem_cons.2 ⟨sz_9, List.forall_mem_cons.2 ⟨sz_3, List.forall_mem_cons.2 ⟨sz_3, List.forall_mem_cons.2 ⟨sz_3, List.forall_mem_cons.2 ⟨sz_4, List.forall_mem_cons.2 ⟨sz_3, List.forall_mem_cons.2 ⟨sz_4, List.forall_mem_cons.2 ⟨sz_4, List.forall_mem_cons.2 ⟨sz_3, List.forall_mem_cons.2 ⟨sz_3, List.forall_mem_cons.2 ⟨sz_3, List.forall_mem_cons.2 ⟨sz_3, List.forall_mem_cons.2 ⟨sz_22, List.forall_mem_cons.2 ⟨sz_3, List.forall_mem_cons.2 ⟨sz_3, List.forall_mem_cons.2 ⟨sz_3, List.forall_mem_cons.2 ⟨sz_3, List.forall_mem_cons.2 ⟨sz_4, List.forall_mem_cons.2 ⟨sz_3, List.forall_mem_cons.2 ⟨sz_3, List.forall_mem_cons.2 ⟨sz_3, List.forall_mem_cons.2 ⟨sz_3, fun _ h => by cases h⟩⟩⟩⟩⟩⟩⟩⟩⟩⟩⟩⟩⟩⟩⟩⟩⟩⟩⟩⟩⟩⟩⟩⟩, rfl, rfl, fun h => absurd h (by decide)⟩
theorem tok_24 : TOk1 Tryz.prog 24 ⟨22, true, 192, [], Value.agg #[Value.string { data := #[] }, Value.int IntKind.i64 0, Value.int IntKind.i64 0, Value.int IntKind.i64 0, Value.bool false, Value.int IntKind.i64 0, Value.bool false, Value.bool false, Value.int IntKind.i64 0, Value.int IntKind.i64 0, Value.int IntKind.i64 0, Value.int IntKind.i64 0, Value.slice none 0 0, Value.int IntKind.i64 0, Value.int IntKind.i64 0, Value.int IntKind.i64 0, Value.int IntKind.i64 0, Value.bool false, Value.int IntKind.i64 0, Value.int IntKind.i64 0, Value.int IntKind.i64 0, Value.int IntKind.i64 0], [0, 0, 0, 0, 0, 0, 0, 0, 0, 0, 0, 0, 1, 0, 0, 0, 0, 0, 0, 0, 0, 0], .struct [(0, 9, 1), (1, 3, 1), (2, 3, 1), (3, 3, 1), (4, 4, 1), (5, 3, 1), (6, 4, 1), (7, 4, 1), (8, 3, 1), (9, 3, 1), (10, 3, 1), (11, 3, 1), (12, 22, 1), (13, 3, 1), (14, 3, 1), (15, 3, 1), (16, 3, 1), (17, 4, 1), (18, 3, 1), (19, 3, 1), (20, 3, 1), (21, 3, 1)]⟩ := ⟨⟨Tryz.t24, inf_24, rfl, rfl, rfl⟩, ⟨_, Tryz.underlying24, rfl, ⟨_, rfl, rfl, List.forall_mem_cons.2 ⟨sz_9, List.forall_mem_cons.2 ⟨sz_3, List.forall_mem_cons.2 ⟨sz_3, List.forall_mem_cons.2 ⟨sz_3, List.forall_mem_cons.2 ⟨sz_4, List.forall_mem_cons.2 ⟨sz_3, List.forall_mem_cons.2 ⟨sz_4, List.forall_mem_cons.2 ⟨sz_4, List.forall_mem_cons.2 ⟨sz_3, List.forall_mem_cons.2 ⟨sz_3, List.forall_mem_cons.2 ⟨sz_3, List.forall_mem_cons.2 ⟨sz_3, List.forall_mem_cons.2 ⟨sz_22, List.forall_mem_cons.2 ⟨sz_3, List.forall_mem_cons.2 ⟨sz_3, List.forall_mem_cons.2 ⟨sz_3, List.forall_mem_cons.2 ⟨sz_3, List.forall_mem_cons.2 ⟨sz_4, List.forall_mem_cons.2 ⟨sz_3, List.forall_mem_cons.2 ⟨sz_3, List.forall_mem_cons.2 ⟨sz_3, List.forall_mem_cons.2 ⟨sz_3, fun _ h => by cases h⟩⟩⟩⟩⟩⟩⟩⟩⟩⟩⟩⟩⟩⟩⟩⟩⟩⟩⟩⟩⟩⟩⟩⟩, rfl, rfl, fun h => absurd h (by decide)⟩
theorem tok_25 : TOk1 Tryz.prog 25 ⟨1, false, 24, [], Value.slice none 0 0, [2], .slice 58 2⟩ := ⟨⟨Tryz.t25, inf_25, rfl, rfl, rfl⟩, ⟨_, Tryz.underlying25, rfl, ⟨rfl, sz_58⟩⟩, rfl, rfl, fun h => absurd h (by decide)⟩
theorem tok_26 : TOk1 Tryz.prog 26 ⟨1, false, 24, [], Value.slice none 0 0, [12], .slice 45 12⟩ := ⟨⟨Tryz.t26, inf_26, rfl, rfl, rfl⟩, ⟨_, Tryz.underlying26, rfl, ⟨rfl, sz_45⟩⟩, rfl, rfl, fun h => absurd h (by decide)⟩
theorem tok_27 : TOk1 Tryz.prog 27 ⟨1, false, 24, [], Value.slice none 0 0, [1], .slice 3 1⟩ := ⟨⟨Tryz.t27, inf_27, rfl, rfl, rfl⟩, ⟨_, Tryz.underlying27, rfl, ⟨rfl, sz_3⟩⟩, rfl, rfl, fun h => absurd h (by decide)⟩
theorem tok_28 : TOk1 Tryz.prog 28 ⟨1, false, 8, [], Value.nilFunc, [0], .other⟩ := ⟨⟨Tryz.t28, inf_28, rfl, rfl, rfl⟩, ⟨_, Tryz.underlying28, rfl, trivial⟩, rfl, rfl, fun h => absurd h (by decide)⟩
theorem tok_29 : TOk1 Tryz.prog 29 ⟨1, false, 8, [], Value.nilFunc, [0], .other⟩ := ⟨⟨Tryz.t29, inf_29, rfl, rfl, rfl⟩, ⟨_, Tryz.underlying29, rfl, trivial⟩, rfl, rfl, fun h => absurd h (by decide)⟩
theorem tok_30 : TOk1 Tryz.prog 30 ⟨1, false, 8, [], Value.int IntKind.i64 0, [0], .int .i64⟩ := ⟨⟨Tryz.t30, inf_30, rfl, rfl, rfl⟩, ⟨_, Tryz.underlying30, rfl, rfl⟩, rfl, rfl, fun h => absurd h (by decide)⟩
theorem tok_32 : TOk1 Tryz.prog 32 ⟨1, false, 8, [], Value.nilFunc, [0], .other⟩ := ⟨⟨Tryz.t32, inf_32, rfl, rfl, rfl⟩, ⟨_, Tryz.underlying32, rfl, trivial⟩, rfl, rfl, fun h => absurd h (by decide)⟩
theorem tok_33 : TOk1 Tryz.prog 33 ⟨1, false, 24, [], Value.slice none 0 0, [11], .slice 50 11⟩ := ⟨⟨Tryz.t33, inf_33, rfl, rfl, rfl⟩, ⟨_, Tryz.underlying33, rfl, ⟨rfl, sz_50⟩⟩, rfl, rfl, fun h => absurd h (by decide)⟩
theorem tok_35 : TOk1 Tryz.prog 35 ⟨1, false, 8, [], Value.nilFunc, [0], .other⟩ := ⟨⟨Tryz.t35, inf_35, rfl, rfl, rfl⟩, ⟨_, Tryz.underlying35, rfl, trivial⟩, rfl, rfl, fun h => absurd h (by decide)⟩
theorem tok_36 : TOk1 Tryz.prog 36 ⟨1, false, 8, [], Value.nilFunc, [0], .other⟩ := ⟨⟨Tryz.t36, inf_36, rfl, rfl, rfl⟩, ⟨_, Tryz.underlying36, rfl, trivial⟩, rfl, rfl, fun h => absurd h (by decide)⟩
theorem tok_37 : TOk1 Tryz.prog 37 ⟨1, false, 8, [], Value.nilFunc, [0], .other⟩ := ⟨⟨Tryz.t37, inf_37, rfl, rfl, rfl⟩, ⟨_, Tryz.underlying37, rfl, trivial⟩, rfl, rfl, fun h => absurd h (by decide)⟩
theorem tok_38 : TOk1 Tryz.prog 38 ⟨1, false, 8, [], Value.nilFunc, [0], .other⟩ := ⟨⟨Tryz.t38, inf_38, rfl, rfl, rfl⟩, ⟨_, Tryz.underlying38, rfl, trivial⟩, rfl, rfl, fun h => absurd h (by decide)⟩
theorem tok_39 : TOk1 Tryz.prog 39 ⟨1, false, 24, [], Value.slice none 0 0, [11], .slice 43 11⟩ := ⟨⟨Tryz.t39, inf_39, rfl, rfl, rfl⟩, ⟨_, Tryz.underlying39, rfl, ⟨rfl, sz_43⟩⟩, rfl, rfl, fun h => absurd h (by decide)⟩
theorem tok_40 : TOk1 Tryz.prog 40 ⟨1, false, 8, [], Value.nilFunc, [0], .other⟩ := ⟨⟨Tryz.t40, inf_40, rfl, rfl, rfl⟩, ⟨_, Tryz.underlying40, rfl, trivial⟩, rfl, rfl, fun h => absurd h (by decide)⟩
theorem tok_41 : TOk1 Tryz.prog 41 ⟨1, false, 24, [], Value.slice none 0 0, [2], .slice 91 2⟩ := ⟨⟨Tryz.t41, inf_41, rfl, rfl, rfl⟩, ⟨_, Tryz.underlying41, rfl, ⟨rfl, sz_91⟩⟩, rfl, rfl, fun h => absurd h (by decide)⟩
theorem tok_42 : TOk1 Tryz.prog 42 ⟨11, true, 128, [], Value.agg #[Value.int IntKind.i64 0, Value.int IntKind.i64 0, Value.int IntKind.i64 0, Value.int IntKind.i64 0, Value.int IntKind.i64 0, Value.int IntKind.i64 0, Value.string { data := #[] }, Value.slice none 0 0, Value.int IntKind.i64 0, Value.slice none 0 0, Value.bool false], [0, 0, 0, 0, 0, 0, 0, 1, 0, 2, 0], .struct [(0, 3, 1), (1, 3, 1), (2, 3, 1), (3, 3, 1), (4, 3, 1), (5, 3, 1), (6, 9, 1), (7, 27, 1), (8, 3, 1), (9, 41, 1), (10, 4, 1)]⟩ := ⟨⟨Tryz.t42, inf_42, rfl, rfl, rfl⟩, ⟨_, Tryz.underlying42, rfl, ⟨_, rfl, rfl, List.forall_mem_cons.2 ⟨sz_3, List.forall_mem_cons.2 ⟨sz_3, List.forall_mem_cons.2 ⟨sz_3, List.forall_mem_cons.2 ⟨sz_3, List.forall_mem_cons.2 ⟨sz_3, List.forall_mem_cons.2 ⟨sz_3, List.forall_mem_cons.2 ⟨sz_9, List.forall_mem_cons.2 ⟨sz_27, List.forall_mem_cons.2 ⟨sz_3, List.forall_mem_cons.2 ⟨sz_41, List.forall_mem_cons.2 ⟨sz_4, fun _ h => by cases h⟩⟩⟩⟩⟩⟩⟩⟩⟩⟩⟩⟩⟩, rfl, rfl, fun h => absurd h (by decide)⟩
theorem tok_43 : TOk1 Tryz.prog 43 ⟨11, true, 128, [], Value.agg #[Value.int IntKind.i64 0, Value.int IntKind.i64 0, Value.int IntKind.i64 0, Value.int IntKind.i64 0, Value.int IntKind.i64 0, Value.int IntKind.i64 0, Value.string { data := #[] }, Value.slice none 0 0, Value.int IntKind.i64 0, Value.slice none 0 0, Value.bool false], [0, 0, 0, 0, 0, 0, 0, 1, 0, 2, 0], .struct [(0, 3, 1), (1, 3, 1), (2, 3, 1), (3, 3, 1), (4, 3, 1), (5, 3, 1), (6, 9, 1), (7, 27, 1), (8, 3, 1), (9, 41, 1), (10, 4, 1)]⟩ := ⟨⟨Tryz.t43, inf_43, rfl, rfl, rfl⟩, ⟨_, Tryz.underlying43, rfl, ⟨_, rfl, rfl, List.forall_mem_cons.2 ⟨sz_3, List.forall_mem_cons.2 ⟨sz_3, List.forall_mem_cons.2 ⟨sz_3, List.forall_mem_cons.2 ⟨sz_3, List.forall_mem_cons.2 ⟨sz_3, List.forall_mem_cons.2 ⟨sz_3, List.forall_mem_cons.2 ⟨sz_9, List.forall_mem_cons.2 ⟨sz_27, List.forall_mem_cons.2 ⟨sz_3, List.forall_mem_cons.2 ⟨sz_41, List.forall_mem_cons.2 ⟨sz_4, fun _ h => by cases h⟩⟩⟩⟩⟩⟩⟩⟩⟩⟩⟩⟩⟩, rfl, rfl, fun h => absurd h (by decide)⟩
theorem tok_44 : TOk1 Tryz.prog 44 ⟨12, true, 136, [], Value.agg #[Value.int IntKind.i64 0, Value.int IntKind.i64 0, Value.slice none 0 0, Value.int IntKind.i64 0, Value.int IntKind.i64 0, Value.int IntKind.i64 0, Value.int IntKind.i64 0, Value.int IntKind.i64 0, Value.int IntKind.i64 0, Value.string { data := #[] }, Value.slice none 0 0, Value.int IntKind.i64 0], [0, 0, 1, 0, 0, 0, 0, 0, 0, 0, 1, 0], .struct [(0, 3, 1), (1, 3, 1), (2, 27, 1), (3, 3, 1), (4, 3, 1), (5, 3, 1), (6, 3, 1), (7, 3, 1), (8, 3, 1), (9, 9, 1), (10, 27, 1), (11, 3, 1)]⟩ := ⟨⟨Tryz.t44, inf_44, rfl, rfl, rfl⟩, ⟨_, Tryz.underlying44, rfl, ⟨_, rfl, rfl, List.forall_mem_cons.2 ⟨sz_3, List.forall_mem_cons.2 ⟨sz_3, List.forall_mem_cons.2 ⟨sz_27, List.forall_mem_cons.2 ⟨sz_3, List.forall_mem_cons.2 ⟨sz_3, List.forall_mem_cons.2 ⟨sz_3, List.forall_mem_cons.2 ⟨sz_3, List.forall_mem_cons.2 ⟨sz_3, List.forall_mem_cons.2 ⟨sz_3, List.forall_mem_cons.2 ⟨sz_9, List.forall_mem_cons.2 ⟨sz_27, List.forall_mem_cons.2 ⟨sz_3, fun _ h => by cases h⟩⟩⟩⟩⟩⟩⟩⟩⟩⟩⟩⟩⟩⟩, rfl, rfl, fun h => absurd h (by decide)⟩
theorem tok_45 : TOk1 Tryz.prog 45 ⟨12, true, 136, [], Value.agg #[Value.int IntKind.i64 0, Value.int IntKind.i64 0, Value.slice none 0 0, Value.int IntKind.i64 0, Value.int IntKind.i64 0, Value.int IntKind.i64 0, Value.int IntKind.i64 0, Value.int IntKind.i64 0, Value.int IntKind.i64 0, Value.string { data := #[] }, Value.slice none 0 0, Value.int IntKind.i64 0], [0, 0, 1, 0, 0, 0, 0, 0, 0, 0, 1, 0], .struct [(0, 3, 1), (1, 3, 1), (2, 27, 1), (3, 3, 1), (4, 3, 1), (5, 3, 1), (6, 3, 1), (7, 3, 1), (8, 3, 1), (9, 9, 1), (10, 27, 1), (11, 3, 1)]⟩ := ⟨⟨Tryz.t45, inf_45, rfl, rfl, rfl⟩, ⟨_, Tryz.underlying45, rfl, ⟨_, rfl, rfl, List.forall_mem_cons.2 ⟨sz_3, List.forall_mem_cons.2 ⟨sz_3, List.forall_mem_cons.2 ⟨sz_27, List.forall_mem_cons.2 ⟨sz_3, List.forall_mem_cons.2 ⟨sz_3, List.forall_mem_cons.2 ⟨sz_3, List.forall_mem_cons.2 ⟨sz_3, List.forall_mem_cons.2 ⟨sz_3, List.forall_mem_cons.2 ⟨sz_3, List.forall_mem_cons.2 ⟨sz_9, List.forall_mem_cons.2 ⟨sz_27, List.forall_mem_cons.2 ⟨sz_3, fun _ h => by cases h⟩⟩⟩⟩⟩⟩⟩⟩⟩⟩⟩⟩⟩⟩, rfl, rfl, fun h => absurd h (by decide)⟩
theorem tok_46 : TOk1 Tryz.prog 46 ⟨1, false, 8, [], Value.nilFunc, [0], .other⟩ := ⟨⟨Tryz.t46, inf_46, rfl, rfl, rfl⟩, ⟨_, Tryz.underlying46, rfl, trivial⟩, rfl, rfl, fun h => absurd h (by decide)⟩
theorem tok_47 : TOk1 Tryz.prog 47 ⟨1, false, 8, [], Value.nilFunc, [0], .other⟩ := ⟨⟨Tryz.t47, inf_47, rfl, rfl, rfl⟩, ⟨_, Tryz.underlying47, rfl, trivial⟩, rfl, rfl, fun h => absurd h (by decide)⟩
theorem tok_48 : TOk1 Tryz.prog 48 ⟨1, false, 8, [], Value.nilFunc, [0], .other⟩ := ⟨⟨Tryz.t48, inf_48, rfl, rfl, rfl⟩, ⟨_, Tryz.underlying48, rfl, trivial⟩, rfl, rfl, fun h => absurd h (by decide)⟩
theorem tok_49 : TOk1 Tryz.prog 49 ⟨11, true, 112, [], Value.agg #[Value.int IntKind.i64 0, Value.int IntKind.i64 0, Value.int IntKind.i64 0, Value.int IntKind.i64 0, Value.int IntKind.i64 0, Value.int IntKind.i64 0, Value.int IntKind.i64 0, Value.int IntKind.i64 0, Value.int IntKind.i64 0, Value.string { data := #[] }, Value.slice none 0 0], [0, 0, 0, 0, 0, 0, 0, 0, 0, 0, 1], .struct [(0, 3, 1), (1, 3, 1), (2, 3, 1), (3, 3, 1), (4, 3, 1), (5, 3, 1), (6, 3, 1), (7, 3, 1), (8, 3, 1), (9, 9, 1), (10, 27, 1)]⟩ := ⟨⟨Tryz.t49, inf_49, rfl, rfl, rfl⟩, ⟨_, Tryz.underlying49, rfl, ⟨_, rfl, rfl, List.forall_mem_cons.2 ⟨sz_3, List.forall_mem_cons.2 ⟨sz_3, List.forall_mem_cons.2 ⟨sz_3, List.forall_mem_cons.2 ⟨sz_3, List.forall_mem_cons.2 ⟨sz_3, List.forall_mem_cons.2 ⟨sz_3, List.forall_mem_cons.2 ⟨sz_3, List.forall_mem_cons.2 ⟨sz_3, List.forall_mem_cons.2 ⟨sz_3, List.forall_mem_cons.2 ⟨sz_9, List.forall_mem_cons.2 ⟨sz_27, fun _ h => by cases h⟩⟩⟩⟩⟩⟩⟩⟩⟩⟩⟩⟩⟩, rfl, rfl, fun h => absurd h (by decide)⟩
theorem tok_50 : TOk1 Tryz.prog 50 ⟨11, true, 112, [], Value.agg #[Value.int IntKind.i64 0, Value.int IntKind.i64 0, Value.int IntKind.i64 0, Value.int IntKind.i64 0, Value.int IntKind.i64 0, Value.int IntKind.i64 0, Value.int IntKind.i64 0, Value.int IntKind.i64 0, Value.int IntKind.i64 0, Value.string { data := #[] }, Value.slice none 0 0], [0, 0, 0, 0, 0, 0, 0, 0, 0, 0, 1], .struct [(0, 3, 1), (1, 3, 1), (2, 3, 1), (3, 3, 1), (4, 3, 1), (5, 3, 1), (6, 3, 1), (7, 3, 1), (8, 3, 1), (9, 9, 1), (10, 27, 1)]⟩ := ⟨⟨Tryz.t50, inf_50, rfl, rfl, rfl⟩, ⟨_, Tryz.underlying50, rfl, ⟨_, rfl, rfl, List.forall_mem_cons.2 ⟨sz_3, List.forall_mem_cons.2 ⟨sz_3, List.forall_mem_cons.2 ⟨sz_3, List.forall_mem_cons.2 ⟨sz_3, List.forall_mem_cons.2 ⟨sz_3, List.forall_mem_cons.2 ⟨sz_3, List.forall_mem_cons.2 ⟨sz_3, List.forall_mem_cons.2 ⟨sz_3, List.forall_mem_cons.2 ⟨sz_3, List.forall_mem_cons.2 ⟨sz_9, List.forall_mem_cons.2 ⟨sz_27, fun _ h => by cases h⟩⟩⟩⟩⟩⟩⟩⟩⟩⟩⟩⟩⟩, rfl, rfl, fun h => absurd h (by decide)⟩
theorem tok_51 : TOk1 Tryz.prog 51 ⟨1, false, 8, [], Value.nilFunc, [0], .other⟩ := ⟨⟨Tryz.t51, inf_51, rfl, rfl, rfl⟩, ⟨_, Tryz.underlying51, rfl, trivial⟩, rfl, rfl, fun h => absurd h (by decide)⟩
theorem tok_52 : TOk1 Tryz.prog 52 ⟨1, false, 8, [], Value.nilFunc, [0], .other⟩ := ⟨⟨Tryz.t52, inf_52, rfl, rfl, rfl⟩, ⟨_, Tryz.underlying52, rfl, trivial⟩, rfl, rfl, fun h => absurd h (by decide)⟩
theorem tok_53 : TOk1 Tryz.prog 53 ⟨1, false, 8, [], Value.nilFunc, [0], .other⟩ := ⟨⟨Tryz.t53, inf_53, rfl, rfl, rfl⟩, ⟨_, Tryz.underlying53, rfl, trivial⟩, rfl, rfl, fun h => absurd h (by decide)⟩
theorem tok_54 : TOk1 Tryz.prog 54 ⟨1, false, 8, [], Value.nilFunc, [0], .other⟩ := ⟨⟨Tryz.t54, inf_54, rfl, rfl, rfl⟩, ⟨_, Tryz.underlying54, rfl, trivial⟩, rfl, rfl, fun h => absurd h (by decide)⟩
theorem tok_55 : TOk1 Tryz.prog 55 ⟨1, false, 8, [], Value.nilFunc, [0], .other⟩ := ⟨⟨Tryz.t55, inf_55, rfl, rfl, rfl⟩, ⟨_, Tryz.underlying55, rfl, trivial⟩, rfl, rfl, fun h => absurd h (by decide)⟩
theorem tok_56 : TOk1 Tryz.prog 56 ⟨1, false, 8, [], Value.nilFunc, [0], .other⟩ := ⟨⟨Tryz.t56, inf_56, rfl, rfl, rfl⟩, ⟨_, Tryz.underlying56, rfl, trivial⟩, rfl, rfl, fun h => absurd h (by decide)⟩
theorem tok_57 : TOk1 Tryz.prog 57 ⟨2, true, 16, [.i .i64, .i .i64], Value.agg #[Value.int IntKind.i64 0, Value.int IntKind.i64 0], [0, 0], .struct [(0, 3, 1), (1, 3, 1)]⟩ := ⟨⟨Tryz.t57, inf_57, rfl, rfl, rfl⟩, ⟨_, Tryz.underlying57, rfl, ⟨_, rfl, rfl, List.forall_mem_cons.2 ⟨sz_3, List.forall_mem_cons.2 ⟨sz_3, fun _ h => by cases h⟩⟩⟩⟩, rfl, rfl, fun _ => eq_struct_of [.i .i64, .i .i64] Tryz.underlying57 (by kernel_rfl) (by kernel_rfl) ⟨⟨rfl, by decide, sz_3, Tryz.underlying3⟩, ⟨⟨rfl, by decide, sz_3, Tryz.underlying3⟩, trivial⟩⟩⟩
theorem tok_58 : TOk1 Tryz.prog 58 ⟨2, true, 16, [.i .i64, .i .i64], Value.agg #[Value.int IntKind.i64 0, Value.int IntKind.i64 0], [0, 0], .struct [(0, 3, 1), (1, 3, 1)]⟩ := ⟨⟨Tryz.t58, inf_58, rfl, rfl, rfl⟩, ⟨_, Tryz.underlying58, rfl, ⟨_, rfl, rfl, List.forall_mem_cons.2 ⟨sz_3, List.forall_mem_cons.2 ⟨sz_3, fun _ h => by cases h⟩⟩⟩⟩, rfl, rfl, fun _ => eq_struct_of [.i .i64, .i .i64] Tryz.underlying58 (by kernel_rfl) (by kernel_rfl) ⟨⟨rfl, by decide, sz_3, Tryz.underlying3⟩, ⟨⟨rfl, by decide, sz_3, Tryz.underlying3⟩, trivial⟩⟩⟩
theorem tok_59 : TOk1 Tryz.prog 59 ⟨1, false, 8, [], Value.nilFunc, [0], .other⟩ := ⟨⟨Tryz.t59, inf_59, rfl, rfl, rfl⟩, ⟨_, Tryz.underlying59, rfl, trivial⟩, rfl, rfl, fun h => absurd h (by decide)⟩
theorem tok_60 : TOk1 Tryz.prog 60 ⟨3, true, 24, [], Value.agg #[Value.bool false, Value.int IntKind.i64 0, Value.int IntKind.i64 0], [0, 0, 0], .struct [(0, 4, 1), (1, 58, 2)]⟩ := ⟨⟨Tryz.t60, inf_60, rfl, rfl, rfl⟩, ⟨_, Tryz.underlying60, rfl, ⟨_, rfl, rfl, List.forall_mem_cons.2 ⟨sz_4, List.forall_mem_cons.2 ⟨sz_58, fun _ h => by cases h⟩⟩⟩⟩, rfl, rfl, fun h => absurd h (by decide)⟩
theorem tok_61 : TOk1 Tryz.prog 61 ⟨3, true, 24, [], Value.agg #[Value.bool false, Value.int IntKind.i64 0, Value.int IntKind.i64 0], [0, 0, 0], .struct [(0, 4, 1), (1, 58, 2)]⟩ := ⟨⟨Tryz.t61, inf_61, rfl, rfl, rfl⟩, ⟨_, Tryz.underlying61, rfl, ⟨_, rfl, rfl, List.forall_mem_cons.2 ⟨sz_4, List.forall_mem_cons.2 ⟨sz_58, fun _ h => by cases h⟩⟩⟩⟩, rfl, rfl, fun h => absurd h (by decide)⟩
theorem tok_62 : TOk1 Tryz.prog 62 ⟨1, false, 8, [], Value.nilFunc, [0], .other⟩ := ⟨⟨Tryz.t62, inf_62, rfl, rfl, rfl⟩, ⟨_, Tryz.underlying62, rfl, trivial⟩, rfl, rfl, fun h => absurd h (by decide)⟩
theorem tok_63 : TOk1 Tryz.prog 63 ⟨25, true, 264, [], Value.agg #[Value.string { data := #[] }, Value.int IntKind.i64 0, Value.int IntKind.i64 0, Value.int IntKind.i64 0, Value.bool false, Value.int IntKind.i64 0, Value.bool false, Value.bool false, Value.int IntKind.i64 0, Value.int IntKind.i64 0, Value.int IntKind.i64 0, Value.int IntKind.i64 0, Value.slice none 0 0, Value.int IntKind.i64 0, Value.int IntKind.i64 0, Value.int IntKind.i64 0, Value.int IntKind.i64 0, Value.bool false, Value.int IntKind.i64 0, Value.int IntKind.i64 0, Value.int IntKind.i64 0, Value.int IntKind.i64 0, Value.slice none 0 0, Value.slice none 0 0, Value.slice none 0 0], [0, 0, 0, 0, 0, 0, 0, 0, 0, 0, 0, 0, 1, 0, 0, 0, 0, 0, 0, 0, 0, 0, 2, 12, 1], .struct [(0, 24, 22), (22, 25, 1), (23, 26, 1), (24, 27, 1)]⟩ := ⟨⟨Tryz.t63, inf_63, rfl, rfl, rfl⟩, ⟨_, Tryz.underlying63, rfl, ⟨_, rfl, rfl, List.forall_mem_cons.2 ⟨sz_24, List.forall_mem_cons.2 ⟨sz_25, List.forall_mem_cons.2 ⟨sz_26, List.forall_mem_cons.2 ⟨sz_27, fun _ h => by cases h⟩⟩⟩⟩⟩⟩, rfl, rfl, fun h => absurd h (by decide)⟩
theorem tok_64 : TOk1 Tryz.prog 64 ⟨25, true, 264, [], Value.agg #[Value.string { data := #[] }, Value.int IntKind.i64 0, Value.int IntKind.i64 0, Value.int IntKind.i64 0, Value.bool false, Value.int IntKind.i64 0, Value.bool false, Value.bool false, Value.int IntKind.i64 0, Value.int IntKind.i64 0, Value.int IntKind.i64 0, Value.int IntKind.i64 0, Value.slice none 0 0, Value.int IntKind.i64 0, Value.int IntKind.i64 0, Value.int IntKind.i64 0, Value.int IntKind.i64 0, Value.bool false, Value.int IntKind.i64 0, Value.int IntKind.i64 0, Value.int IntKind.i64 0, Value.int IntKind.i64 0, Value.slice none 0 0, Value.slice none 0 0, Value.slice none 0 0], [0, 0, 0, 0, 0, 0, 0, 0, 0, 0, 0, 0, 1, 0, 0, 0, 0, 0, 0, 0, 0, 0, 2, 12, 1], .struct [(0, 24, 22), (22, 25, 1), (23, 26, 1), (24, 27, 1)]⟩ := ⟨⟨Tryz.t64, inf_64, rfl, rfl, rfl⟩, ⟨_, Tryz.underlying64, rfl, ⟨_, rfl, rfl, List.forall_mem_cons.2 ⟨sz_24, List.forall_mem_cons.2 ⟨sz_25, List.forall_mem_cons.2 ⟨sz_26, List.forall_mem_cons.2 ⟨sz_27, fun _ h => by cases h⟩⟩⟩⟩⟩⟩, rfl, rfl, fun h => absurd h (by decide)⟩
theorem tok_65 : TOk1 Tryz.prog 65 ⟨1, false, 8, [], Value.nilFunc, [0], .other⟩ := ⟨⟨Tryz.t65, inf_65, rfl, rfl, rfl⟩, ⟨_, Tryz.underlying65, rfl, trivial⟩, rfl, rfl, fun h => absurd h (by decide)⟩
theorem tok_66 : TOk1 Tryz.prog 66 ⟨1, false, 8, [], Value.nilFunc, [0], .other⟩ := ⟨⟨Tryz.t66, inf_66, rfl, rfl, rfl⟩, ⟨_, Tryz.underlying66, rfl, trivial⟩, rfl, rfl, fun h => absurd h (by decide)⟩
theorem tok_67 : TOk1 Tryz.prog 67 ⟨1, false, 8, [], Value.nilFunc, [0], .other⟩ := ⟨⟨Tryz.t67, inf_67, rfl, rfl, rfl⟩, ⟨_, Tryz.underlying67, rfl, trivial⟩, rfl, rfl, fun h => absurd h (by decide)⟩
theorem tok_68 : TOk1 Tryz.prog 68 ⟨1, false, 8, [], Value.nilFunc, [0], .other⟩ := ⟨⟨Tryz.t68, inf_68, rfl, rfl, rfl⟩, ⟨_, Tryz.underlying68, rfl, trivial⟩, rfl, rfl, fun h => absurd h (by decide)⟩
theorem tok_69 : TOk1 Tryz.prog 69 ⟨1, false, 8, [], Value.nilFunc, [0], .other⟩ := ⟨⟨Tryz.t69, inf_69, rfl, rfl, rfl⟩, ⟨_, Tryz.underlying69, rfl, trivial⟩, rfl, rfl, fun h => absurd h (by decide)⟩
theorem tok_70 : TOk1 Tryz.prog 70 ⟨1, false, 8, [], Value.nilFunc, [0], .other⟩ := ⟨⟨Tryz.t70, inf_70, rfl, rfl, rfl⟩, ⟨_, Tryz.underlying70, rfl, trivial⟩, rfl, rfl, fun h => absurd h (by decide)⟩
theorem tok_71 : TOk1 Tryz.prog 71 ⟨1, false, 8, [], Value.nilFunc, [0], .other⟩ := ⟨⟨Tryz.t71, inf_71, rfl, rfl, rfl⟩, ⟨_, Tryz.underlying71, rfl, trivial⟩, rfl, rfl, fun h => absurd h (by decide)⟩
theorem tok_72 : TOk1 Tryz.prog 72 ⟨1, false, 8, [], Value.nilFunc, [0], .other⟩ := ⟨⟨Tryz.t72, inf_72, rfl, rfl, rfl⟩, ⟨_, Tryz.underlying72, rfl, trivial⟩, rfl, rfl, fun h => absurd h (by decide)⟩
theorem tok_73 : TOk1 Tryz.prog 73 ⟨1, false, 8, [], Value.nilFunc, [0], .other⟩ := ⟨⟨Tryz.t73, inf_73, rfl, rfl, rfl⟩, ⟨_, Tryz.underlying73, rfl, trivial⟩, rfl, rfl, fun h => absurd h (by decide)⟩
theorem tok_74 : TOk1 Tryz.prog 74 ⟨1, false, 8, [], Value.nilFunc, [0], .other⟩ := ⟨⟨Tryz.t74, inf_74, rfl, rfl, rfl⟩, ⟨_, Tryz.underlying74, rfl, trivial⟩, rfl, rfl, fun h => absurd h (by decide)⟩
theorem tok_75 : TOk1 Tryz.prog 75 ⟨1, false, 8, [], Value.nilFunc, [0], .other⟩ := ⟨⟨Tryz.t75, inf_75, rfl, rfl, rfl⟩, ⟨_, Tryz.underlying75, rfl, trivial⟩, rfl, rfl, fun h => absurd h (by decide)⟩
theorem tok_76 : TOk1 Tryz.prog 76 ⟨1, false, 8, [], Value.nilFunc, [0], .other⟩ := ⟨⟨Tryz.t76, inf_76, rfl, rfl, rfl⟩, ⟨_, Tryz.underlying76, rfl, trivial⟩, rfl, rfl, fun h => absurd h (by decide)⟩
theorem tok_77 : TOk1 Tryz.prog 77 ⟨1, false, 8, [], Value.nilFunc, [0], .other⟩ := ⟨⟨Tryz.t77, inf_77, rfl, rfl, rfl⟩, ⟨_, Tryz.underlying77, rfl, trivial⟩, rfl, rfl, fun h => absurd h (by decide)⟩
theorem tok_78 : TOk1 Tryz.prog 78 ⟨1, false, 8, [], Value.map none, [0], .map 3 79⟩ := ⟨⟨Tryz.t78, inf_78, rfl, rfl, rfl⟩, ⟨_, Tryz.underlying78, rfl, rfl⟩, rfl, rfl, fun h => absurd h (by decide)⟩
theorem tok_79 : TOk1 Tryz.prog 79 ⟨1, false, 8, [], Value.pointer none, [0], .other⟩ := ⟨⟨Tryz.t79, inf_79, rfl, rfl, rfl⟩, ⟨_, Tryz.underlying79, rfl, trivial⟩, rfl, rfl, fun h => absurd h (by decide)⟩
theorem tok_80 : TOk1 Tryz.prog 80 ⟨1, false, 8, [], Value.map none, [0], .map 91 4⟩ := ⟨⟨Tryz.t80, inf_80, rfl, rfl, rfl⟩, ⟨_, Tryz.underlying80, rfl, rfl⟩, rfl, rfl, fun h => absurd h (by decide)⟩
theorem tok_81 : TOk1 Tryz.prog 81 ⟨12, true, 136, [], Value.agg #[Value.int IntKind.i64 0, Value.int IntKind.i64 0, Value.int IntKind.i64 0, Value.int IntKind.i64 0, Value.int IntKind.i64 0, Value.int IntKind.i64 0, Value.string { data := #[] }, Value.slice none 0 0, Value.int IntKind.i64 0, Value.slice none 0 0, Value.bool false, Value.map none], [0, 0, 0, 0, 0, 0, 0, 1, 0, 2, 0, 0], .struct [(0, 43, 11), (11, 80, 1)]⟩ := ⟨⟨Tryz.t81, inf_81, rfl, rfl, rfl⟩, ⟨_, Tryz.underlying81, rfl, ⟨_, rfl, rfl, List.forall_mem_cons.2 ⟨sz_43, List.forall_mem_cons.2 ⟨sz_80, fun _ h => by cases h⟩⟩⟩⟩, rfl, rfl, fun h => absurd h (by decide)⟩
theorem tok_82 : TOk1 Tryz.prog 82 ⟨12, true, 136, [], Value.agg #[Value.int IntKind.i64 0, Value.int IntKind.i64 0, Value.int IntKind.i64 0, Value.int IntKind.i64 0, Value.int IntKind.i64 0, Value.int IntKind.i64 0, Value.string { data := #[] }, Value.slice none 0 0, Value.int IntKind.i64 0, Value.slice none 0 0, Value.bool false, Value.map none], [0, 0, 0, 0, 0, 0, 0, 1, 0, 2, 0, 0], .struct [(0, 43, 11), (11, 80, 1)]⟩ := ⟨⟨Tryz.t82, inf_82, rfl, rfl, rfl⟩, ⟨_, Tryz.underlying82, rfl, ⟨_, rfl, rfl, List.forall_mem_cons.2 ⟨sz_43, List.forall_mem_cons.2 ⟨sz_80, fun _ h => by cases h⟩⟩⟩⟩, rfl, rfl, fun h => absurd h (by decide)⟩
theorem tok_84 : TOk1 Tryz.prog 84 ⟨1, false, 8, [], Value.nilFunc, [0], .other⟩ := ⟨⟨Tryz.t84, inf_84, rfl, rfl, rfl⟩, ⟨_, Tryz.underlying84, rfl, trivial⟩, rfl, rfl, fun h => absurd h (by decide)⟩
theorem tok_85 : TOk1 Tryz.prog 85 ⟨1, false, 8, [], Value.nilFunc, [0], .other⟩ := ⟨⟨Tryz.t85, inf_85, rfl, rfl, rfl⟩, ⟨_, Tryz.underlying85, rfl, trivial⟩, rfl, rfl, fun h => absurd h (by decide)⟩
theorem tok_86 : TOk1 Tryz.prog 86 ⟨1, false, 8, [], Value.nilFunc, [0], .other⟩ := ⟨⟨Tryz.t86, inf_86, rfl, rfl, rfl⟩, ⟨_, Tryz.underlying86, rfl, trivial⟩, rfl, rfl, fun h => absurd h (by decide)⟩
theorem tok_87 : TOk1 Tryz.prog 87 ⟨1, false, 8, [], Value.nilFunc, [0], .other⟩ := ⟨⟨Tryz.t87, inf_87, rfl, rfl, rfl⟩, ⟨_, Tryz.underlying87, rfl, trivial⟩, rfl, rfl, fun h => absurd h (by decide)⟩
theorem tok_88 : TOk1 Tryz.prog 88 ⟨1, false, 8, [], Value.nilFunc, [0], .other⟩ := ⟨⟨Tryz.t88, inf_88, rfl, rfl, rfl⟩, ⟨_, Tryz.underlying88, rfl, trivial⟩, rfl, rfl, fun h => absurd h (by decide)⟩
theorem tok_89 : TOk1 Tryz.prog 89 ⟨1, false, 8, [], Value.nilFunc, [0], .other⟩ := ⟨⟨Tryz.t89, inf_89, rfl, rfl, rfl⟩, ⟨_, Tryz.underlying89, rfl, trivial⟩, rfl, rfl, fun h => absurd h (by decide)⟩
theorem tok_90 : TOk1 Tryz.prog 90 ⟨1, false, 8, [], Value.nilFunc, [0], .other⟩ := ⟨⟨Tryz.t90, inf_90, rfl, rfl, rfl⟩, ⟨_, Tryz.underlying90, rfl, trivial⟩, rfl, rfl, fun h => absurd h (by decide)⟩
theorem eqarr_91 (a b c d : Int) (w : World) : (Op.equalIn 10000 91 (.agg #[.int .i64 a, .int .i64 b]) (.agg #[.int .i64 c, .int .i64 d])).run Tryz.prog w = .ok (decide (a = c ∧ b = d)) w := by
  rw [show (10000 : Nat) = 9998 + 1 + 1 from rfl, Op.equalIn]
  simp [run_underlying Tryz.underlying91, go_sem]
  rw [show List.range' 0 2 = [0, 1] from rfl]
  by_cases h1 : a = c <;> by_cases h2 : b = d <;> simp [List.forIn_cons, h1, h2, go_sem]
theorem tok_91 : TOk1 Tryz.prog 91 ⟨2, true, 16, [.i .i64, .i .i64], Value.agg #[Value.int IntKind.i64 0, Value.int IntKind.i64 0], [0, 0], .array 2 3 1⟩ := ⟨⟨Tryz.t91, inf_91, rfl, rfl, rfl⟩, ⟨_, Tryz.underlying91, rfl, ⟨rfl, sz_3⟩⟩, rfl, rfl, fun _ => eq_arr2_of (by kernel_rfl) eqarr_91⟩
theorem tok_92 : TOk1 Tryz.prog 92 ⟨1, false, 8, [], Value.nilFunc, [0], .other⟩ := ⟨⟨Tryz.t92, inf_92, rfl, rfl, rfl⟩, ⟨_, Tryz.underlying92, rfl, trivial⟩, rfl, rfl, fun h => absurd h (by decide)⟩
theorem tok_93 : TOk1 Tryz.prog 93 ⟨1, false, 8, [], Value.nilFunc, [0], .other⟩ := ⟨⟨Tryz.t93, inf_93, rfl, rfl, rfl⟩, ⟨_, Tryz.underlying93, rfl, trivial⟩, rfl, rfl, fun h => absurd h (by decide)⟩
theorem tok_94 : TOk1 Tryz.prog 94 ⟨1, false, 8, [], Value.nilFunc, [0], .other⟩ := ⟨⟨Tryz.t94, inf_94, rfl, rfl, rfl⟩, ⟨_, Tryz.underlying94, rfl, trivial⟩, rfl, rfl, fun h => absurd h (by decide)⟩
theorem tok_95 : TOk1 Tryz.prog 95 ⟨1, false, 8, [], Value.nilFunc, [0], .other⟩ := ⟨⟨Tryz.t95, inf_95, rfl, rfl, rfl⟩, ⟨_, Tryz.underlying95, rfl, trivial⟩, rfl, rfl, fun h => absurd h (by decide)⟩
theorem tok_96 : TOk1 Tryz.prog 96 ⟨1, false, 8, [], Value.nilFunc, [0], .other⟩ := ⟨⟨Tryz.t96, inf_96, rfl, rfl, rfl⟩, ⟨_, Tryz.underlying96, rfl, trivial⟩, rfl, rfl, fun h => absurd h (by decide)⟩
theorem tok_97 : TOk1 Tryz.prog 97 ⟨1, false, 8, [], Value.nilFunc, [0], .other⟩ := ⟨⟨Tryz.t97, inf_97, rfl, rfl, rfl⟩, ⟨_, Tryz.underlying97, rfl, trivial⟩, rfl, rfl, fun h => absurd h (by decide)⟩
theorem tok_98 : TOk1 Tryz.prog 98 ⟨1, false, 8, [], Value.nilFunc, [0], .other⟩ := ⟨⟨Tryz.t98, inf_98, rfl, rfl, rfl⟩, ⟨_, Tryz.underlying98, rfl, trivial⟩, rfl, rfl, fun h => absurd h (by decide)⟩
theorem tok_99 : TOk1 Tryz.prog 99 ⟨1, false, 8, [], Value.nilFunc, [0], .other⟩ := ⟨⟨Tryz.t99, inf_99, rfl, rfl, rfl⟩, ⟨_, Tryz.underlying99, rfl, trivial⟩, rfl, rfl, fun h => absurd h (by decide)⟩
theorem tok_100 : TOk1 Tryz.prog 100 ⟨1, false, 8, [], Value.nilFunc, [0], .other⟩ := ⟨⟨Tryz.t100, inf_100, rfl, rfl, rfl⟩, ⟨_, Tryz.underlying100, rfl, trivial⟩, rfl, rfl, fun h => absurd h (by decide)⟩
theorem tok_101 : TOk1 Tryz.prog 101 ⟨1, false, 8, [], Value.nilFunc, [0], .other⟩ := ⟨⟨Tryz.t101, inf_101, rfl, rfl, rfl⟩, ⟨_, Tryz.underlying101, rfl, trivial⟩, rfl, rfl, fun h => absurd h (by decide)⟩
theorem tok_102 : TOk1 Tryz.prog 102 ⟨1, false, 8, [], Value.nilFunc, [0], .other⟩ := ⟨⟨Tryz.t102, inf_102, rfl, rfl, rfl⟩, ⟨_, Tryz.underlying102, rfl, trivial⟩, rfl, rfl, fun h => absurd h (by decide)⟩
theorem tok_103 : TOk1 Tryz.prog 103 ⟨1, false, 24, [], Value.slice none 0 0, [3], .slice 61 3⟩ := ⟨⟨Tryz.t103, inf_103, rfl, rfl, rfl⟩, ⟨_, Tryz.underlying103, rfl, ⟨rfl, sz_61⟩⟩, rfl, rfl, fun h => absurd h (by decide)⟩
theorem tok_104 : TOk1 Tryz.prog 104 ⟨1, false, 8, [], Value.nilFunc, [0], .other⟩ := ⟨⟨Tryz.t104, inf_104, rfl, rfl, rfl⟩, ⟨_, Tryz.underlying104, rfl, trivial⟩, rfl, rfl, fun h => absurd h (by decide)⟩
theorem tok_105 : TOk1 Tryz.prog 105 ⟨1, false, 8, [], Value.nilFunc, [0], .other⟩ := ⟨⟨Tryz.t105, inf_105, rfl, rfl, rfl⟩, ⟨_, Tryz.underlying105, rfl, trivial⟩, rfl, rfl, fun h => absurd h (by decide)⟩
theorem tok_106 : TOk1 Tryz.prog 106 ⟨1, false, 8, [], Value.nilFunc, [0], .other⟩ := ⟨⟨Tryz.t106, inf_106, rfl, rfl, rfl⟩, ⟨_, Tryz.underlying106, rfl, trivial⟩, rfl, rfl, fun h => absurd h (by decide)⟩
theorem tok_107 : TOk1 Tryz.prog 107 ⟨1, false, 8, [], Value.nilFunc, [0], .other⟩ := ⟨⟨Tryz.t107, inf_107, rfl, rfl, rfl⟩, ⟨_, Tryz.underlying107, rfl, trivial⟩, rfl, rfl, fun h => absurd h (by decide)⟩
theorem tok_108 : TOk1 Tryz.prog 108 ⟨1, false, 8, [], Value.nilFunc, [0], .other⟩ := ⟨⟨Tryz.t108, inf_108, rfl, rfl, rfl⟩, ⟨_, Tryz.underlying108, rfl, trivial⟩, rfl, rfl, fun h => absurd h (by decide)⟩
theorem tok_109 : TOk1 Tryz.prog 109 ⟨1, false, 8, [], Value.nilFunc, [0], .other⟩ := ⟨⟨Tryz.t109, inf_109, rfl, rfl, rfl⟩, ⟨_, Tryz.underlying109, rfl, trivial⟩, rfl, rfl, fun h => absurd h (by decide)⟩
theorem tok_110 : TOk1 Tryz.prog 110 ⟨1, false, 8, [], Value.nilFunc, [0], .other⟩ := ⟨⟨Tryz.t110, inf_110, rfl, rfl, rfl⟩, ⟨_, Tryz.underlying110, rfl, trivial⟩, rfl, rfl, fun h => absurd h (by decide)⟩
theorem tok_111 : TOk1 Tryz.prog 111 ⟨1, false, 8, [], Value.nilFunc, [0], .other⟩ := ⟨⟨Tryz.t111, inf_111, rfl, rfl, rfl⟩, ⟨_, Tryz.underlying111, rfl, trivial⟩, rfl, rfl, fun h => absurd h (by decide)⟩
theorem tok_112 : TOk1 Tryz.prog 112 ⟨1, false, 8, [], Value.nilFunc, [0], .other⟩ := ⟨⟨Tryz.t112, inf_112, rfl, rfl, rfl⟩, ⟨_, Tryz.underlying112, rfl, trivial⟩, rfl, rfl, fun h => absurd h (by decide)⟩
theorem tok_113 : TOk1 Tryz.prog 113 ⟨1, false, 8, [], Value.nilFunc, [0], .other⟩ := ⟨⟨Tryz.t113, inf_113, rfl, rfl, rfl⟩, ⟨_, Tryz.underlying113, rfl, trivial⟩, rfl, rfl, fun h => absurd h (by decide)⟩
theorem tok_114 : TOk1 Tryz.prog 114 ⟨1, false, 8, [], Value.nilFunc, [0], .other⟩ := ⟨⟨Tryz.t114, inf_114, rfl, rfl, rfl⟩, ⟨_, Tryz.underlying114, rfl, trivial⟩, rfl, rfl, fun h => absurd h (by decide)⟩
theorem tok_115 : TOk1 Tryz.prog 115 ⟨1, false, 8, [], Value.nilFunc, [0], .other⟩ := ⟨⟨Tryz.t115, inf_115, rfl, rfl, rfl⟩, ⟨_, Tryz.underlying115, rfl, trivial⟩, rfl, rfl, fun h => absurd h (by decide)⟩
theorem tok_116 : TOk1 Tryz.prog 116 ⟨1, false, 8, [], Value.nilFunc, [0], .other⟩ := ⟨⟨Tryz.t116, inf_116, rfl, rfl, rfl⟩, ⟨_, Tryz.underlying116, rfl, trivial⟩, rfl, rfl, fun h => absurd h (by decide)⟩
theorem tok_117 : TOk1 Tryz.prog 117 ⟨1, false, 8, [], Value.nilFunc, [0], .other⟩ := ⟨⟨Tryz.t117, inf_117, rfl, rfl, rfl⟩, ⟨_, Tryz.underlying117, rfl, trivial⟩, rfl, rfl, fun h => absurd h (by decide)⟩
theorem tok_118 : TOk1 Tryz.prog 118 ⟨1, false, 8, [], Value.nilFunc, [0], .other⟩ := ⟨⟨Tryz.t118, inf_118, rfl, rfl, rfl⟩, ⟨_, Tryz.underlying118, rfl, trivial⟩, rfl, rfl, fun h => absurd h (by decide)⟩
theorem tok_119 : TOk1 Tryz.prog 119 ⟨1, false, 8, [], Value.nilFunc, [0], .other⟩ := ⟨⟨Tryz.t119, inf_119, rfl, rfl, rfl⟩, ⟨_, Tryz.underlying119, rfl, trivial⟩, rfl, rfl, fun h => absurd h (by decide)⟩
theorem tok_120 : TOk1 Tryz.prog 120 ⟨1, false, 8, [], Value.nilFunc, [0], .other⟩ := ⟨⟨Tryz.t120, inf_120, rfl, rfl, rfl⟩, ⟨_, Tryz.underlying120, rfl, trivial⟩, rfl, rfl, fun h => absurd h (by decide)⟩
theorem tok_121 : TOk1 Tryz.prog 121 ⟨1, false, 8, [], Value.nilFunc, [0], .other⟩ := ⟨⟨Tryz.t121, inf_121, rfl, rfl, rfl⟩, ⟨_, Tryz.underlying121, rfl, trivial⟩, rfl, rfl, fun h => absurd h (by decide)⟩
theorem tok_122 : TOk1 Tryz.prog 122 ⟨1, false, 8, [], Value.nilFunc, [0], .other⟩ := ⟨⟨Tryz.t122, inf_122, rfl, rfl, rfl⟩, ⟨_, Tryz.underlying122, rfl, trivial⟩, rfl, rfl, fun h => absurd h (by decide)⟩
theorem tok_123 : TOk1 Tryz.prog 123 ⟨1, false, 8, [], Value.nilFunc, [0], .other⟩ := ⟨⟨Tryz.t123, inf_123, rfl, rfl, rfl⟩, ⟨_, Tryz.underlying123, rfl, trivial⟩, rfl, rfl, fun h => absurd h (by decide)⟩
theorem tok_124 : TOk1 Tryz.prog 124 ⟨1, false, 8, [], Value.nilFunc, [0], .other⟩ := ⟨⟨Tryz.t124, inf_124, rfl, rfl, rfl⟩, ⟨_, Tryz.underlying124, rfl, trivial⟩, rfl, rfl, fun h => absurd h (by decide)⟩
theorem tok_125 : TOk1 Tryz.prog 125 ⟨1, false, 8, [], Value.nilFunc, [0], .other⟩ := ⟨⟨Tryz.t125, inf_125, rfl, rfl, rfl⟩, ⟨_, Tryz.underlying125, rfl, trivial⟩, rfl, rfl, fun h => absurd h (by decide)⟩
theorem tok_126 : TOk1 Tryz.prog 126 ⟨1, false, 8, [], Value.nilFunc, [0], .other⟩ := ⟨⟨Tryz.t126, inf_126, rfl, rfl, rfl⟩, ⟨_, Tryz.underlying126, rfl, trivial⟩, rfl, rfl, fun h => absurd h (by decide)⟩
theorem tok_127 : TOk1 Tryz.prog 127 ⟨1, false, 8, [], Value.int IntKind.u64 0, [0], .int .u64⟩ := ⟨⟨Tryz.t127, inf_127, rfl, rfl, rfl⟩, ⟨_, Tryz.underlying127, rfl, rfl⟩, rfl, rfl, fun h => absurd h (by decide)⟩
theorem tok_128 : TOk1 Tryz.prog 128 ⟨1, false, 8, [], Value.nilFunc, [0], .other⟩ := ⟨⟨Tryz.t128, inf_128, rfl, rfl, rfl⟩, ⟨_, Tryz.underlying128, rfl, trivial⟩, rfl, rfl, fun h => absurd h (by decide)⟩
theorem tok_129 : TOk1 Tryz.prog 129 ⟨1, false, 8, [], Value.nilFunc, [0], .other⟩ := ⟨⟨Tryz.t129, inf_129, rfl, rfl, rfl⟩, ⟨_, Tryz.underlying129, rfl, trivial⟩, rfl, rfl, fun h => absurd h (by decide)⟩
theorem tok_130 : TOk1 Tryz.prog 130 ⟨1, false, 8, [], Value.nilFunc, [0], .other⟩ := ⟨⟨Tryz.t130, inf_130, rfl, rfl, rfl⟩, ⟨_, Tryz.underlying130, rfl, trivial⟩, rfl, rfl, fun h => absurd h (by decide)⟩
theorem tok_131 : TOk1 Tryz.prog 131 ⟨1, false, 8, [], Value.nilFunc, [0], .other⟩ := ⟨⟨Tryz.t131, inf_131, rfl, rfl, rfl⟩, ⟨_, Tryz.underlying131, rfl, trivial⟩, rfl, rfl, fun h => absurd h (by decide)⟩
theorem tok_132 : TOk1 Tryz.prog 132 ⟨1, false, 8, [], Value.nilFunc, [0], .other⟩ := ⟨⟨Tryz.t132, inf_132, rfl, rfl, rfl⟩, ⟨_, Tryz.underlying132, rfl, trivial⟩, rfl, rfl, fun h => absurd h (by decide)⟩
theorem tok_133 : TOk1 Tryz.prog 133 ⟨1, false, 24, [], Value.slice none 0 0, [1], .slice 5 1⟩ := ⟨⟨Tryz.t133, inf_133, rfl, rfl, rfl⟩, ⟨_, Tryz.underlying133, rfl, ⟨rfl, sz_5⟩⟩, rfl, rfl, fun h => absurd h (by decide)⟩
theorem tok_134 : TOk1 Tryz.prog 134 ⟨1, false, 8, [], Value.nilFunc, [0], .other⟩ := ⟨⟨Tryz.t134, inf_134, rfl, rfl, rfl⟩, ⟨_, Tryz.underlying134, rfl, trivial⟩, rfl, rfl, fun h => absurd h (by decide)⟩
theorem tok_135 : TOk1 Tryz.prog 135 ⟨1, false, 8, [], Value.int IntKind.i64 0, [0], .int .i64⟩ := ⟨⟨Tryz.t135, inf_135, rfl, rfl, rfl⟩, ⟨_, Tryz.underlying135, rfl, rfl⟩, rfl, rfl, fun h => absurd h (by decide)⟩
theorem tok_137 : TOk1 Tryz.prog 137 ⟨1, false, 8, [], Value.nilFunc, [0], .other⟩ := ⟨⟨Tryz.t137, inf_137, rfl, rfl, rfl⟩, ⟨_, Tryz.underlying137, rfl, trivial⟩, rfl, rfl, fun h => absurd h (by decide)⟩
theorem tok_138 : TOk1 Tryz.prog 138 ⟨1, false, 8, [], Value.nilFunc, [0], .other⟩ := ⟨⟨Tryz.t138, inf_138, rfl, rfl, rfl⟩, ⟨_, Tryz.underlying138, rfl, trivial⟩, rfl, rfl, fun h => absurd h (by decide)⟩
theorem tok_139 : TOk1 Tryz.prog 139 ⟨1, false, 8, [], Value.nilFunc, [0], .other⟩ := ⟨⟨Tryz.t139, inf_139, rfl, rfl, rfl⟩, ⟨_, Tryz.underlying139, rfl, trivial⟩, rfl, rfl, fun h => absurd h (by decide)⟩
theorem tok_141 : TOk1 Tryz.prog 141 ⟨1, false, 8, [], Value.nilFunc, [0], .other⟩ := ⟨⟨Tryz.t141, inf_141, rfl, rfl, rfl⟩, ⟨_, Tryz.underlying141, rfl, trivial⟩, rfl, rfl, fun h => absurd h (by decide)⟩
theorem tok_142 : TOk1 Tryz.prog 142 ⟨1, false, 8, [], Value.nilFunc, [0], .other⟩ := ⟨⟨Tryz.t142, inf_142, rfl, rfl, rfl⟩, ⟨_, Tryz.underlying142, rfl, trivial⟩, rfl, rfl, fun h => absurd h (by decide)⟩
theorem tok_143 : TOk1 Tryz.prog 143 ⟨1, false, 4, [], Value.int IntKind.u32 0, [0], .int .u32⟩ := ⟨⟨Tryz.t143, inf_143, rfl, rfl, rfl⟩, ⟨_, Tryz.underlying143, rfl, rfl⟩, rfl, rfl, fun h => absurd h (by decide)⟩
theorem tok_144 : TOk1 Tryz.prog 144 ⟨1, false, 8, [], Value.nilFunc, [0], .other⟩ := ⟨⟨Tryz.t144, inf_144, rfl, rfl, rfl⟩, ⟨_, Tryz.underlying144, rfl, trivial⟩, rfl, rfl, fun h => absurd h (by decide)⟩
theorem tok_145 : TOk1 Tryz.prog 145 ⟨1, false, 8, [], Value.int IntKind.u64 0, [0], .int .u64⟩ := ⟨⟨Tryz.t145, inf_145, rfl, rfl, rfl⟩, ⟨_, Tryz.underlying145, rfl, rfl⟩, rfl, rfl, fun h => absurd h (by decide)⟩
theorem tok_146 : TOk1 Tryz.prog 146 ⟨1, false, 8, [], Value.nilFunc, [0], .other⟩ := ⟨⟨Tryz.t146, inf_146, rfl, rfl, rfl⟩, ⟨_, Tryz.underlying146, rfl, trivial⟩, rfl, rfl, fun h => absurd h (by decide)⟩
theorem tok_147 : TOk1 Tryz.prog 147 ⟨1, false, 8, [], Value.nilFunc, [0], .other⟩ := ⟨⟨Tryz.t147, inf_147, rfl, rfl, rfl⟩, ⟨_, Tryz.underlying147, rfl, trivial⟩, rfl, rfl, fun h => absurd h (by decide)⟩
theorem tok_148 : TOk1 Tryz.prog 148 ⟨1, false, 8, [], Value.nilFunc, [0], .other⟩ := ⟨⟨Tryz.t148, inf_148, rfl, rfl, rfl⟩, ⟨_, Tryz.underlying148, rfl, trivial⟩, rfl, rfl, fun h => absurd h (by decide)⟩
theorem tok_149 : TOk1 Tryz.prog 149 ⟨1, false, 8, [], Value.nilFunc, [0], .other⟩ := ⟨⟨Tryz.t149, inf_149, rfl, rfl, rfl⟩, ⟨_, Tryz.underlying149, rfl, trivial⟩, rfl, rfl, fun h => absurd h (by decide)⟩
theorem tok_150 : TOk1 Tryz.prog 150 ⟨1, false, 8, [], Value.nilFunc, [0], .other⟩ := ⟨⟨Tryz.t150, inf_150, rfl, rfl, rfl⟩, ⟨_, Tryz.underlying150, rfl, trivial⟩, rfl, rfl, fun h => absurd h (by decide)⟩
theorem tok_151 : TOk1 Tryz.prog 151 ⟨1, false, 8, [], Value.nilFunc, [0], .other⟩ := ⟨⟨Tryz.t151, inf_151, rfl, rfl, rfl⟩, ⟨_, Tryz.underlying151, rfl, trivial⟩, rfl, rfl, fun h => absurd h (by decide)⟩
theorem tok_153 : TOk1 Tryz.prog 153 ⟨1, false, 8, [], Value.nilFunc, [0], .other⟩ := ⟨⟨Tryz.t153, inf_153, rfl, rfl, rfl⟩, ⟨_, Tryz.underlying153, rfl, trivial⟩, rfl, rfl, fun h => absurd h (by decide)⟩
theorem tok_154 : TOk1 Tryz.prog 154 ⟨1, false, 8, [], Value.nilFunc, [0], .other⟩ := ⟨⟨Tryz.t154, inf_154, rfl, rfl, rfl⟩, ⟨_, Tryz.underlying154, rfl, trivial⟩, rfl, rfl, fun h => absurd h (by decide)⟩
theorem tok_155 : TOk1 Tryz.prog 155 ⟨1, false, 8, [], Value.int IntKind.u64 0, [0], .int .u64⟩ := ⟨⟨Tryz.t155, inf_155, rfl, rfl, rfl⟩, ⟨_, Tryz.underlying155, rfl, rfl⟩, rfl, rfl, fun h => absurd h (by decide)⟩
theorem tok_156 : TOk1 Tryz.prog 156 ⟨1, false, 8, [], Value.nilFunc, [0], .other⟩ := ⟨⟨Tryz.t156, inf_156, rfl, rfl, rfl⟩, ⟨_, Tryz.underlying156, rfl, trivial⟩, rfl, rfl, fun h => absurd h (by decide)⟩
theorem tok_157 : TOk1 Tryz.prog 157 ⟨1, false, 8, [], Value.nilFunc, [0], .other⟩ := ⟨⟨Tryz.t157, inf_157, rfl, rfl, rfl⟩, ⟨_, Tryz.underlying157, rfl, trivial⟩, rfl, rfl, fun h => absurd h (by decide)⟩
theorem tok_158 : TOk1 Tryz.prog 158 ⟨1, false, 8, [], Value.nilFunc, [0], .other⟩ := ⟨⟨Tryz.t158, inf_158, rfl, rfl, rfl⟩, ⟨_, Tryz.underlying158, rfl, trivial⟩, rfl, rfl, fun h => absurd h (by decide)⟩
theorem tok_159 : TOk1 Tryz.prog 159 ⟨1, false, 8, [], Value.pointer none, [0], .other⟩ := ⟨⟨Tryz.t159, inf_159, rfl, rfl, rfl⟩, ⟨_, Tryz.underlying159, rfl, trivial⟩, rfl, rfl, fun h => absurd h (by decide)⟩
theorem tok_160 : TOk1 Tryz.prog 160 ⟨1, false, 8, [], Value.nilFunc, [0], .other⟩ := ⟨⟨Tryz.t160, inf_160, rfl, rfl, rfl⟩, ⟨_, Tryz.underlying160, rfl, trivial⟩, rfl, rfl, fun h => absurd h (by decide)⟩
theorem tok_161 : TOk1 Tryz.prog 161 ⟨1, false, 8, [], Value.nilFunc, [0], .other⟩ := ⟨⟨Tryz.t161, inf_161, rfl, rfl, rfl⟩, ⟨_, Tryz.underlying161, rfl, trivial⟩, rfl, rfl, fun h => absurd h (by decide)⟩
theorem tok_162 : TOk1 Tryz.prog 162 ⟨1, false, 8, [], Value.nilFunc, [0], .other⟩ := ⟨⟨Tryz.t162, inf_162, rfl, rfl, rfl⟩, ⟨_, Tryz.underlying162, rfl, trivial⟩, rfl, rfl, fun h => absurd h (by decide)⟩
theorem tok_163 : TOk1 Tryz.prog 163 ⟨24, true, 24, [], Value.agg #[Value.int IntKind.u8 0, Value.int IntKind.u8 0, Value.int IntKind.u8 0, Value.int IntKind.u8 0, Value.int IntKind.u8 0, Value.int IntKind.u8 0, Value.int IntKind.u8 0, Value.int IntKind.u8 0, Value.int IntKind.u8 0, Value.int IntKind.u8 0, Value.int IntKind.u8 0, Value.int IntKind.u8 0, Value.int IntKind.u8 0, Value.int IntKind.u8 0, Value.int IntKind.u8 0, Value.int IntKind.u8 0, Value.int IntKind.u8 0, Value.int IntKind.u8 0, Value.int IntKind.u8 0, Value.int IntKind.u8 0, Value.int IntKind.u8 0, Value.int IntKind.u8 0, Value.int IntKind.u8 0, Value.int IntKind.u8 0], [0, 0, 0, 0, 0, 0, 0, 0, 0, 0, 0, 0, 0, 0, 0, 0, 0, 0, 0, 0, 0, 0, 0, 0], .array 24 5 1⟩ := ⟨⟨Tryz.t163, inf_163, rfl, rfl, rfl⟩, ⟨_, Tryz.underlying163, rfl, ⟨rfl, sz_5⟩⟩, rfl, rfl, fun h => absurd h (by decide)⟩
theorem tok_164 : TOk1 Tryz.prog 164 ⟨1, false, 8, [], Value.nilFunc, [0], .other⟩ := ⟨⟨Tryz.t164, inf_164, rfl, rfl, rfl⟩, ⟨_, Tryz.underlying164, rfl, trivial⟩, rfl, rfl, fun h => absurd h (by decide)⟩
theorem tok_166 : TOk1 Tryz.prog 166 ⟨1, false, 8, [], Value.nilFunc, [0], .other⟩ := ⟨⟨Tryz.t166, inf_166, rfl, rfl, rfl⟩, ⟨_, Tryz.underlying166, rfl, trivial⟩, rfl, rfl, fun h => absurd h (by decide)⟩
theorem tok_167 : TOk1 Tryz.prog 167 ⟨1, false, 8, [], Value.pointer none, [0], .other⟩ := ⟨⟨Tryz.t167, inf_167, rfl, rfl, rfl⟩, ⟨_, Tryz.underlying167, rfl, trivial⟩, rfl, rfl, fun h => absurd h (by decide)⟩
theorem tok_169 : TOk1 Tryz.prog 169 ⟨1, false, 8, [], Value.nilFunc, [0], .other⟩ := ⟨⟨Tryz.t169, inf_169, rfl, rfl, rfl⟩, ⟨_, Tryz.underlying169, rfl, trivial⟩, rfl, rfl, fun h => absurd h (by decide)⟩
theorem tok_170 : TOk1 Tryz.prog 170 ⟨1, false, 8, [], Value.nilFunc, [0], .other⟩ := ⟨⟨Tryz.t170, inf_170, rfl, rfl, rfl⟩, ⟨_, Tryz.underlying170, rfl, trivial⟩, rfl, rfl, fun h => absurd h (by decide)⟩
theorem tok_171 : TOk1 Tryz.prog 171 ⟨1, false, 8, [], Value.nilFunc, [0], .other⟩ := ⟨⟨Tryz.t171, inf_171, rfl, rfl, rfl⟩, ⟨_, Tryz.underlying171, rfl, trivial⟩, rfl, rfl, fun h => absurd h (by decide)⟩
theorem tok_172 : TOk1 Tryz.prog 172 ⟨1, false, 8, [], Value.nilFunc, [0], .other⟩ := ⟨⟨Tryz.t172, inf_172, rfl, rfl, rfl⟩, ⟨_, Tryz.underlying172, rfl, trivial⟩, rfl, rfl, fun h => absurd h (by decide)⟩
theorem tok_173 : TOk1 Tryz.prog 173 ⟨20, true, 160, [], Value.agg #[Value.int IntKind.u64 0, Value.int IntKind.u64 0, Value.int IntKind.u64 0, Value.int IntKind.u64 0, Value.int IntKind.u64 0, Value.int IntKind.u64 0, Value.int IntKind.u64 0, Value.int IntKind.u64 0, Value.int IntKind.u64 0, Value.int IntKind.u64 0, Value.int IntKind.u64 0, Value.int IntKind.u64 0, Value.int IntKind.u64 0, Value.int IntKind.u64 0, Value.int IntKind.u64 0, Value.int IntKind.u64 0, Value.int IntKind.u64 0, Value.int IntKind.u64 0, Value.int IntKind.u64 0, Value.int IntKind.u64 0], [0, 0, 0, 0, 0, 0, 0, 0, 0, 0, 0, 0, 0, 0, 0, 0, 0, 0, 0, 0], .array 20 145 1⟩ := ⟨⟨Tryz.t173, inf_173, rfl, rfl, rfl⟩, ⟨_, Tryz.underlying173, rfl, ⟨rfl, sz_145⟩⟩, rfl, rfl, fun h => absurd h (by decide)⟩
theorem tok_174 : TOk1 Tryz.prog 174 ⟨65, true, 65, [], Value.agg ([Value.int IntKind.u8 0, Value.int IntKind.u8 0, Value.int IntKind.u8 0, Value.int IntKind.u8 0, Value.int IntKind.u8 0, Value.int IntKind.u8 0, Value.int IntKind.u8 0, Value.int IntKind.u8 0, Value.int IntKind.u8 0, Value.int IntKind.u8 0, Value.int IntKind.u8 0, Value.int IntKind.u8 0, Value.int IntKind.u8 0, Value.int IntKind.u8 0, Value.int IntKind.u8 0, Value.int IntKind.u8 0, Value.int IntKind.u8 0, Value.int IntKind.u8 0, Value.int IntKind.u8 0, Value.int IntKind.u8 0, Value.int IntKind.u8 0, Value.int IntKind.u8 0, Value.int IntKind.u8 0, Value.int IntKind.u8 0, Value.int IntKind.u8 0, Value.int IntKind.u8 0, Value.int IntKind.u8 0, Value.int IntKind.u8 0, Value.int IntKind.u8 0, Value.int IntKind.u8 0, Value.int IntKind.u8 0, Value.int IntKind.u8 0].append [Value.int IntKind.u8 0, Value.int IntKind.u8 0, Value.int IntKind.u8 0, Value.int IntKind.u8 0, Value.int IntKind.u8 0, Value.int IntKind.u8 0, Value.int IntKind.u8 0, Value.int IntKind.u8 0, Value.int IntKind.u8 0, Value.int IntKind.u8 0, Value.int IntKind.u8 0, Value.int IntKind.u8 0, Value.int IntKind.u8 0, Value.int IntKind.u8 0, Value.int IntKind.u8 0, Value.int IntKind.u8 0, Value.int IntKind.u8 0, Value.int IntKind.u8 0, Value.int IntKind.u8 0, Value.int IntKind.u8 0, Value.int IntKind.u8 0, Value.int IntKind.u8 0, Value.int IntKind.u8 0, Value.int IntKind.u8 0, Value.int IntKind.u8 0, Value.int IntKind.u8 0, Value.int IntKind.u8 0, Value.int IntKind.u8 0, Value.int IntKind.u8 0, Value.int IntKind.u8 0, Value.int IntKind.u8 0, Value.int IntKind.u8 0, Value.int IntKind.u8 0]).toArray, [0, 0, 0, 0, 0, 0, 0, 0, 0, 0, 0, 0, 0, 0, 0, 0, 0, 0, 0, 0, 0, 0, 0, 0, 0, 0, 0, 0, 0, 0, 0, 0, 0, 0, 0, 0, 0, 0, 0, 0, 0, 0, 0, 0, 0, 0, 0, 0, 0, 0, 0, 0, 0, 0, 0, 0, 0, 0, 0, 0, 0, 0, 0, 0, 0], .array 65 5 1⟩ := ⟨⟨Tryz.t174, inf_174, rfl, rfl, rfl⟩, ⟨_, Tryz.underlying174, rfl, ⟨rfl, sz_5⟩⟩, rfl, rfl, fun h => absurd h (by decide)⟩
theorem tok_175 : TOk1 Tryz.prog 175 ⟨1, false, 8, [], Value.nilFunc, [0], .other⟩ := ⟨⟨Tryz.t175, inf_175, rfl, rfl, rfl⟩, ⟨_, Tryz.underlying175, rfl, trivial⟩, rfl, rfl, fun h => absurd h (by decide)⟩
theorem tok_177 : TOk1 Tryz.prog 177 ⟨1, false, 8, [], Value.nilFunc, [0], .other⟩ := ⟨⟨Tryz.t177, inf_177, rfl, rfl, rfl⟩, ⟨_, Tryz.underlying177, rfl, trivial⟩, rfl, rfl, fun h => absurd h (by decide)⟩
theorem tok_178 : TOk1 Tryz.prog 178 ⟨32, true, 32, [], Value.agg #[Value.int IntKind.u8 0, Value.int IntKind.u8 0, Value.int IntKind.u8 0, Value.int IntKind.u8 0, Value.int IntKind.u8 0, Value.int IntKind.u8 0, Value.int IntKind.u8 0, Value.int IntKind.u8 0, Value.int IntKind.u8 0, Value.int IntKind.u8 0, Value.int IntKind.u8 0, Value.int IntKind.u8 0, Value.int IntKind.u8 0, Value.int IntKind.u8 0, Value.int IntKind.u8 0, Value.int IntKind.u8 0, Value.int IntKind.u8 0, Value.int IntKind.u8 0, Value.int IntKind.u8 0, Value.int IntKind.u8 0, Value.int IntKind.u8 0, Value.int IntKind.u8 0, Value.int IntKind.u8 0, Value.int IntKind.u8 0, Value.int IntKind.u8 0, Value.int IntKind.u8 0, Value.int IntKind.u8 0, Value.int IntKind.u8 0, Value.int IntKind.u8 0, Value.int IntKind.u8 0, Value.int IntKind.u8 0, Value.int IntKind.u8 0], [0, 0, 0, 0, 0, 0, 0, 0, 0, 0, 0, 0, 0, 0, 0, 0, 0, 0, 0, 0, 0, 0, 0, 0, 0, 0, 0, 0, 0, 0, 0, 0], .array 32 5 1⟩ := ⟨⟨Tryz.t178, inf_178, rfl, rfl, rfl⟩, ⟨_, Tryz.underlying178, rfl, ⟨rfl, sz_5⟩⟩, rfl, rfl, fun h => absurd h (by decide)⟩
theorem tok_179 : TOk1 Tryz.prog 179 ⟨64, true, 64, [], Value.agg #[Value.int IntKind.u8 0, Value.int IntKind.u8 0, Value.int IntKind.u8 0, Value.int IntKind.u8 0, Value.int IntKind.u8 0, Value.int IntKind.u8 0, Value.int IntKind.u8 0, Value.int IntKind.u8 0, Value.int IntKind.u8 0, Value.int IntKind.u8 0, Value.int IntKind.u8 0, Value.int IntKind.u8 0, Value.int IntKind.u8 0, Value.int IntKind.u8 0, Value.int IntKind.u8 0, Value.int IntKind.u8 0, Value.int IntKind.u8 0, Value.int IntKind.u8 0, Value.int IntKind.u8 0, Value.int IntKind.u8 0, Value.int IntKind.u8 0, Value.int IntKind.u8 0, Value.int IntKind.u8 0, Value.int IntKind.u8 0, Value.int IntKind.u8 0, Value.int IntKind.u8 0, Value.int IntKind.u8 0, Value.int IntKind.u8 0, Value.int IntKind.u8 0, Value.int IntKind.u8 0, Value.int IntKind.u8 0, Value.int IntKind.u8 0, Value.int IntKind.u8 0, Value.int IntKind.u8 0, Value.int IntKind.u8 0, Value.int IntKind.u8 0, Value.int IntKind.u8 0, Value.int IntKind.u8 0, Value.int IntKind.u8 0, Value.int IntKind.u8 0, Value.int IntKind.u8 0, Value.int IntKind.u8 0, Value.int IntKind.u8 0, Value.int IntKind.u8 0, Value.int IntKind.u8 0, Value.int IntKind.u8 0, Value.int IntKind.u8 0, Value.int IntKind.u8 0, Value.int IntKind.u8 0, Value.int IntKind.u8 0, Value.int IntKind.u8 0, Value.int IntKind.u8 0, Value.int IntKind.u8 0, Value.int IntKind.u8 0, Value.int IntKind.u8 0, Value.int IntKind.u8 0, Value.int IntKind.u8 0, Value.int IntKind.u8 0, Value.int IntKind.u8 0, Value.int IntKind.u8 0, Value.int IntKind.u8 0, Value.int IntKind.u8 0, Value.int IntKind.u8 0, Value.int IntKind.u8 0], [0, 0, 0, 0, 0, 0, 0, 0, 0, 0, 0, 0, 0, 0, 0, 0, 0, 0, 0, 0, 0, 0, 0, 0, 0, 0, 0, 0, 0, 0, 0, 0, 0, 0, 0, 0, 0, 0, 0, 0, 0, 0, 0, 0, 0, 0, 0, 0, 0, 0, 0, 0, 0, 0, 0, 0, 0, 0, 0, 0, 0, 0, 0, 0], .array 64 5 1⟩ := ⟨⟨Tryz.t179, inf_179, rfl, rfl, rfl⟩, ⟨_, Tryz.underlying179, rfl, ⟨rfl, sz_5⟩⟩, rfl, rfl, fun h => absurd h (by decide)⟩
theorem tok_180 : TOk1 Tryz.prog 180 ⟨1, false, 8, [], Value.nilFunc, [0], .other⟩ := ⟨⟨Tryz.t180, inf_180, rfl, rfl, rfl⟩, ⟨_, Tryz.underlying180, rfl, trivial⟩, rfl, rfl, fun h => absurd h (by decide)⟩
theorem tok_181 : TOk1 Tryz.prog 181 ⟨4, true, 40, [], Value.agg #[Value.pointer none, Value.pointer none, Value.pointer none, Value.string { data := #[] }], [0, 0, 0, 0], .struct [(0, 17, 1), (1, 17, 1), (2, 17, 1), (3, 9, 1)]⟩ := ⟨⟨Tryz.t181, inf_181, rfl, rfl, rfl⟩, ⟨_, Tryz.underlying181, rfl, ⟨_, rfl, rfl, List.forall_mem_cons.2 ⟨sz_17, List.forall_mem_cons.2 ⟨sz_17, List.forall_mem_cons.2 ⟨sz_17, List.forall_mem_cons.2 ⟨sz_9, fun _ h => by cases h⟩⟩⟩⟩⟩⟩, rfl, rfl, fun h => absurd h (by decide)⟩
theorem tok_182 : TOk1 Tryz.prog 182 ⟨4, true, 40, [], Value.agg #[Value.pointer none, Value.pointer none, Value.pointer none, Value.string { data := #[] }], [0, 0, 0, 0], .struct [(0, 17, 1), (1, 17, 1), (2, 17, 1), (3, 9, 1)]⟩ := ⟨⟨Tryz.t182, inf_182, rfl, rfl, rfl⟩, ⟨_, Tryz.underlying182, rfl, ⟨_, rfl, rfl, List.forall_mem_cons.2 ⟨sz_17, List.forall_mem_cons.2 ⟨sz_17, List.forall_mem_cons.2 ⟨sz_17, List.forall_mem_cons.2 ⟨sz_9, fun _ h => by cases h⟩⟩⟩⟩⟩⟩, rfl, rfl, fun h => absurd h (by decide)⟩
theorem tok_183 : TOk1 Tryz.prog 183 ⟨0, true, 0, [], Value.agg #[], [], .array 0 16 1⟩ := ⟨⟨Tryz.t183, inf_183, rfl, rfl, rfl⟩, ⟨_, Tryz.underlying183, rfl, ⟨rfl, sz_16⟩⟩, rfl, rfl, fun h => absurd h (by decide)⟩
theorem tok_184 : TOk1 Tryz.prog 184 ⟨0, true, 0, [], Value.agg #[], [], .struct [(0, 183, 0)]⟩ := ⟨⟨Tryz.t184, inf_184, rfl, rfl, rfl⟩, ⟨_, Tryz.underlying184, rfl, ⟨_, rfl, rfl, List.forall_mem_cons.2 ⟨sz_183, fun _ h => by cases h⟩⟩⟩, rfl, rfl, fun h => absurd h (by decide)⟩
theorem tok_185 : TOk1 Tryz.prog 185 ⟨0, true, 0, [], Value.agg #[], [], .struct [(0, 183, 0)]⟩ := ⟨⟨Tryz.t185, inf_185, rfl, rfl, rfl⟩, ⟨_, Tryz.underlying185, rfl, ⟨_, rfl, rfl, List.forall_mem_cons.2 ⟨sz_183, fun _ h => by cases h⟩⟩⟩, rfl, rfl, fun h => absurd h (by decide)⟩
theorem tok_186 : TOk1 Tryz.prog 186 ⟨1, false, 8, [], Value.nilFunc, [0], .other⟩ := ⟨⟨Tryz.t186, inf_186, rfl, rfl, rfl⟩, ⟨_, Tryz.underlying186, rfl, trivial⟩, rfl, rfl, fun h => absurd h (by decide)⟩
theorem tok_187 : TOk1 Tryz.prog 187 ⟨1, false, 1, [], Value.int IntKind.u8 0, [0], .int .u8⟩ := ⟨⟨Tryz.t187, inf_187, rfl, rfl, rfl⟩, ⟨_, Tryz.underlying187, rfl, rfl⟩, rfl, rfl, fun h => absurd h (by decide)⟩
theorem tok_188 : TOk1 Tryz.prog 188 ⟨1, false, 1, [], Value.int IntKind.u8 0, [0], .int .u8⟩ := ⟨⟨Tryz.t188, inf_188, rfl, rfl, rfl⟩, ⟨_, Tryz.underlying188, rfl, rfl⟩, rfl, rfl, fun h => absurd h (by decide)⟩
theorem tok_189 : TOk1 Tryz.prog 189 ⟨1, false, 8, [], Value.nilFunc, [0], .other⟩ := ⟨⟨Tryz.t189, inf_189, rfl, rfl, rfl⟩, ⟨_, Tryz.underlying189, rfl, trivial⟩, rfl, rfl, fun h => absurd h (by decide)⟩
theorem tok_190 : TOk1 Tryz.prog 190 ⟨1, false, 8, [], Value.pointer none, [0], .other⟩ := ⟨⟨Tryz.t190, inf_190, rfl, rfl, rfl⟩, ⟨_, Tryz.underlying190, rfl, trivial⟩, rfl, rfl, fun h => absurd h (by decide)⟩
theorem tok_191 : TOk1 Tryz.prog 191 ⟨1, false, 4, [], Value.int IntKind.i32 0, [0], .int .i32⟩ := ⟨⟨Tryz.t191, inf_191, rfl, rfl, rfl⟩, ⟨_, Tryz.underlying191, rfl, rfl⟩, rfl, rfl, fun h => absurd h (by decide)⟩
theorem tok_192 : TOk1 Tryz.prog 192 ⟨1, false, 4, [], Value.int IntKind.i32 0, [0], .int .i32⟩ := ⟨⟨Tryz.t192, inf_192, rfl, rfl, rfl⟩, ⟨_, Tryz.underlying192, rfl, rfl⟩, rfl, rfl, fun h => absurd h (by decide)⟩
theorem tok_193 : TOk1 Tryz.prog 193 ⟨11, true, 48, [], Value.agg #[Value.int IntKind.u64 0, Value.int IntKind.u64 0, Value.int IntKind.u32 0, Value.int IntKind.u8 0, Value.int IntKind.u8 0, Value.int IntKind.u8 0, Value.int IntKind.u8 0, Value.nilFunc, Value.pointer none, Value.int IntKind.i32 0, Value.int IntKind.i32 0], [0, 0, 0, 0, 0, 0, 0, 0, 0, 0, 0], .struct [(0, 12, 1), (1, 12, 1), (2, 143, 1), (3, 187, 1), (4, 5, 1), (5, 5, 1), (6, 188, 1), (7, 189, 1), (8, 190, 1), (9, 191, 1), (10, 192, 1)]⟩ := ⟨⟨Tryz.t193, inf_193, rfl, rfl, rfl⟩, ⟨_, Tryz.underlying193, rfl, ⟨_, rfl, rfl, List.forall_mem_cons.2 ⟨sz_12, List.forall_mem_cons.2 ⟨sz_12, List.forall_mem_cons.2 ⟨sz_143, List.forall_mem_cons.2 ⟨sz_187, List.forall_mem_cons.2 ⟨sz_5, List.forall_mem_cons.2 ⟨sz_5, List.forall_mem_cons.2 ⟨sz_188, List.forall_mem_cons.2 ⟨sz_189, List.forall_mem_cons.2 ⟨sz_190, List.forall_mem_cons.2 ⟨sz_191, List.forall_mem_cons.2 ⟨sz_192, fun _ h => by cases h⟩⟩⟩⟩⟩⟩⟩⟩⟩⟩⟩⟩⟩, rfl, rfl, fun h => absurd h (by decide)⟩
theorem tok_194 : TOk1 Tryz.prog 194 ⟨11, true, 48, [], Value.agg #[Value.int IntKind.u64 0, Value.int IntKind.u64 0, Value.int IntKind.u32 0, Value.int IntKind.u8 0, Value.int IntKind.u8 0, Value.int IntKind.u8 0, Value.int IntKind.u8 0, Value.nilFunc, Value.pointer none, Value.int IntKind.i32 0, Value.int IntKind.i32 0], [0, 0, 0, 0, 0, 0, 0, 0, 0, 0, 0], .struct [(0, 12, 1), (1, 12, 1), (2, 143, 1), (3, 187, 1), (4, 5, 1), (5, 5, 1), (6, 188, 1), (7, 189, 1), (8, 190, 1), (9, 191, 1), (10, 192, 1)]⟩ := ⟨⟨Tryz.t194, inf_194, rfl, rfl, rfl⟩, ⟨_, Tryz.underlying194, rfl, ⟨_, rfl, rfl, List.forall_mem_cons.2 ⟨sz_12, List.forall_mem_cons.2 ⟨sz_12, List.forall_mem_cons.2 ⟨sz_143, List.forall_mem_cons.2 ⟨sz_187, List.forall_mem_cons.2 ⟨sz_5, List.forall_mem_cons.2 ⟨sz_5, List.forall_mem_cons.2 ⟨sz_188, List.forall_mem_cons.2 ⟨sz_189, List.forall_mem_cons.2 ⟨sz_190, List.forall_mem_cons.2 ⟨sz_191, List.forall_mem_cons.2 ⟨sz_192, fun _ h => by cases h⟩⟩⟩⟩⟩⟩⟩⟩⟩⟩⟩⟩⟩, rfl, rfl, fun h => absurd h (by decide)⟩
theorem tok_195 : TOk1 Tryz.prog 195 ⟨1, false, 8, [], Value.pointer none, [0], .other⟩ := ⟨⟨Tryz.t195, inf_195, rfl, rfl, rfl⟩, ⟨_, Tryz.underlying195, rfl, trivial⟩, rfl, rfl, fun h => absurd h (by decide)⟩
theorem tokA : TOk Tryz.prog tOfA := by
  intro t
  unfold tOfA
  split
  · exact fun _ => tok_1
  · exact fun _ => tok_2
  · exact fun _ => tok_3
  · exact fun _ => tok_4
  · exact fun _ => tok_5
  · exact fun _ => tok_6
  · exact fun _ => tok_7
  · exact fun _ => tok_8
  · exact fun _ => tok_9
  · exact fun _ => tok_10
  · exact fun _ => tok_11
  · exact fun _ => tok_12
  · exact fun _ => tok_13
  · exact fun _ => tok_14
  · exact fun _ => tok_15
  · exact fun _ => tok_16
  · exact fun _ => tok_17
  · exact fun _ => tok_18
  · exact fun _ => tok_19
  · exact fun _ => tok_20
  · exact fun _ => tok_21
  · exact fun _ => tok_22
  · exact fun _ => tok_23
  · exact fun _ => tok_24
  · exact fun _ => tok_25
  · exact fun _ => tok_26
  · exact fun _ => tok_27
  · exact fun _ => tok_28
  · exact fun _ => tok_29
  · exact fun _ => tok_30
  · exact fun _ => tok_32
  · exact fun _ => tok_33
  · exact fun _ => tok_35
  · exact fun _ => tok_36
  · exact fun _ => tok_37
  · exact fun _ => tok_38
  · exact fun _ => tok_39
  · exact fun _ => tok_40
  · exact fun _ => tok_41
  · exact fun _ => tok_42
  · exact fun _ => tok_43
  · exact fun _ => tok_44
  · exact fun _ => tok_45
  · exact fun _ => tok_46
  · exact fun _ => tok_47
  · exact fun _ => tok_48
  · exact fun _ => tok_49
  · exact fun _ => tok_50
  · exact fun _ => tok_51
  · exact fun _ => tok_52
  · exact fun _ => tok_53
  · exact fun _ => tok_54
  · exact fun _ => tok_55
  · exact fun _ => tok_56
  · exact fun _ => tok_57
  · exact fun _ => tok_58
  · exact fun _ => tok_59
  · exact fun _ => tok_60
  · exact fun _ => tok_61
  · exact fun _ => tok_62
  · exact fun _ => tok_63
  · exact fun _ => tok_64
  · exact fun _ => tok_65
  · exact fun _ => tok_66
  · exact fun _ => tok_67
  · exact fun _ => tok_68
  · exact fun _ => tok_69
  · exact fun _ => tok_70
  · exact fun _ => tok_71
  · exact fun _ => tok_72
  · exact fun _ => tok_73
  · exact fun _ => tok_74
  · exact fun _ => tok_75
  · exact fun _ => tok_76
  · exact fun _ => tok_77
  · exact fun _ => tok_78
  · exact fun _ => tok_79
  · exact fun _ => tok_80
  · exact fun _ => tok_81
  · exact fun _ => tok_82
  · exact fun _ => tok_84
  · exact fun _ => tok_85
  · exact fun _ => tok_86
  · exact fun _ => tok_87
  · exact fun _ => tok_88
  · exact fun _ => tok_89
  · exact fun _ => tok_90
  · exact fun _ => tok_91
  · exact fun _ => tok_92
  · exact fun _ => tok_93
  · exact fun _ => tok_94
  · exact fun _ => tok_95
  · exact fun _ => tok_96
  · exact fun _ => tok_97
  · exact fun _ => tok_98
  · exact fun _ => tok_99
  · intro h; cases h
theorem tokB : TOk Tryz.prog tOfB := by
  intro t
  unfold tOfB
  split
  · exact fun _ => tok_100
  · exact fun _ => tok_101
  · exact fun _ => tok_102
  · exact fun _ => tok_103
  · exact fun _ => tok_104
  · exact fun _ => tok_105
  · exact fun _ => tok_106
  · exact fun _ => tok_107
  · exact fun _ => tok_108
  · exact fun _ => tok_109
  · exact fun _ => tok_110
  · exact fun _ => tok_111
  · exact fun _ => tok_112
  · exact fun _ => tok_113
  · exact fun _ => tok_114
  · exact fun _ => tok_115
  · exact fun _ => tok_116
  · exact fun _ => tok_117
  · exact fun _ => tok_118
  · exact fun _ => tok_119
  · exact fun _ => tok_120
  · exact fun _ => tok_121
  · exact fun _ => tok_122
  · exact fun _ => tok_123
  · exact fun _ => tok_124
  · exact fun _ => tok_125
  · exact fun _ => tok_126
  · exact fun _ => tok_127
  · exact fun _ => tok_128
  · exact fun _ => tok_129
  · exact fun _ => tok_130
  · exact fun _ => tok_131
  · exact fun _ => tok_132
  · exact fun _ => tok_133
  · exact fun _ => tok_134
  · exact fun _ => tok_135
  · exact fun _ => tok_137
  · exact fun _ => tok_138
  · exact fun _ => tok_139
  · exact fun _ => tok_141
  · exact fun _ => tok_142
  · exact fun _ => tok_143
  · exact fun _ => tok_144
  · exact fun _ => tok_145
  · exact fun _ => tok_146
  · exact fun _ => tok_147
  · exact fun _ => tok_148
  · exact fun _ => tok_149
  · exact fun _ => tok_150
  · exact fun _ => tok_151
  · exact fun _ => tok_153
  · exact fun _ => tok_154
  · exact fun _ => tok_155
  · exact fun _ => tok_156
  · exact fun _ => tok_157
  · exact fun _ => tok_158
  · exact fun _ => tok_159
  · exact fun _ => tok_160
  · exact fun _ => tok_161
  · exact fun _ => tok_162
  · exact fun _ => tok_163
  · exact fun _ => tok_164
  · exact fun _ => tok_166
  · exact fun _ => tok_167
  · exact fun _ => tok_169
  · exact fun _ => tok_170
  · exact fun _ => tok_171
  · exact fun _ => tok_172
  · exact fun _ => tok_173
  · exact fun _ => tok_174
  · exact fun _ => tok_175
  · exact fun _ => tok_177
  · exact fun _ => tok_178
  · exact fun _ => tok_179
  · exact fun _ => tok_180
  · exact fun _ => tok_181
  · exact fun _ => tok_182
  · exact fun _ => tok_183
  · exact fun _ => tok_184
  · exact fun _ => tok_185
  · exact fun _ => tok_186
  · exact fun _ => tok_187
  · exact fun _ => tok_188
  · exact fun _ => tok_189
  · exact fun _ => tok_190
  · exact fun _ => tok_191
  · exact fun _ => tok_192
  · exact fun _ => tok_193
  · exact fun _ => tok_194
  · exact fun _ => tok_195
  · intro h; cases h
theorem tok : TOk Tryz.prog tOf := by
  intro t
  unfold tOf
  cases Nat.ble t 99
  · exact tokB t
  · exact tokA t
theorem noeqsA : ∀ t, (tOfA t).eqs = true → (tOfA t).known = true := by
  intro t
  unfold tOfA
  split <;> first | exact fun _ => rfl | exact fun h => absurd h (by decide)
theorem noeqsB : ∀ t, (tOfB t).eqs = true → (tOfB t).known = true := by
  intro t
  unfold tOfB
  split <;> first | exact fun _ => rfl | exact fun h => absurd h (by decide)
theorem noeqs : ∀ t, (tOf t).eqs = true → (tOf t).known = true := by
  intro t
  unfold tOf
  cases Nat.ble t 99
  · exact noeqsB t
  · exact noeqsA t
theorem mixed : Tryz.prog.follows .mixedOrders = true := by kernel_rfl
end Go.Proofs.YtljdbikodogeiaaGreatDoor

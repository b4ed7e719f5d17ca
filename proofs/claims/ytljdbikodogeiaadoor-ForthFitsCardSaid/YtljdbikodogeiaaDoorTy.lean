/-
  The table of the types of the program, and that it is the program's. Printed by wip/tools/types.py.
-/
import Derived.Test.YtljdbikodogeiaaDoorEvU
namespace Go.Proofs.YtljdbikodogeiaaDoor
open Go.RowKit
theorem sizeIs_of {P : Program} {t : Nat} {ti : TypeInfo} (h : P.info? t = some ti) : SizeIs P t ti.size := by
  unfold SizeIs
  rw [h]
  rfl
def tOf : Nat → TI
  | 1 => ⟨1, false, 8, [], Value.nilFunc, [0], .other⟩
  | 2 => ⟨1, false, 8, [], Value.int IntKind.i64 0, [0], .int .i64⟩
  | 3 => ⟨1, false, 8, [], Value.int IntKind.i64 0, [0], .int .i64⟩
  | 4 => ⟨1, false, 1, [], Value.bool false, [0], .bool⟩
  | 5 => ⟨1, false, 1, [], Value.int IntKind.u8 0, [0], .int .u8⟩
  | 6 => ⟨1, false, 1, [], Value.int IntKind.u8 0, [0], .int .u8⟩
  | 7 => ⟨4, true, 24, [], Value.agg #[Value.int IntKind.i64 0, Value.int IntKind.i64 0, Value.bool false, Value.int IntKind.u8 0], [0, 0, 0, 0], .struct [(0, 2, 1), (1, 3, 1), (2, 4, 1), (3, 6, 1)]⟩
  | 8 => ⟨4, true, 24, [], Value.agg #[Value.int IntKind.i64 0, Value.int IntKind.i64 0, Value.bool false, Value.int IntKind.u8 0], [0, 0, 0, 0], .struct [(0, 2, 1), (1, 3, 1), (2, 4, 1), (3, 6, 1)]⟩
  | 9 => ⟨1, false, 16, [], Value.string { data := #[] }, [0], .str⟩
  | 10 => ⟨1, false, 16, [], Value.string { data := #[] }, [0], .str⟩
  | 11 => ⟨1, false, 16, [], Value.string { data := #[] }, [0], .str⟩
  | 12 => ⟨1, false, 8, [], Value.int IntKind.u64 0, [0], .int .u64⟩
  | 13 => ⟨2, true, 24, [], Value.agg #[Value.string { data := #[] }, Value.int IntKind.u64 0], [0, 0], .struct [(0, 9, 1), (1, 12, 1)]⟩
  | 14 => ⟨2, true, 24, [], Value.agg #[Value.string { data := #[] }, Value.int IntKind.u64 0], [0, 0], .struct [(0, 9, 1), (1, 12, 1)]⟩
  | 15 => ⟨1, false, 8, [], Value.pointer none, [0], .other⟩
  | 16 => ⟨1, false, 8, [], Value.pointer none, [0], .other⟩
  | 17 => ⟨1, false, 8, [], Value.pointer none, [0], .other⟩
  | 18 => ⟨1, true, 8, [], Value.agg #[Value.pointer none], [0], .struct [(0, 17, 1)]⟩
  | 19 => ⟨1, true, 8, [], Value.agg #[Value.pointer none], [0], .struct [(0, 17, 1)]⟩
  | 20 => ⟨1, false, 16, [], Value.nilIface, [0], .other⟩
  | 21 => ⟨1, false, 4, [], Value.int IntKind.i32 0, [0], .int .i32⟩
  | 22 => ⟨1, false, 24, [], Value.slice none 0 0, [1], .slice 9 1⟩
  | 23 => ⟨22, true, 192, [], Value.agg #[Value.string { data := #[] }, Value.int IntKind.i64 0, Value.int IntKind.i64 0, Value.int IntKind.i64 0, Value.bool false, Value.int IntKind.i64 0, Value.bool false, Value.bool false, Value.int IntKind.i64 0, Value.int IntKind.i64 0, Value.int IntKind.i64 0, Value.int IntKind.i64 0, Value.slice none 0 0, Value.int IntKind.i64 0, Value.int IntKind.i64 0, Value.int IntKind.i64 0, Value.int IntKind.i64 0, Value.bool false, Value.int IntKind.i64 0, Value.int IntKind.i64 0, Value.int IntKind.i64 0, Value.int IntKind.i64 0], [0, 0, 0, 0, 0, 0, 0, 0, 0, 0, 0, 0, 1, 0, 0, 0, 0, 0, 0, 0, 0, 0], .struct [(0, 9, 1), (1, 3, 1), (2, 3, 1), (3, 3, 1), (4, 4, 1), (5, 3, 1), (6, 4, 1), (7, 4, 1), (8, 3, 1), (9, 3, 1), (10, 3, 1), (11, 3, 1), (12, 22, 1), (13, 3, 1), (14, 3, 1), (15, 3, 1), (16, 3, 1), (17, 4, 1), (18, 3, 1), (19, 3, 1), (20, 3, 1), (21, 3, 1)]⟩
  | 24 => ⟨22, true, 192, [], Value.agg #[Value.string { data := #[] }, Value.int IntKind.i64 0, Value.int IntKind.i64 0, Value.int IntKind.i64 0, Value.bool false, Value.int IntKind.i64 0, Value.bool false, Value.bool false, Value.int IntKind.i64 0, Value.int IntKind.i64 0, Value.int IntKind.i64 0, Value.int IntKind.i64 0, Value.slice none 0 0, Value.int IntKind.i64 0, Value.int IntKind.i64 0, Value.int IntKind.i64 0, Value.int IntKind.i64 0, Value.bool false, Value.int IntKind.i64 0, Value.int IntKind.i64 0, Value.int IntKind.i64 0, Value.int IntKind.i64 0], [0, 0, 0, 0, 0, 0, 0, 0, 0, 0, 0, 0, 1, 0, 0, 0, 0, 0, 0, 0, 0, 0], .struct [(0, 9, 1), (1, 3, 1), (2, 3, 1), (3, 3, 1), (4, 4, 1), (5, 3, 1), (6, 4, 1), (7, 4, 1), (8, 3, 1), (9, 3, 1), (10, 3, 1), (11, 3, 1), (12, 22, 1), (13, 3, 1), (14, 3, 1), (15, 3, 1), (16, 3, 1), (17, 4, 1), (18, 3, 1), (19, 3, 1), (20, 3, 1), (21, 3, 1)]⟩
  | 25 => ⟨1, false, 24, [], Value.slice none 0 0, [12], .slice 34 12⟩
  | 26 => ⟨1, false, 24, [], Value.slice none 0 0, [1], .slice 3 1⟩
  | 27 => ⟨1, false, 8, [], Value.nilFunc, [0], .other⟩
  | 28 => ⟨1, false, 24, [], Value.slice none 0 0, [2], .slice 50 2⟩
  | 29 => ⟨1, false, 8, [], Value.int IntKind.i64 0, [0], .int .i64⟩
  | 31 => ⟨1, false, 8, [], Value.nilFunc, [0], .other⟩
  | 32 => ⟨1, false, 8, [], Value.nilFunc, [0], .other⟩
  | 33 => ⟨12, true, 136, [], Value.agg #[Value.int IntKind.i64 0, Value.int IntKind.i64 0, Value.slice none 0 0, Value.int IntKind.i64 0, Value.int IntKind.i64 0, Value.int IntKind.i64 0, Value.int IntKind.i64 0, Value.int IntKind.i64 0, Value.int IntKind.i64 0, Value.string { data := #[] }, Value.slice none 0 0, Value.int IntKind.i64 0], [0, 0, 1, 0, 0, 0, 0, 0, 0, 0, 1, 0], .struct [(0, 3, 1), (1, 3, 1), (2, 26, 1), (3, 3, 1), (4, 3, 1), (5, 3, 1), (6, 3, 1), (7, 3, 1), (8, 3, 1), (9, 9, 1), (10, 26, 1), (11, 3, 1)]⟩
  | 34 => ⟨12, true, 136, [], Value.agg #[Value.int IntKind.i64 0, Value.int IntKind.i64 0, Value.slice none 0 0, Value.int IntKind.i64 0, Value.int IntKind.i64 0, Value.int IntKind.i64 0, Value.int IntKind.i64 0, Value.int IntKind.i64 0, Value.int IntKind.i64 0, Value.string { data := #[] }, Value.slice none 0 0, Value.int IntKind.i64 0], [0, 0, 1, 0, 0, 0, 0, 0, 0, 0, 1, 0], .struct [(0, 3, 1), (1, 3, 1), (2, 26, 1), (3, 3, 1), (4, 3, 1), (5, 3, 1), (6, 3, 1), (7, 3, 1), (8, 3, 1), (9, 9, 1), (10, 26, 1), (11, 3, 1)]⟩
  | 35 => ⟨1, false, 24, [], Value.slice none 0 0, [11], .slice 41 11⟩
  | 37 => ⟨1, false, 8, [], Value.nilFunc, [0], .other⟩
  | 38 => ⟨1, false, 8, [], Value.nilFunc, [0], .other⟩
  | 39 => ⟨1, false, 8, [], Value.nilFunc, [0], .other⟩
  | 40 => ⟨11, true, 112, [], Value.agg #[Value.int IntKind.i64 0, Value.int IntKind.i64 0, Value.int IntKind.i64 0, Value.int IntKind.i64 0, Value.int IntKind.i64 0, Value.int IntKind.i64 0, Value.int IntKind.i64 0, Value.int IntKind.i64 0, Value.int IntKind.i64 0, Value.string { data := #[] }, Value.slice none 0 0], [0, 0, 0, 0, 0, 0, 0, 0, 0, 0, 1], .struct [(0, 3, 1), (1, 3, 1), (2, 3, 1), (3, 3, 1), (4, 3, 1), (5, 3, 1), (6, 3, 1), (7, 3, 1), (8, 3, 1), (9, 9, 1), (10, 26, 1)]⟩
  | 41 => ⟨11, true, 112, [], Value.agg #[Value.int IntKind.i64 0, Value.int IntKind.i64 0, Value.int IntKind.i64 0, Value.int IntKind.i64 0, Value.int IntKind.i64 0, Value.int IntKind.i64 0, Value.int IntKind.i64 0, Value.int IntKind.i64 0, Value.int IntKind.i64 0, Value.string { data := #[] }, Value.slice none 0 0], [0, 0, 0, 0, 0, 0, 0, 0, 0, 0, 1], .struct [(0, 3, 1), (1, 3, 1), (2, 3, 1), (3, 3, 1), (4, 3, 1), (5, 3, 1), (6, 3, 1), (7, 3, 1), (8, 3, 1), (9, 9, 1), (10, 26, 1)]⟩
  | 42 => ⟨1, false, 8, [], Value.nilFunc, [0], .other⟩
  | 43 => ⟨1, false, 8, [], Value.nilFunc, [0], .other⟩
  | 44 => ⟨1, false, 8, [], Value.nilFunc, [0], .other⟩
  | 45 => ⟨1, false, 8, [], Value.nilFunc, [0], .other⟩
  | 46 => ⟨1, false, 8, [], Value.nilFunc, [0], .other⟩
  | 47 => ⟨1, false, 8, [], Value.nilFunc, [0], .other⟩
  | 48 => ⟨1, false, 8, [], Value.nilFunc, [0], .other⟩
  | 49 => ⟨2, true, 16, [.i .i64, .i .i64], Value.agg #[Value.int IntKind.i64 0, Value.int IntKind.i64 0], [0, 0], .struct [(0, 3, 1), (1, 3, 1)]⟩
  | 50 => ⟨2, true, 16, [.i .i64, .i .i64], Value.agg #[Value.int IntKind.i64 0, Value.int IntKind.i64 0], [0, 0], .struct [(0, 3, 1), (1, 3, 1)]⟩
  | 51 => ⟨1, false, 8, [], Value.nilFunc, [0], .other⟩
  | 52 => ⟨3, true, 24, [], Value.agg #[Value.bool false, Value.int IntKind.i64 0, Value.int IntKind.i64 0], [0, 0, 0], .struct [(0, 4, 1), (1, 50, 2)]⟩
  | 53 => ⟨3, true, 24, [], Value.agg #[Value.bool false, Value.int IntKind.i64 0, Value.int IntKind.i64 0], [0, 0, 0], .struct [(0, 4, 1), (1, 50, 2)]⟩
  | 54 => ⟨1, false, 8, [], Value.nilFunc, [0], .other⟩
  | 55 => ⟨1, false, 8, [], Value.nilFunc, [0], .other⟩
  | 56 => ⟨25, true, 264, [], Value.agg #[Value.string { data := #[] }, Value.int IntKind.i64 0, Value.int IntKind.i64 0, Value.int IntKind.i64 0, Value.bool false, Value.int IntKind.i64 0, Value.bool false, Value.bool false, Value.int IntKind.i64 0, Value.int IntKind.i64 0, Value.int IntKind.i64 0, Value.int IntKind.i64 0, Value.slice none 0 0, Value.int IntKind.i64 0, Value.int IntKind.i64 0, Value.int IntKind.i64 0, Value.int IntKind.i64 0, Value.bool false, Value.int IntKind.i64 0, Value.int IntKind.i64 0, Value.int IntKind.i64 0, Value.int IntKind.i64 0, Value.slice none 0 0, Value.slice none 0 0, Value.slice none 0 0], [0, 0, 0, 0, 0, 0, 0, 0, 0, 0, 0, 0, 1, 0, 0, 0, 0, 0, 0, 0, 0, 0, 2, 12, 1], .struct [(0, 24, 22), (22, 28, 1), (23, 25, 1), (24, 26, 1)]⟩
  | 57 => ⟨25, true, 264, [], Value.agg #[Value.string { data := #[] }, Value.int IntKind.i64 0, Value.int IntKind.i64 0, Value.int IntKind.i64 0, Value.bool false, Value.int IntKind.i64 0, Value.bool false, Value.bool false, Value.int IntKind.i64 0, Value.int IntKind.i64 0, Value.int IntKind.i64 0, Value.int IntKind.i64 0, Value.slice none 0 0, Value.int IntKind.i64 0, Value.int IntKind.i64 0, Value.int IntKind.i64 0, Value.int IntKind.i64 0, Value.bool false, Value.int IntKind.i64 0, Value.int IntKind.i64 0, Value.int IntKind.i64 0, Value.int IntKind.i64 0, Value.slice none 0 0, Value.slice none 0 0, Value.slice none 0 0], [0, 0, 0, 0, 0, 0, 0, 0, 0, 0, 0, 0, 1, 0, 0, 0, 0, 0, 0, 0, 0, 0, 2, 12, 1], .struct [(0, 24, 22), (22, 28, 1), (23, 25, 1), (24, 26, 1)]⟩
  | 58 => ⟨1, false, 8, [], Value.nilFunc, [0], .other⟩
  | 59 => ⟨1, false, 8, [], Value.nilFunc, [0], .other⟩
  | 60 => ⟨1, false, 8, [], Value.nilFunc, [0], .other⟩
  | 61 => ⟨1, false, 8, [], Value.nilFunc, [0], .other⟩
  | 62 => ⟨1, false, 8, [], Value.nilFunc, [0], .other⟩
  | 63 => ⟨1, false, 8, [], Value.nilFunc, [0], .other⟩
  | 64 => ⟨1, false, 8, [], Value.nilFunc, [0], .other⟩
  | 65 => ⟨1, false, 24, [], Value.slice none 0 0, [3], .slice 53 3⟩
  | 66 => ⟨1, false, 8, [], Value.nilFunc, [0], .other⟩
  | 67 => ⟨1, false, 8, [], Value.nilFunc, [0], .other⟩
  | 68 => ⟨1, false, 8, [], Value.nilFunc, [0], .other⟩
  | 69 => ⟨2, true, 16, [.i .i64, .i .i64], Value.agg #[Value.int IntKind.i64 0, Value.int IntKind.i64 0], [0, 0], .array 2 3 1⟩
  | 70 => ⟨1, false, 24, [], Value.slice none 0 0, [2], .slice 69 2⟩
  | 71 => ⟨1, false, 8, [], Value.nilFunc, [0], .other⟩
  | 72 => ⟨1, false, 8, [], Value.nilFunc, [0], .other⟩
  | 73 => ⟨1, false, 8, [], Value.nilFunc, [0], .other⟩
  | 74 => ⟨1, false, 8, [], Value.nilFunc, [0], .other⟩
  | 75 => ⟨1, false, 8, [], Value.nilFunc, [0], .other⟩
  | 76 => ⟨1, false, 8, [], Value.nilFunc, [0], .other⟩
  | 77 => ⟨1, false, 8, [], Value.nilFunc, [0], .other⟩
  | 78 => ⟨1, false, 8, [], Value.nilFunc, [0], .other⟩
  | 79 => ⟨1, false, 8, [], Value.nilFunc, [0], .other⟩
  | 80 => ⟨1, false, 8, [], Value.nilFunc, [0], .other⟩
  | 81 => ⟨1, false, 8, [], Value.nilFunc, [0], .other⟩
  | 82 => ⟨1, false, 8, [], Value.nilFunc, [0], .other⟩
  | 83 => ⟨1, false, 8, [], Value.nilFunc, [0], .other⟩
  | 84 => ⟨1, false, 8, [], Value.nilFunc, [0], .other⟩
  | 85 => ⟨1, false, 8, [], Value.nilFunc, [0], .other⟩
  | 86 => ⟨1, false, 8, [], Value.nilFunc, [0], .other⟩
  | 87 => ⟨1, false, 8, [], Value.nilFunc, [0], .other⟩
  | 88 => ⟨1, false, 8, [], Value.nilFunc, [0], .other⟩
  | 90 => ⟨1, false, 8, [], Value.nilFunc, [0], .other⟩
  | 91 => ⟨1, false, 8, [], Value.nilFunc, [0], .other⟩
  | 92 => ⟨24, true, 24, [], Value.agg #[Value.int IntKind.u8 0, Value.int IntKind.u8 0, Value.int IntKind.u8 0, Value.int IntKind.u8 0, Value.int IntKind.u8 0, Value.int IntKind.u8 0, Value.int IntKind.u8 0, Value.int IntKind.u8 0, Value.int IntKind.u8 0, Value.int IntKind.u8 0, Value.int IntKind.u8 0, Value.int IntKind.u8 0, Value.int IntKind.u8 0, Value.int IntKind.u8 0, Value.int IntKind.u8 0, Value.int IntKind.u8 0, Value.int IntKind.u8 0, Value.int IntKind.u8 0, Value.int IntKind.u8 0, Value.int IntKind.u8 0, Value.int IntKind.u8 0, Value.int IntKind.u8 0, Value.int IntKind.u8 0, Value.int IntKind.u8 0], [0, 0, 0, 0, 0, 0, 0, 0, 0, 0, 0, 0, 0, 0, 0, 0, 0, 0, 0, 0, 0, 0, 0, 0], .array 24 5 1⟩
  | 93 => ⟨1, false, 8, [], Value.int IntKind.u64 0, [0], .int .u64⟩
  | 94 => ⟨1, false, 8, [], Value.nilFunc, [0], .other⟩
  | 95 => ⟨1, false, 8, [], Value.nilFunc, [0], .other⟩
  | 96 => ⟨1, false, 24, [], Value.slice none 0 0, [1], .slice 5 1⟩
  | 98 => ⟨1, false, 8, [], Value.nilFunc, [0], .other⟩
  | 99 => ⟨1, false, 8, [], Value.nilFunc, [0], .other⟩
  | 100 => ⟨1, false, 8, [], Value.nilFunc, [0], .other⟩
  | 101 => ⟨20, true, 160, [], Value.agg #[Value.int IntKind.u64 0, Value.int IntKind.u64 0, Value.int IntKind.u64 0, Value.int IntKind.u64 0, Value.int IntKind.u64 0, Value.int IntKind.u64 0, Value.int IntKind.u64 0, Value.int IntKind.u64 0, Value.int IntKind.u64 0, Value.int IntKind.u64 0, Value.int IntKind.u64 0, Value.int IntKind.u64 0, Value.int IntKind.u64 0, Value.int IntKind.u64 0, Value.int IntKind.u64 0, Value.int IntKind.u64 0, Value.int IntKind.u64 0, Value.int IntKind.u64 0, Value.int IntKind.u64 0, Value.int IntKind.u64 0], [0, 0, 0, 0, 0, 0, 0, 0, 0, 0, 0, 0, 0, 0, 0, 0, 0, 0, 0, 0], .array 20 93 1⟩
  | 102 => ⟨1, false, 4, [], Value.int IntKind.u32 0, [0], .int .u32⟩
  | 103 => ⟨65, true, 65, [], Value.agg ([Value.int IntKind.u8 0, Value.int IntKind.u8 0, Value.int IntKind.u8 0, Value.int IntKind.u8 0, Value.int IntKind.u8 0, Value.int IntKind.u8 0, Value.int IntKind.u8 0, Value.int IntKind.u8 0, Value.int IntKind.u8 0, Value.int IntKind.u8 0, Value.int IntKind.u8 0, Value.int IntKind.u8 0, Value.int IntKind.u8 0, Value.int IntKind.u8 0, Value.int IntKind.u8 0, Value.int IntKind.u8 0, Value.int IntKind.u8 0, Value.int IntKind.u8 0, Value.int IntKind.u8 0, Value.int IntKind.u8 0, Value.int IntKind.u8 0, Value.int IntKind.u8 0, Value.int IntKind.u8 0, Value.int IntKind.u8 0, Value.int IntKind.u8 0, Value.int IntKind.u8 0, Value.int IntKind.u8 0, Value.int IntKind.u8 0, Value.int IntKind.u8 0, Value.int IntKind.u8 0, Value.int IntKind.u8 0, Value.int IntKind.u8 0].append [Value.int IntKind.u8 0, Value.int IntKind.u8 0, Value.int IntKind.u8 0, Value.int IntKind.u8 0, Value.int IntKind.u8 0, Value.int IntKind.u8 0, Value.int IntKind.u8 0, Value.int IntKind.u8 0, Value.int IntKind.u8 0, Value.int IntKind.u8 0, Value.int IntKind.u8 0, Value.int IntKind.u8 0, Value.int IntKind.u8 0, Value.int IntKind.u8 0, Value.int IntKind.u8 0, Value.int IntKind.u8 0, Value.int IntKind.u8 0, Value.int IntKind.u8 0, Value.int IntKind.u8 0, Value.int IntKind.u8 0, Value.int IntKind.u8 0, Value.int IntKind.u8 0, Value.int IntKind.u8 0, Value.int IntKind.u8 0, Value.int IntKind.u8 0, Value.int IntKind.u8 0, Value.int IntKind.u8 0, Value.int IntKind.u8 0, Value.int IntKind.u8 0, Value.int IntKind.u8 0, Value.int IntKind.u8 0, Value.int IntKind.u8 0, Value.int IntKind.u8 0]).toArray, [0, 0, 0, 0, 0, 0, 0, 0, 0, 0, 0, 0, 0, 0, 0, 0, 0, 0, 0, 0, 0, 0, 0, 0, 0, 0, 0, 0, 0, 0, 0, 0, 0, 0, 0, 0, 0, 0, 0, 0, 0, 0, 0, 0, 0, 0, 0, 0, 0, 0, 0, 0, 0, 0, 0, 0, 0, 0, 0, 0, 0, 0, 0, 0, 0], .array 65 5 1⟩
  | 104 => ⟨1, false, 8, [], Value.int IntKind.u64 0, [0], .int .u64⟩
  | 105 => ⟨1, false, 8, [], Value.nilFunc, [0], .other⟩
  | 106 => ⟨1, false, 8, [], Value.nilFunc, [0], .other⟩
  | 107 => ⟨1, false, 8, [], Value.nilFunc, [0], .other⟩
  | 109 => ⟨1, false, 8, [], Value.nilFunc, [0], .other⟩
  | 110 => ⟨32, true, 32, [], Value.agg #[Value.int IntKind.u8 0, Value.int IntKind.u8 0, Value.int IntKind.u8 0, Value.int IntKind.u8 0, Value.int IntKind.u8 0, Value.int IntKind.u8 0, Value.int IntKind.u8 0, Value.int IntKind.u8 0, Value.int IntKind.u8 0, Value.int IntKind.u8 0, Value.int IntKind.u8 0, Value.int IntKind.u8 0, Value.int IntKind.u8 0, Value.int IntKind.u8 0, Value.int IntKind.u8 0, Value.int IntKind.u8 0, Value.int IntKind.u8 0, Value.int IntKind.u8 0, Value.int IntKind.u8 0, Value.int IntKind.u8 0, Value.int IntKind.u8 0, Value.int IntKind.u8 0, Value.int IntKind.u8 0, Value.int IntKind.u8 0, Value.int IntKind.u8 0, Value.int IntKind.u8 0, Value.int IntKind.u8 0, Value.int IntKind.u8 0, Value.int IntKind.u8 0, Value.int IntKind.u8 0, Value.int IntKind.u8 0, Value.int IntKind.u8 0], [0, 0, 0, 0, 0, 0, 0, 0, 0, 0, 0, 0, 0, 0, 0, 0, 0, 0, 0, 0, 0, 0, 0, 0, 0, 0, 0, 0, 0, 0, 0, 0], .array 32 5 1⟩
  | 111 => ⟨64, true, 64, [], Value.agg #[Value.int IntKind.u8 0, Value.int IntKind.u8 0, Value.int IntKind.u8 0, Value.int IntKind.u8 0, Value.int IntKind.u8 0, Value.int IntKind.u8 0, Value.int IntKind.u8 0, Value.int IntKind.u8 0, Value.int IntKind.u8 0, Value.int IntKind.u8 0, Value.int IntKind.u8 0, Value.int IntKind.u8 0, Value.int IntKind.u8 0, Value.int IntKind.u8 0, Value.int IntKind.u8 0, Value.int IntKind.u8 0, Value.int IntKind.u8 0, Value.int IntKind.u8 0, Value.int IntKind.u8 0, Value.int IntKind.u8 0, Value.int IntKind.u8 0, Value.int IntKind.u8 0, Value.int IntKind.u8 0, Value.int IntKind.u8 0, Value.int IntKind.u8 0, Value.int IntKind.u8 0, Value.int IntKind.u8 0, Value.int IntKind.u8 0, Value.int IntKind.u8 0, Value.int IntKind.u8 0, Value.int IntKind.u8 0, Value.int IntKind.u8 0, Value.int IntKind.u8 0, Value.int IntKind.u8 0, Value.int IntKind.u8 0, Value.int IntKind.u8 0, Value.int IntKind.u8 0, Value.int IntKind.u8 0, Value.int IntKind.u8 0, Value.int IntKind.u8 0, Value.int IntKind.u8 0, Value.int IntKind.u8 0, Value.int IntKind.u8 0, Value.int IntKind.u8 0, Value.int IntKind.u8 0, Value.int IntKind.u8 0, Value.int IntKind.u8 0, Value.int IntKind.u8 0, Value.int IntKind.u8 0, Value.int IntKind.u8 0, Value.int IntKind.u8 0, Value.int IntKind.u8 0, Value.int IntKind.u8 0, Value.int IntKind.u8 0, Value.int IntKind.u8 0, Value.int IntKind.u8 0, Value.int IntKind.u8 0, Value.int IntKind.u8 0, Value.int IntKind.u8 0, Value.int IntKind.u8 0, Value.int IntKind.u8 0, Value.int IntKind.u8 0, Value.int IntKind.u8 0, Value.int IntKind.u8 0], [0, 0, 0, 0, 0, 0, 0, 0, 0, 0, 0, 0, 0, 0, 0, 0, 0, 0, 0, 0, 0, 0, 0, 0, 0, 0, 0, 0, 0, 0, 0, 0, 0, 0, 0, 0, 0, 0, 0, 0, 0, 0, 0, 0, 0, 0, 0, 0, 0, 0, 0, 0, 0, 0, 0, 0, 0, 0, 0, 0, 0, 0, 0, 0], .array 64 5 1⟩
  | 112 => ⟨1, false, 8, [], Value.nilFunc, [0], .other⟩
  | 113 => ⟨4, true, 40, [], Value.agg #[Value.pointer none, Value.pointer none, Value.pointer none, Value.string { data := #[] }], [0, 0, 0, 0], .struct [(0, 17, 1), (1, 17, 1), (2, 17, 1), (3, 9, 1)]⟩
  | 114 => ⟨4, true, 40, [], Value.agg #[Value.pointer none, Value.pointer none, Value.pointer none, Value.string { data := #[] }], [0, 0, 0, 0], .struct [(0, 17, 1), (1, 17, 1), (2, 17, 1), (3, 9, 1)]⟩
  | 115 => ⟨0, true, 0, [], Value.agg #[], [], .array 0 16 1⟩
  | 116 => ⟨0, true, 0, [], Value.agg #[], [], .struct [(0, 115, 0)]⟩
  | 117 => ⟨0, true, 0, [], Value.agg #[], [], .struct [(0, 115, 0)]⟩
  | 118 => ⟨1, false, 8, [], Value.nilFunc, [0], .other⟩
  | 119 => ⟨1, false, 1, [], Value.int IntKind.u8 0, [0], .int .u8⟩
  | 120 => ⟨1, false, 1, [], Value.int IntKind.u8 0, [0], .int .u8⟩
  | 121 => ⟨1, false, 8, [], Value.nilFunc, [0], .other⟩
  | 122 => ⟨1, false, 8, [], Value.pointer none, [0], .other⟩
  | 123 => ⟨1, false, 4, [], Value.int IntKind.i32 0, [0], .int .i32⟩
  | 124 => ⟨1, false, 4, [], Value.int IntKind.i32 0, [0], .int .i32⟩
  | 125 => ⟨11, true, 48, [], Value.agg #[Value.int IntKind.u64 0, Value.int IntKind.u64 0, Value.int IntKind.u32 0, Value.int IntKind.u8 0, Value.int IntKind.u8 0, Value.int IntKind.u8 0, Value.int IntKind.u8 0, Value.nilFunc, Value.pointer none, Value.int IntKind.i32 0, Value.int IntKind.i32 0], [0, 0, 0, 0, 0, 0, 0, 0, 0, 0, 0], .struct [(0, 12, 1), (1, 12, 1), (2, 102, 1), (3, 119, 1), (4, 5, 1), (5, 5, 1), (6, 120, 1), (7, 121, 1), (8, 122, 1), (9, 123, 1), (10, 124, 1)]⟩
  | 126 => ⟨11, true, 48, [], Value.agg #[Value.int IntKind.u64 0, Value.int IntKind.u64 0, Value.int IntKind.u32 0, Value.int IntKind.u8 0, Value.int IntKind.u8 0, Value.int IntKind.u8 0, Value.int IntKind.u8 0, Value.nilFunc, Value.pointer none, Value.int IntKind.i32 0, Value.int IntKind.i32 0], [0, 0, 0, 0, 0, 0, 0, 0, 0, 0, 0], .struct [(0, 12, 1), (1, 12, 1), (2, 102, 1), (3, 119, 1), (4, 5, 1), (5, 5, 1), (6, 120, 1), (7, 121, 1), (8, 122, 1), (9, 123, 1), (10, 124, 1)]⟩
  | 127 => ⟨1, false, 8, [], Value.pointer none, [0], .other⟩
  | _ => ⟨0, false, 0, [], .bool false, [], .none_⟩
theorem inf_1 : Tryd.prog.info? 1 = some Tryd.t1 := by kernel_rfl
theorem inf_2 : Tryd.prog.info? 2 = some Tryd.t2 := by kernel_rfl
theorem inf_3 : Tryd.prog.info? 3 = some Tryd.t3 := by kernel_rfl
theorem inf_4 : Tryd.prog.info? 4 = some Tryd.t4 := by kernel_rfl
theorem inf_5 : Tryd.prog.info? 5 = some Tryd.t5 := by kernel_rfl
theorem inf_6 : Tryd.prog.info? 6 = some Tryd.t6 := by kernel_rfl
theorem inf_7 : Tryd.prog.info? 7 = some Tryd.t7 := by kernel_rfl
theorem inf_8 : Tryd.prog.info? 8 = some Tryd.t8 := by kernel_rfl
theorem inf_9 : Tryd.prog.info? 9 = some Tryd.t9 := by kernel_rfl
theorem inf_10 : Tryd.prog.info? 10 = some Tryd.t10 := by kernel_rfl
theorem inf_11 : Tryd.prog.info? 11 = some Tryd.t11 := by kernel_rfl
theorem inf_12 : Tryd.prog.info? 12 = some Tryd.t12 := by kernel_rfl
theorem inf_13 : Tryd.prog.info? 13 = some Tryd.t13 := by kernel_rfl
theorem inf_14 : Tryd.prog.info? 14 = some Tryd.t14 := by kernel_rfl
theorem inf_15 : Tryd.prog.info? 15 = some Tryd.t15 := by kernel_rfl
theorem inf_16 : Tryd.prog.info? 16 = some Tryd.t16 := by kernel_rfl
theorem inf_17 : Tryd.prog.info? 17 = some Tryd.t17 := by kernel_rfl
theorem inf_18 : Tryd.prog.info? 18 = some Tryd.t18 := by kernel_rfl
theorem inf_19 : Tryd.prog.info? 19 = some Tryd.t19 := by kernel_rfl
theorem inf_20 : Tryd.prog.info? 20 = some Tryd.t20 := by kernel_rfl
theorem inf_21 : Tryd.prog.info? 21 = some Tryd.t21 := by kernel_rfl
theorem inf_22 : Tryd.prog.info? 22 = some Tryd.t22 := by kernel_rfl
theorem inf_23 : Tryd.prog.info? 23 = some Tryd.t23 := by kernel_rfl
theorem inf_24 : Tryd.prog.info? 24 = some Tryd.t24 := by kernel_rfl
theorem inf_25 : Tryd.prog.info? 25 = some Tryd.t25 := by kernel_rfl
theorem inf_26 : Tryd.prog.info? 26 = some Tryd.t26 := by kernel_rfl
theorem inf_27 : Tryd.prog.info? 27 = some Tryd.t27 := by kernel_rfl
theorem inf_28 : Tryd.prog.info? 28 = some Tryd.t28 := by kernel_rfl
theorem inf_29 : Tryd.prog.info? 29 = some Tryd.t29 := by kernel_rfl
theorem inf_31 : Tryd.prog.info? 31 = some Tryd.t31 := by kernel_rfl
theorem inf_32 : Tryd.prog.info? 32 = some Tryd.t32 := by kernel_rfl
theorem inf_33 : Tryd.prog.info? 33 = some Tryd.t33 := by kernel_rfl
theorem inf_34 : Tryd.prog.info? 34 = some Tryd.t34 := by kernel_rfl
theorem inf_35 : Tryd.prog.info? 35 = some Tryd.t35 := by kernel_rfl
theorem inf_37 : Tryd.prog.info? 37 = some Tryd.t37 := by kernel_rfl
theorem inf_38 : Tryd.prog.info? 38 = some Tryd.t38 := by kernel_rfl
theorem inf_39 : Tryd.prog.info? 39 = some Tryd.t39 := by kernel_rfl
theorem inf_40 : Tryd.prog.info? 40 = some Tryd.t40 := by kernel_rfl
theorem inf_41 : Tryd.prog.info? 41 = some Tryd.t41 := by kernel_rfl
theorem inf_42 : Tryd.prog.info? 42 = some Tryd.t42 := by kernel_rfl
theorem inf_43 : Tryd.prog.info? 43 = some Tryd.t43 := by kernel_rfl
theorem inf_44 : Tryd.prog.info? 44 = some Tryd.t44 := by kernel_rfl
theorem inf_45 : Tryd.prog.info? 45 = some Tryd.t45 := by kernel_rfl
theorem inf_46 : Tryd.prog.info? 46 = some Tryd.t46 := by kernel_rfl
theorem inf_47 : Tryd.prog.info? 47 = some Tryd.t47 := by kernel_rfl
theorem inf_48 : Tryd.prog.info? 48 = some Tryd.t48 := by kernel_rfl
theorem inf_49 : Tryd.prog.info? 49 = some Tryd.t49 := by kernel_rfl
theorem inf_50 : Tryd.prog.info? 50 = some Tryd.t50 := by kernel_rfl
theorem inf_51 : Tryd.prog.info? 51 = some Tryd.t51 := by kernel_rfl
theorem inf_52 : Tryd.prog.info? 52 = some Tryd.t52 := by kernel_rfl
theorem inf_53 : Tryd.prog.info? 53 = some Tryd.t53 := by kernel_rfl
theorem inf_54 : Tryd.prog.info? 54 = some Tryd.t54 := by kernel_rfl
theorem inf_55 : Tryd.prog.info? 55 = some Tryd.t55 := by kernel_rfl
theorem inf_56 : Tryd.prog.info? 56 = some Tryd.t56 := by kernel_rfl
theorem inf_57 : Tryd.prog.info? 57 = some Tryd.t57 := by kernel_rfl
theorem inf_58 : Tryd.prog.info? 58 = some Tryd.t58 := by kernel_rfl
theorem inf_59 : Tryd.prog.info? 59 = some Tryd.t59 := by kernel_rfl
theorem inf_60 : Tryd.prog.info? 60 = some Tryd.t60 := by kernel_rfl
theorem inf_61 : Tryd.prog.info? 61 = some Tryd.t61 := by kernel_rfl
theorem inf_62 : Tryd.prog.info? 62 = some Tryd.t62 := by kernel_rfl
theorem inf_63 : Tryd.prog.info? 63 = some Tryd.t63 := by kernel_rfl
theorem inf_64 : Tryd.prog.info? 64 = some Tryd.t64 := by kernel_rfl
theorem inf_65 : Tryd.prog.info? 65 = some Tryd.t65 := by kernel_rfl
theorem inf_66 : Tryd.prog.info? 66 = some Tryd.t66 := by kernel_rfl
theorem inf_67 : Tryd.prog.info? 67 = some Tryd.t67 := by kernel_rfl
theorem inf_68 : Tryd.prog.info? 68 = some Tryd.t68 := by kernel_rfl
theorem inf_69 : Tryd.prog.info? 69 = some Tryd.t69 := by kernel_rfl
theorem inf_70 : Tryd.prog.info? 70 = some Tryd.t70 := by kernel_rfl
theorem inf_71 : Tryd.prog.info? 71 = some Tryd.t71 := by kernel_rfl
theorem inf_72 : Tryd.prog.info? 72 = some Tryd.t72 := by kernel_rfl
theorem inf_73 : Tryd.prog.info? 73 = some Tryd.t73 := by kernel_rfl
theorem inf_74 : Tryd.prog.info? 74 = some Tryd.t74 := by kernel_rfl
theorem inf_75 : Tryd.prog.info? 75 = some Tryd.t75 := by kernel_rfl
theorem inf_76 : Tryd.prog.info? 76 = some Tryd.t76 := by kernel_rfl
theorem inf_77 : Tryd.prog.info? 77 = some Tryd.t77 := by kernel_rfl
theorem inf_78 : Tryd.prog.info? 78 = some Tryd.t78 := by kernel_rfl
theorem inf_79 : Tryd.prog.info? 79 = some Tryd.t79 := by kernel_rfl
theorem inf_80 : Tryd.prog.info? 80 = some Tryd.t80 := by kernel_rfl
theorem inf_81 : Tryd.prog.info? 81 = some Tryd.t81 := by kernel_rfl
theorem inf_82 : Tryd.prog.info? 82 = some Tryd.t82 := by kernel_rfl
theorem inf_83 : Tryd.prog.info? 83 = some Tryd.t83 := by kernel_rfl
theorem inf_84 : Tryd.prog.info? 84 = some Tryd.t84 := by kernel_rfl
theorem inf_85 : Tryd.prog.info? 85 = some Tryd.t85 := by kernel_rfl
theorem inf_86 : Tryd.prog.info? 86 = some Tryd.t86 := by kernel_rfl
theorem inf_87 : Tryd.prog.info? 87 = some Tryd.t87 := by kernel_rfl
theorem inf_88 : Tryd.prog.info? 88 = some Tryd.t88 := by kernel_rfl
theorem inf_90 : Tryd.prog.info? 90 = some Tryd.t90 := by kernel_rfl
theorem inf_91 : Tryd.prog.info? 91 = some Tryd.t91 := by kernel_rfl
theorem inf_92 : Tryd.prog.info? 92 = some Tryd.t92 := by kernel_rfl
theorem inf_93 : Tryd.prog.info? 93 = some Tryd.t93 := by kernel_rfl
theorem inf_94 : Tryd.prog.info? 94 = some Tryd.t94 := by kernel_rfl
theorem inf_95 : Tryd.prog.info? 95 = some Tryd.t95 := by kernel_rfl
theorem inf_96 : Tryd.prog.info? 96 = some Tryd.t96 := by kernel_rfl
theorem inf_98 : Tryd.prog.info? 98 = some Tryd.t98 := by kernel_rfl
theorem inf_99 : Tryd.prog.info? 99 = some Tryd.t99 := by kernel_rfl
theorem inf_100 : Tryd.prog.info? 100 = some Tryd.t100 := by kernel_rfl
theorem inf_101 : Tryd.prog.info? 101 = some Tryd.t101 := by kernel_rfl
theorem inf_102 : Tryd.prog.info? 102 = some Tryd.t102 := by kernel_rfl
theorem inf_103 : Tryd.prog.info? 103 = some Tryd.t103 := by kernel_rfl
theorem inf_104 : Tryd.prog.info? 104 = some Tryd.t104 := by kernel_rfl
theorem inf_105 : Tryd.prog.info? 105 = some Tryd.t105 := by kernel_rfl
theorem inf_106 : Tryd.prog.info? 106 = some Tryd.t106 := by kernel_rfl
theorem inf_107 : Tryd.prog.info? 107 = some Tryd.t107 := by kernel_rfl
theorem inf_109 : Tryd.prog.info? 109 = some Tryd.t109 := by kernel_rfl
theorem inf_110 : Tryd.prog.info? 110 = some Tryd.t110 := by kernel_rfl
theorem inf_111 : Tryd.prog.info? 111 = some Tryd.t111 := by kernel_rfl
theorem inf_112 : Tryd.prog.info? 112 = some Tryd.t112 := by kernel_rfl
theorem inf_113 : Tryd.prog.info? 113 = some Tryd.t113 := by kernel_rfl
theorem inf_114 : Tryd.prog.info? 114 = some Tryd.t114 := by kernel_rfl
theorem inf_115 : Tryd.prog.info? 115 = some Tryd.t115 := by kernel_rfl
theorem inf_116 : Tryd.prog.info? 116 = some Tryd.t116 := by kernel_rfl
theorem inf_117 : Tryd.prog.info? 117 = some Tryd.t117 := by kernel_rfl
theorem inf_118 : Tryd.prog.info? 118 = some Tryd.t118 := by kernel_rfl
theorem inf_119 : Tryd.prog.info? 119 = some Tryd.t119 := by kernel_rfl
theorem inf_120 : Tryd.prog.info? 120 = some Tryd.t120 := by kernel_rfl
theorem inf_121 : Tryd.prog.info? 121 = some Tryd.t121 := by kernel_rfl
theorem inf_122 : Tryd.prog.info? 122 = some Tryd.t122 := by kernel_rfl
theorem inf_123 : Tryd.prog.info? 123 = some Tryd.t123 := by kernel_rfl
theorem inf_124 : Tryd.prog.info? 124 = some Tryd.t124 := by kernel_rfl
theorem inf_125 : Tryd.prog.info? 125 = some Tryd.t125 := by kernel_rfl
theorem inf_126 : Tryd.prog.info? 126 = some Tryd.t126 := by kernel_rfl
theorem inf_127 : Tryd.prog.info? 127 = some Tryd.t127 := by kernel_rfl
theorem sz_1 : SizeIs Tryd.prog 1 1 := sizeIs_of inf_1
theorem sz_2 : SizeIs Tryd.prog 2 1 := sizeIs_of inf_2
theorem sz_3 : SizeIs Tryd.prog 3 1 := sizeIs_of inf_3
theorem sz_4 : SizeIs Tryd.prog 4 1 := sizeIs_of inf_4
theorem sz_5 : SizeIs Tryd.prog 5 1 := sizeIs_of inf_5
theorem sz_6 : SizeIs Tryd.prog 6 1 := sizeIs_of inf_6
theorem sz_7 : SizeIs Tryd.prog 7 4 := sizeIs_of inf_7
theorem sz_8 : SizeIs Tryd.prog 8 4 := sizeIs_of inf_8
theorem sz_9 : SizeIs Tryd.prog 9 1 := sizeIs_of inf_9
theorem sz_10 : SizeIs Tryd.prog 10 1 := sizeIs_of inf_10
theorem sz_11 : SizeIs Tryd.prog 11 1 := sizeIs_of inf_11
theorem sz_12 : SizeIs Tryd.prog 12 1 := sizeIs_of inf_12
theorem sz_13 : SizeIs Tryd.prog 13 2 := sizeIs_of inf_13
theorem sz_14 : SizeIs Tryd.prog 14 2 := sizeIs_of inf_14
theorem sz_15 : SizeIs Tryd.prog 15 1 := sizeIs_of inf_15
theorem sz_16 : SizeIs Tryd.prog 16 1 := sizeIs_of inf_16
theorem sz_17 : SizeIs Tryd.prog 17 1 := sizeIs_of inf_17
theorem sz_18 : SizeIs Tryd.prog 18 1 := sizeIs_of inf_18
theorem sz_19 : SizeIs Tryd.prog 19 1 := sizeIs_of inf_19
theorem sz_20 : SizeIs Tryd.prog 20 1 := sizeIs_of inf_20
theorem sz_21 : SizeIs Tryd.prog 21 1 := sizeIs_of inf_21
theorem sz_22 : SizeIs Tryd.prog 22 1 := sizeIs_of inf_22
theorem sz_23 : SizeIs Tryd.prog 23 22 := sizeIs_of inf_23
theorem sz_24 : SizeIs Tryd.prog 24 22 := sizeIs_of inf_24
theorem sz_25 : SizeIs Tryd.prog 25 1 := sizeIs_of inf_25
theorem sz_26 : SizeIs Tryd.prog 26 1 := sizeIs_of inf_26
theorem sz_27 : SizeIs Tryd.prog 27 1 := sizeIs_of inf_27
theorem sz_28 : SizeIs Tryd.prog 28 1 := sizeIs_of inf_28
theorem sz_29 : SizeIs Tryd.prog 29 1 := sizeIs_of inf_29
theorem sz_31 : SizeIs Tryd.prog 31 1 := sizeIs_of inf_31
theorem sz_32 : SizeIs Tryd.prog 32 1 := sizeIs_of inf_32
theorem sz_33 : SizeIs Tryd.prog 33 12 := sizeIs_of inf_33
theorem sz_34 : SizeIs Tryd.prog 34 12 := sizeIs_of inf_34
theorem sz_35 : SizeIs Tryd.prog 35 1 := sizeIs_of inf_35
theorem sz_37 : SizeIs Tryd.prog 37 1 := sizeIs_of inf_37
theorem sz_38 : SizeIs Tryd.prog 38 1 := sizeIs_of inf_38
theorem sz_39 : SizeIs Tryd.prog 39 1 := sizeIs_of inf_39
theorem sz_40 : SizeIs Tryd.prog 40 11 := sizeIs_of inf_40
theorem sz_41 : SizeIs Tryd.prog 41 11 := sizeIs_of inf_41
theorem sz_42 : SizeIs Tryd.prog 42 1 := sizeIs_of inf_42
theorem sz_43 : SizeIs Tryd.prog 43 1 := sizeIs_of inf_43
theorem sz_44 : SizeIs Tryd.prog 44 1 := sizeIs_of inf_44
theorem sz_45 : SizeIs Tryd.prog 45 1 := sizeIs_of inf_45
theorem sz_46 : SizeIs Tryd.prog 46 1 := sizeIs_of inf_46
theorem sz_47 : SizeIs Tryd.prog 47 1 := sizeIs_of inf_47
theorem sz_48 : SizeIs Tryd.prog 48 1 := sizeIs_of inf_48
theorem sz_49 : SizeIs Tryd.prog 49 2 := sizeIs_of inf_49
theorem sz_50 : SizeIs Tryd.prog 50 2 := sizeIs_of inf_50
theorem sz_51 : SizeIs Tryd.prog 51 1 := sizeIs_of inf_51
theorem sz_52 : SizeIs Tryd.prog 52 3 := sizeIs_of inf_52
theorem sz_53 : SizeIs Tryd.prog 53 3 := sizeIs_of inf_53
theorem sz_54 : SizeIs Tryd.prog 54 1 := sizeIs_of inf_54
theorem sz_55 : SizeIs Tryd.prog 55 1 := sizeIs_of inf_55
theorem sz_56 : SizeIs Tryd.prog 56 25 := sizeIs_of inf_56
theorem sz_57 : SizeIs Tryd.prog 57 25 := sizeIs_of inf_57
theorem sz_58 : SizeIs Tryd.prog 58 1 := sizeIs_of inf_58
theorem sz_59 : SizeIs Tryd.prog 59 1 := sizeIs_of inf_59
theorem sz_60 : SizeIs Tryd.prog 60 1 := sizeIs_of inf_60
theorem sz_61 : SizeIs Tryd.prog 61 1 := sizeIs_of inf_61
theorem sz_62 : SizeIs Tryd.prog 62 1 := sizeIs_of inf_62
theorem sz_63 : SizeIs Tryd.prog 63 1 := sizeIs_of inf_63
theorem sz_64 : SizeIs Tryd.prog 64 1 := sizeIs_of inf_64
theorem sz_65 : SizeIs Tryd.prog 65 1 := sizeIs_of inf_65
theorem sz_66 : SizeIs Tryd.prog 66 1 := sizeIs_of inf_66
theorem sz_67 : SizeIs Tryd.prog 67 1 := sizeIs_of inf_67
theorem sz_68 : SizeIs Tryd.prog 68 1 := sizeIs_of inf_68
theorem sz_69 : SizeIs Tryd.prog 69 2 := sizeIs_of inf_69
theorem sz_70 : SizeIs Tryd.prog 70 1 := sizeIs_of inf_70
theorem sz_71 : SizeIs Tryd.prog 71 1 := sizeIs_of inf_71
theorem sz_72 : SizeIs Tryd.prog 72 1 := sizeIs_of inf_72
theorem sz_73 : SizeIs Tryd.prog 73 1 := sizeIs_of inf_73
theorem sz_74 : SizeIs Tryd.prog 74 1 := sizeIs_of inf_74
theorem sz_75 : SizeIs Tryd.prog 75 1 := sizeIs_of inf_75
theorem sz_76 : SizeIs Tryd.prog 76 1 := sizeIs_of inf_76
theorem sz_77 : SizeIs Tryd.prog 77 1 := sizeIs_of inf_77
theorem sz_78 : SizeIs Tryd.prog 78 1 := sizeIs_of inf_78
theorem sz_79 : SizeIs Tryd.prog 79 1 := sizeIs_of inf_79
theorem sz_80 : SizeIs Tryd.prog 80 1 := sizeIs_of inf_80
theorem sz_81 : SizeIs Tryd.prog 81 1 := sizeIs_of inf_81
theorem sz_82 : SizeIs Tryd.prog 82 1 := sizeIs_of inf_82
theorem sz_83 : SizeIs Tryd.prog 83 1 := sizeIs_of inf_83
theorem sz_84 : SizeIs Tryd.prog 84 1 := sizeIs_of inf_84
theorem sz_85 : SizeIs Tryd.prog 85 1 := sizeIs_of inf_85
theorem sz_86 : SizeIs Tryd.prog 86 1 := sizeIs_of inf_86
theorem sz_87 : SizeIs Tryd.prog 87 1 := sizeIs_of inf_87
theorem sz_88 : SizeIs Tryd.prog 88 1 := sizeIs_of inf_88
theorem sz_90 : SizeIs Tryd.prog 90 1 := sizeIs_of inf_90
theorem sz_91 : SizeIs Tryd.prog 91 1 := sizeIs_of inf_91
theorem sz_92 : SizeIs Tryd.prog 92 24 := sizeIs_of inf_92
theorem sz_93 : SizeIs Tryd.prog 93 1 := sizeIs_of inf_93
theorem sz_94 : SizeIs Tryd.prog 94 1 := sizeIs_of inf_94
theorem sz_95 : SizeIs Tryd.prog 95 1 := sizeIs_of inf_95
theorem sz_96 : SizeIs Tryd.prog 96 1 := sizeIs_of inf_96
theorem sz_98 : SizeIs Tryd.prog 98 1 := sizeIs_of inf_98
theorem sz_99 : SizeIs Tryd.prog 99 1 := sizeIs_of inf_99
theorem sz_100 : SizeIs Tryd.prog 100 1 := sizeIs_of inf_100
theorem sz_101 : SizeIs Tryd.prog 101 20 := sizeIs_of inf_101
theorem sz_102 : SizeIs Tryd.prog 102 1 := sizeIs_of inf_102
theorem sz_103 : SizeIs Tryd.prog 103 65 := sizeIs_of inf_103
theorem sz_104 : SizeIs Tryd.prog 104 1 := sizeIs_of inf_104
theorem sz_105 : SizeIs Tryd.prog 105 1 := sizeIs_of inf_105
theorem sz_106 : SizeIs Tryd.prog 106 1 := sizeIs_of inf_106
theorem sz_107 : SizeIs Tryd.prog 107 1 := sizeIs_of inf_107
theorem sz_109 : SizeIs Tryd.prog 109 1 := sizeIs_of inf_109
theorem sz_110 : SizeIs Tryd.prog 110 32 := sizeIs_of inf_110
theorem sz_111 : SizeIs Tryd.prog 111 64 := sizeIs_of inf_111
theorem sz_112 : SizeIs Tryd.prog 112 1 := sizeIs_of inf_112
theorem sz_113 : SizeIs Tryd.prog 113 4 := sizeIs_of inf_113
theorem sz_114 : SizeIs Tryd.prog 114 4 := sizeIs_of inf_114
theorem sz_115 : SizeIs Tryd.prog 115 0 := sizeIs_of inf_115
theorem sz_116 : SizeIs Tryd.prog 116 0 := sizeIs_of inf_116
theorem sz_117 : SizeIs Tryd.prog 117 0 := sizeIs_of inf_117
theorem sz_118 : SizeIs Tryd.prog 118 1 := sizeIs_of inf_118
theorem sz_119 : SizeIs Tryd.prog 119 1 := sizeIs_of inf_119
theorem sz_120 : SizeIs Tryd.prog 120 1 := sizeIs_of inf_120
theorem sz_121 : SizeIs Tryd.prog 121 1 := sizeIs_of inf_121
theorem sz_122 : SizeIs Tryd.prog 122 1 := sizeIs_of inf_122
theorem sz_123 : SizeIs Tryd.prog 123 1 := sizeIs_of inf_123
theorem sz_124 : SizeIs Tryd.prog 124 1 := sizeIs_of inf_124
theorem sz_125 : SizeIs Tryd.prog 125 11 := sizeIs_of inf_125
theorem sz_126 : SizeIs Tryd.prog 126 11 := sizeIs_of inf_126
theorem sz_127 : SizeIs Tryd.prog 127 1 := sizeIs_of inf_127
theorem tok_1 : TOk1 Tryd.prog 1 ⟨1, false, 8, [], Value.nilFunc, [0], .other⟩ := ⟨⟨Tryd.t1, inf_1, rfl, rfl, rfl⟩, ⟨_, Tryd.underlying1, rfl, trivial⟩, rfl, rfl, fun h => absurd h (by decide)⟩
theorem tok_2 : TOk1 Tryd.prog 2 ⟨1, false, 8, [], Value.int IntKind.i64 0, [0], .int .i64⟩ := ⟨⟨Tryd.t2, inf_2, rfl, rfl, rfl⟩, ⟨_, Tryd.underlying2, rfl, rfl⟩, rfl, rfl, fun h => absurd h (by decide)⟩
theorem tok_3 : TOk1 Tryd.prog 3 ⟨1, false, 8, [], Value.int IntKind.i64 0, [0], .int .i64⟩ := ⟨⟨Tryd.t3, inf_3, rfl, rfl, rfl⟩, ⟨_, Tryd.underlying3, rfl, rfl⟩, rfl, rfl, fun h => absurd h (by decide)⟩
theorem tok_4 : TOk1 Tryd.prog 4 ⟨1, false, 1, [], Value.bool false, [0], .bool⟩ := ⟨⟨Tryd.t4, inf_4, rfl, rfl, rfl⟩, ⟨_, Tryd.underlying4, rfl, rfl⟩, rfl, rfl, fun h => absurd h (by decide)⟩
theorem tok_5 : TOk1 Tryd.prog 5 ⟨1, false, 1, [], Value.int IntKind.u8 0, [0], .int .u8⟩ := ⟨⟨Tryd.t5, inf_5, rfl, rfl, rfl⟩, ⟨_, Tryd.underlying5, rfl, rfl⟩, rfl, rfl, fun h => absurd h (by decide)⟩
theorem tok_6 : TOk1 Tryd.prog 6 ⟨1, false, 1, [], Value.int IntKind.u8 0, [0], .int .u8⟩ := ⟨⟨Tryd.t6, inf_6, rfl, rfl, rfl⟩, ⟨_, Tryd.underlying6, rfl, rfl⟩, rfl, rfl, fun h => absurd h (by decide)⟩
theorem tok_7 : TOk1 Tryd.prog 7 ⟨4, true, 24, [], Value.agg #[Value.int IntKind.i64 0, Value.int IntKind.i64 0, Value.bool false, Value.int IntKind.u8 0], [0, 0, 0, 0], .struct [(0, 2, 1), (1, 3, 1), (2, 4, 1), (3, 6, 1)]⟩ := ⟨⟨Tryd.t7, inf_7, rfl, rfl, rfl⟩, ⟨_, Tryd.underlying7, rfl, ⟨_, rfl, rfl, List.forall_mem_cons.2 ⟨sz_2, List.forall_mem_cons.2 ⟨sz_3, List.forall_mem_cons.2 ⟨sz_4, List.forall_mem_cons.2 ⟨sz_6, fun _ h => by cases h⟩⟩⟩⟩⟩⟩, rfl, rfl, fun h => absurd h (by decide)⟩
theorem tok_8 : TOk1 Tryd.prog 8 ⟨4, true, 24, [], Value.agg #[Value.int IntKind.i64 0, Value.int IntKind.i64 0, Value.bool false, Value.int IntKind.u8 0], [0, 0, 0, 0], .struct [(0, 2, 1), (1, 3, 1), (2, 4, 1), (3, 6, 1)]⟩ := ⟨⟨Tryd.t8, inf_8, rfl, rfl, rfl⟩, ⟨_, Tryd.underlying8, rfl, ⟨_, rfl, rfl, List.forall_mem_cons.2 ⟨sz_2, List.forall_mem_cons.2 ⟨sz_3, List.forall_mem_cons.2 ⟨sz_4, List.forall_mem_cons.2 ⟨sz_6, fun _ h => by cases h⟩⟩⟩⟩⟩⟩, rfl, rfl, fun h => absurd h (by decide)⟩
theorem tok_9 : TOk1 Tryd.prog 9 ⟨1, false, 16, [], Value.string { data := #[] }, [0], .str⟩ := ⟨⟨Tryd.t9, inf_9, rfl, rfl, rfl⟩, ⟨_, Tryd.underlying9, rfl, rfl⟩, rfl, rfl, fun h => absurd h (by decide)⟩
theorem tok_10 : TOk1 Tryd.prog 10 ⟨1, false, 16, [], Value.string { data := #[] }, [0], .str⟩ := ⟨⟨Tryd.t10, inf_10, rfl, rfl, rfl⟩, ⟨_, Tryd.underlying10, rfl, rfl⟩, rfl, rfl, fun h => absurd h (by decide)⟩
theorem tok_11 : TOk1 Tryd.prog 11 ⟨1, false, 16, [], Value.string { data := #[] }, [0], .str⟩ := ⟨⟨Tryd.t11, inf_11, rfl, rfl, rfl⟩, ⟨_, Tryd.underlying11, rfl, rfl⟩, rfl, rfl, fun h => absurd h (by decide)⟩
theorem tok_12 : TOk1 Tryd.prog 12 ⟨1, false, 8, [], Value.int IntKind.u64 0, [0], .int .u64⟩ := ⟨⟨Tryd.t12, inf_12, rfl, rfl, rfl⟩, ⟨_, Tryd.underlying12, rfl, rfl⟩, rfl, rfl, fun h => absurd h (by decide)⟩
theorem tok_13 : TOk1 Tryd.prog 13 ⟨2, true, 24, [], Value.agg #[Value.string { data := #[] }, Value.int IntKind.u64 0], [0, 0], .struct [(0, 9, 1), (1, 12, 1)]⟩ := ⟨⟨Tryd.t13, inf_13, rfl, rfl, rfl⟩, ⟨_, Tryd.underlying13, rfl, ⟨_, rfl, rfl, List.forall_mem_cons.2 ⟨sz_9, List.forall_mem_cons.2 ⟨sz_12, fun _ h => by cases h⟩⟩⟩⟩, rfl, rfl, fun h => absurd h (by decide)⟩
theorem tok_14 : TOk1 Tryd.prog 14 ⟨2, true, 24, [], Value.agg #[Value.string { data := #[] }, Value.int IntKind.u64 0], [0, 0], .struct [(0, 9, 1), (1, 12, 1)]⟩ := ⟨⟨Tryd.t14, inf_14, rfl, rfl, rfl⟩, ⟨_, Tryd.underlying14, rfl, ⟨_, rfl, rfl, List.forall_mem_cons.2 ⟨sz_9, List.forall_mem_cons.2 ⟨sz_12, fun _ h => by cases h⟩⟩⟩⟩, rfl, rfl, fun h => absurd h (by decide)⟩
theorem tok_15 : TOk1 Tryd.prog 15 ⟨1, false, 8, [], Value.pointer none, [0], .other⟩ := ⟨⟨Tryd.t15, inf_15, rfl, rfl, rfl⟩, ⟨_, Tryd.underlying15, rfl, trivial⟩, rfl, rfl, fun h => absurd h (by decide)⟩
theorem tok_16 : TOk1 Tryd.prog 16 ⟨1, false, 8, [], Value.pointer none, [0], .other⟩ := ⟨⟨Tryd.t16, inf_16, rfl, rfl, rfl⟩, ⟨_, Tryd.underlying16, rfl, trivial⟩, rfl, rfl, fun h => absurd h (by decide)⟩
theorem tok_17 : TOk1 Tryd.prog 17 ⟨1, false, 8, [], Value.pointer none, [0], .other⟩ := ⟨⟨Tryd.t17, inf_17, rfl, rfl, rfl⟩, ⟨_, Tryd.underlying17, rfl, trivial⟩, rfl, rfl, fun h => absurd h (by decide)⟩
theorem tok_18 : TOk1 Tryd.prog 18 ⟨1, true, 8, [], Value.agg #[Value.pointer none], [0], .struct [(0, 17, 1)]⟩ := ⟨⟨Tryd.t18, inf_18, rfl, rfl, rfl⟩, ⟨_, Tryd.underlying18, rfl, ⟨_, rfl, rfl, List.forall_mem_cons.2 ⟨sz_17, fun _ h => by cases h⟩⟩⟩, rfl, rfl, fun h => absurd h (by decide)⟩
theorem tok_19 : TOk1 Tryd.prog 19 ⟨1, true, 8, [], Value.agg #[Value.pointer none], [0], .struct [(0, 17, 1)]⟩ := ⟨⟨Tryd.t19, inf_19, rfl, rfl, rfl⟩, ⟨_, Tryd.underlying19, rfl, ⟨_, rfl, rfl, List.forall_mem_cons.2 ⟨sz_17, fun _ h => by cases h⟩⟩⟩, rfl, rfl, fun h => absurd h (by decide)⟩
theorem tok_20 : TOk1 Tryd.prog 20 ⟨1, false, 16, [], Value.nilIface, [0], .other⟩ := ⟨⟨Tryd.t20, inf_20, rfl, rfl, rfl⟩, ⟨_, Tryd.underlying20, rfl, trivial⟩, rfl, rfl, fun h => absurd h (by decide)⟩
theorem tok_21 : TOk1 Tryd.prog 21 ⟨1, false, 4, [], Value.int IntKind.i32 0, [0], .int .i32⟩ := ⟨⟨Tryd.t21, inf_21, rfl, rfl, rfl⟩, ⟨_, Tryd.underlying21, rfl, rfl⟩, rfl, rfl, fun h => absurd h (by decide)⟩
theorem tok_22 : TOk1 Tryd.prog 22 ⟨1, false, 24, [], Value.slice none 0 0, [1], .slice 9 1⟩ := ⟨⟨Tryd.t22, inf_22, rfl, rfl, rfl⟩, ⟨_, Tryd.underlying22, rfl, ⟨rfl, sz_9⟩⟩, rfl, rfl, fun h => absurd h (by decide)⟩
theorem tok_23 : TOk1 Tryd.prog 23 ⟨22, true, 192, [], Value.agg #[Value.string { data := #[] }, Value.int IntKind.i64 0, Value.int IntKind.i64 0, Value.int IntKind.i64 0, Value.bool false, Value.int IntKind.i64 0, Value.bool false, Value.bool false, Value.int IntKind.i64 0, Value.int IntKind.i64 0, Value.int IntKind.i64 0, Value.int IntKind.i64 0, Value.slice none 0 0, Value.int IntKind.i64 0, Value.int IntKind.i64 0, Value.int IntKind.i64 0, Value.int IntKind.i64 0, Value.bool false, Value.int IntKind.i64 0, Value.int IntKind.i64 0, Value.int IntKind.i64 0, Value.int IntKind.i64 0], [0, 0, 0, 0, 0, 0, 0, 0, 0, 0, 0, 0, 1, 0, 0, 0, 0, 0, 0, 0, 0, 0], .struct [(0, 9, 1), (1, 3, 1), (2, 3, 1), (3, 3, 1), (4, 4, 1), (5, 3, 1), (6, 4, 1), (7, 4, 1), (8, 3, 1), (9, 3, 1), (10, 3, 1), (11, 3, 1), (12, 22, 1), (13, 3, 1), (14, 3, 1), (15, 3, 1), (16, 3, 1), (17, 4, 1), (18, 3, 1), (19, 3, 1), (20, 3, 1), (21, 3, 1)]⟩ := ⟨⟨Tryd.t23, inf_23, rfl, rfl, rfl⟩, ⟨_, Tryd.underlying23, rfl, ⟨_, rfl, rfl, List.forall_mem_cons.2 ⟨sz_9, List.forall_mem_cons.2 ⟨sz_3, List.forall_mem_cons.2 ⟨sz_3, List.forall_mem_cons.2 ⟨sz_3, List.forall_mem_cons.2 ⟨sz_4, List.forall_mem_cons.2 ⟨sz_3, List.forall_mem_cons.2 ⟨sz_4, List.forall_mem_cons.2 ⟨sz_4, List.forall_mem_cons.2 ⟨sz_3, List.forall_mem_cons.2 ⟨sz_3, List.forall_mem_cons.2 ⟨sz_3, List.forall_mem_cons.2 ⟨sz_3, List.forall_mem_cons.2 ⟨sz_22, List.forall_mem_cons.2 ⟨sz_3, List.forall_mem_cons.2 ⟨sz_3, List.forall_mem_cons.2 ⟨sz_3, List.forall_mem_cons.2 ⟨sz_3, List.forall_mem_cons.2 ⟨sz_4, List.forall_mem_cons.2 ⟨sz_3, List.forall_mem_cons.2 ⟨sz_3, List.forall_mem_cons.2 ⟨sz_3, List.forall_mem_cons.2 ⟨sz_3, fun _ h => by cases h⟩⟩⟩⟩⟩⟩⟩⟩⟩⟩⟩⟩⟩⟩⟩⟩⟩⟩⟩⟩⟩⟩⟩⟩, rfl, rfl, fun h => absurd h (by decide)⟩
theorem tok_24 : TOk1 Tryd.prog 24 ⟨22, true, 192, [], Value.agg #[Value.string { data := #[] }, Value.int IntKind.i64 0, Value.int IntKind.i64 0, Value.int IntKind.i64 0, Value.bool false, Value.int IntKind.i64 0, Value.bool false, Value.bool false, Value.int IntKind.i64 0, Value.int IntKind.i64 0, Value.int IntKind.i64 0, Value.int IntKind.i64 0, Value.slice none 0 0, Value.int IntKind.i64 0, Value.int IntKind.i64 0, Value.int IntKind.i64 0, Value.int IntKind.i64 0, Value.bool false, Value.int IntKind.i64 0, Value.int IntKind.i64 0, Value.int IntKind.i64 0, Value.int IntKind.i64 0], [0, 0, 0, 0, 0, 0, 0, 0, 0, 0, 0, 0, 1, 0, 0, 0, 0, 0, 0, 0, 0, 0], .struct [(0, 9, 1), (1, 3, 1), (2, 3, 1), (3, 3, 1), (4, 4, 1), (5, 3, 1), (6, 4, 1), (7, 4, 1), (8, 3, 1), (9, 3, 1), (10, 3, 1), (11, 3, 1), (12, 22, 1), (13, 3, 1), (14, 3, 1), (15, 3, 1), (16, 3, 1), (17, 4, 1), (18, 3, 1), (19, 3, 1), (20, 3, 1), (21, 3, 1)]⟩ := ⟨⟨Tryd.t24, inf_24, rfl, rfl, rfl⟩, ⟨_, Tryd.underlying24, rfl, ⟨_, rfl, rfl, List.forall_mem_cons.2 ⟨sz_9, List.forall_mem_cons.2 ⟨sz_3, List.forall_mem_cons.2 ⟨sz_3, List.forall_mem_cons.2 ⟨sz_3, List.forall_mem_cons.2 ⟨sz_4, List.forall_mem_cons.2 ⟨sz_3, List.forall_mem_cons.2 ⟨sz_4, List.forall_mem_cons.2 ⟨sz_4, List.forall_mem_cons.2 ⟨sz_3, List.forall_mem_cons.2 ⟨sz_3, List.forall_mem_cons.2 ⟨sz_3, List.forall_mem_cons.2 ⟨sz_3, List.forall_mem_cons.2 ⟨sz_22, List.forall_mem_cons.2 ⟨sz_3, List.forall_mem_cons.2 ⟨sz_3, List.forall_mem_cons.2 ⟨sz_3, List.forall_mem_cons.2 ⟨sz_3, List.forall_mem_cons.2 ⟨sz_4, List.forall_mem_cons.2 ⟨sz_3, List.forall_mem_cons.2 ⟨sz_3, List.forall_mem_cons.2 ⟨sz_3, List.forall_mem_cons.2 ⟨sz_3, fun _ h => by cases h⟩⟩⟩⟩⟩⟩⟩⟩⟩⟩⟩⟩⟩⟩⟩⟩⟩⟩⟩⟩⟩⟩⟩⟩, rfl, rfl, fun h => absurd h (by decide)⟩
theorem tok_25 : TOk1 Tryd.prog 25 ⟨1, false, 24, [], Value.slice none 0 0, [12], .slice 34 12⟩ := ⟨⟨Tryd.t25, inf_25, rfl, rfl, rfl⟩, ⟨_, Tryd.underlying25, rfl, ⟨rfl, sz_34⟩⟩, rfl, rfl, fun h => absurd h (by decide)⟩
theorem tok_26 : TOk1 Tryd.prog 26 ⟨1, false, 24, [], Value.slice none 0 0, [1], .slice 3 1⟩ := ⟨⟨Tryd.t26, inf_26, rfl, rfl, rfl⟩, ⟨_, Tryd.underlying26, rfl, ⟨rfl, sz_3⟩⟩, rfl, rfl, fun h => absurd h (by decide)⟩
theorem tok_27 : TOk1 Tryd.prog 27 ⟨1, false, 8, [], Value.nilFunc, [0], .other⟩ := ⟨⟨Tryd.t27, inf_27, rfl, rfl, rfl⟩, ⟨_, Tryd.underlying27, rfl, trivial⟩, rfl, rfl, fun h => absurd h (by decide)⟩
theorem tok_28 : TOk1 Tryd.prog 28 ⟨1, false, 24, [], Value.slice none 0 0, [2], .slice 50 2⟩ := ⟨⟨Tryd.t28, inf_28, rfl, rfl, rfl⟩, ⟨_, Tryd.underlying28, rfl, ⟨rfl, sz_50⟩⟩, rfl, rfl, fun h => absurd h (by decide)⟩
theorem tok_29 : TOk1 Tryd.prog 29 ⟨1, false, 8, [], Value.int IntKind.i64 0, [0], .int .i64⟩ := ⟨⟨Tryd.t29, inf_29, rfl, rfl, rfl⟩, ⟨_, Tryd.underlying29, rfl, rfl⟩, rfl, rfl, fun h => absurd h (by decide)⟩
theorem tok_31 : TOk1 Tryd.prog 31 ⟨1, false, 8, [], Value.nilFunc, [0], .other⟩ := ⟨⟨Tryd.t31, inf_31, rfl, rfl, rfl⟩, ⟨_, Tryd.underlying31, rfl, trivial⟩, rfl, rfl, fun h => absurd h (by decide)⟩
theorem tok_32 : TOk1 Tryd.prog 32 ⟨1, false, 8, [], Value.nilFunc, [0], .other⟩ := ⟨⟨Tryd.t32, inf_32, rfl, rfl, rfl⟩, ⟨_, Tryd.underlying32, rfl, trivial⟩, rfl, rfl, fun h => absurd h (by decide)⟩
theorem tok_33 : TOk1 Tryd.prog 33 ⟨12, true, 136, [], Value.agg #[Value.int IntKind.i64 0, Value.int IntKind.i64 0, Value.slice none 0 0, Value.int IntKind.i64 0, Value.int IntKind.i64 0, Value.int IntKind.i64 0, Value.int IntKind.i64 0, Value.int IntKind.i64 0, Value.int IntKind.i64 0, Value.string { data := #[] }, Value.slice none 0 0, Value.int IntKind.i64 0], [0, 0, 1, 0, 0, 0, 0, 0, 0, 0, 1, 0], .struct [(0, 3, 1), (1, 3, 1), (2, 26, 1), (3, 3, 1), (4, 3, 1), (5, 3, 1), (6, 3, 1), (7, 3, 1), (8, 3, 1), (9, 9, 1), (10, 26, 1), (11, 3, 1)]⟩ := ⟨⟨Tryd.t33, inf_33, rfl, rfl, rfl⟩, ⟨_, Tryd.underlying33, rfl, ⟨_, rfl, rfl, List.forall_mem_cons.2 ⟨sz_3, List.forall_mem_cons.2 ⟨sz_3, List.forall_mem_cons.2 ⟨sz_26, List.forall_mem_cons.2 ⟨sz_3, List.forall_mem_cons.2 ⟨sz_3, List.forall_mem_cons.2 ⟨sz_3, List.forall_mem_cons.2 ⟨sz_3, List.forall_mem_cons.2 ⟨sz_3, List.forall_mem_cons.2 ⟨sz_3, List.forall_mem_cons.2 ⟨sz_9, List.forall_mem_cons.2 ⟨sz_26, List.forall_mem_cons.2 ⟨sz_3, fun _ h => by cases h⟩⟩⟩⟩⟩⟩⟩⟩⟩⟩⟩⟩⟩⟩, rfl, rfl, fun h => absurd h (by decide)⟩
theorem tok_34 : TOk1 Tryd.prog 34 ⟨12, true, 136, [], Value.agg #[Value.int IntKind.i64 0, Value.int IntKind.i64 0, Value.slice none 0 0, Value.int IntKind.i64 0, Value.int IntKind.i64 0, Value.int IntKind.i64 0, Value.int IntKind.i64 0, Value.int IntKind.i64 0, Value.int IntKind.i64 0, Value.string { data := #[] }, Value.slice none 0 0, Value.int IntKind.i64 0], [0, 0, 1, 0, 0, 0, 0, 0, 0, 0, 1, 0], .struct [(0, 3, 1), (1, 3, 1), (2, 26, 1), (3, 3, 1), (4, 3, 1), (5, 3, 1), (6, 3, 1), (7, 3, 1), (8, 3, 1), (9, 9, 1), (10, 26, 1), (11, 3, 1)]⟩ := ⟨⟨Tryd.t34, inf_34, rfl, rfl, rfl⟩, ⟨_, Tryd.underlying34, rfl, ⟨_, rfl, rfl, List.forall_mem_cons.2 ⟨sz_3, List.forall_mem_cons.2 ⟨sz_3, List.forall_mem_cons.2 ⟨sz_26, List.forall_mem_cons.2 ⟨sz_3, List.forall_mem_cons.2 ⟨sz_3, List.forall_mem_cons.2 ⟨sz_3, List.forall_mem_cons.2 ⟨sz_3, List.forall_mem_cons.2 ⟨sz_3, List.forall_mem_cons.2 ⟨sz_3, List.forall_mem_cons.2 ⟨sz_9, List.forall_mem_cons.2 ⟨sz_26, List.forall_mem_cons.2 ⟨sz_3, fun _ h => by cases h⟩⟩⟩⟩⟩⟩⟩⟩⟩⟩⟩⟩⟩⟩, rfl, rfl, fun h => absurd h (by decide)⟩
theorem tok_35 : TOk1 Tryd.prog 35 ⟨1, false, 24, [], Value.slice none 0 0, [11], .slice 41 11⟩ := ⟨⟨Tryd.t35, inf_35, rfl, rfl, rfl⟩, ⟨_, Tryd.underlying35, rfl, ⟨rfl, sz_41⟩⟩, rfl, rfl, fun h => absurd h (by decide)⟩
theorem tok_37 : TOk1 Tryd.prog 37 ⟨1, false, 8, [], Value.nilFunc, [0], .other⟩ := ⟨⟨Tryd.t37, inf_37, rfl, rfl, rfl⟩, ⟨_, Tryd.underlying37, rfl, trivial⟩, rfl, rfl, fun h => absurd h (by decide)⟩
theorem tok_38 : TOk1 Tryd.prog 38 ⟨1, false, 8, [], Value.nilFunc, [0], .other⟩ := ⟨⟨Tryd.t38, inf_38, rfl, rfl, rfl⟩, ⟨_, Tryd.underlying38, rfl, trivial⟩, rfl, rfl, fun h => absurd h (by decide)⟩
theorem tok_39 : TOk1 Tryd.prog 39 ⟨1, false, 8, [], Value.nilFunc, [0], .other⟩ := ⟨⟨Tryd.t39, inf_39, rfl, rfl, rfl⟩, ⟨_, Tryd.underlying39, rfl, trivial⟩, rfl, rfl, fun h => absurd h (by decide)⟩
theorem tok_40 : TOk1 Tryd.prog 40 ⟨11, true, 112, [], Value.agg #[Value.int IntKind.i64 0, Value.int IntKind.i64 0, Value.int IntKind.i64 0, Value.int IntKind.i64 0, Value.int IntKind.i64 0, Value.int IntKind.i64 0, Value.int IntKind.i64 0, Value.int IntKind.i64 0, Value.int IntKind.i64 0, Value.string { data := #[] }, Value.slice none 0 0], [0, 0, 0, 0, 0, 0, 0, 0, 0, 0, 1], .struct [(0, 3, 1), (1, 3, 1), (2, 3, 1), (3, 3, 1), (4, 3, 1), (5, 3, 1), (6, 3, 1), (7, 3, 1), (8, 3, 1), (9, 9, 1), (10, 26, 1)]⟩ := ⟨⟨Tryd.t40, inf_40, rfl, rfl, rfl⟩, ⟨_, Tryd.underlying40, rfl, ⟨_, rfl, rfl, List.forall_mem_cons.2 ⟨sz_3, List.forall_mem_cons.2 ⟨sz_3, List.forall_mem_cons.2 ⟨sz_3, List.forall_mem_cons.2 ⟨sz_3, List.forall_mem_cons.2 ⟨sz_3, List.forall_mem_cons.2 ⟨sz_3, List.forall_mem_cons.2 ⟨sz_3, List.forall_mem_cons.2 ⟨sz_3, List.forall_mem_cons.2 ⟨sz_3, List.forall_mem_cons.2 ⟨sz_9, List.forall_mem_cons.2 ⟨sz_26, fun _ h => by cases h⟩⟩⟩⟩⟩⟩⟩⟩⟩⟩⟩⟩⟩, rfl, rfl, fun h => absurd h (by decide)⟩
theorem tok_41 : TOk1 Tryd.prog 41 ⟨11, true, 112, [], Value.agg #[Value.int IntKind.i64 0, Value.int IntKind.i64 0, Value.int IntKind.i64 0, Value.int IntKind.i64 0, Value.int IntKind.i64 0, Value.int IntKind.i64 0, Value.int IntKind.i64 0, Value.int IntKind.i64 0, Value.int IntKind.i64 0, Value.string { data := #[] }, Value.slice none 0 0], [0, 0, 0, 0, 0, 0, 0, 0, 0, 0, 1], .struct [(0, 3, 1), (1, 3, 1), (2, 3, 1), (3, 3, 1), (4, 3, 1), (5, 3, 1), (6, 3, 1), (7, 3, 1), (8, 3, 1), (9, 9, 1), (10, 26, 1)]⟩ := ⟨⟨Tryd.t41, inf_41, rfl, rfl, rfl⟩, ⟨_, Tryd.underlying41, rfl, ⟨_, rfl, rfl, List.forall_mem_cons.2 ⟨sz_3, List.forall_mem_cons.2 ⟨sz_3, List.forall_mem_cons.2 ⟨sz_3, List.forall_mem_cons.2 ⟨sz_3, List.forall_mem_cons.2 ⟨sz_3, List.forall_mem_cons.2 ⟨sz_3, List.forall_mem_cons.2 ⟨sz_3, List.forall_mem_cons.2 ⟨sz_3, List.forall_mem_cons.2 ⟨sz_3, List.forall_mem_cons.2 ⟨sz_9, List.forall_mem_cons.2 ⟨sz_26, fun _ h => by cases h⟩⟩⟩⟩⟩⟩⟩⟩⟩⟩⟩⟩⟩, rfl, rfl, fun h => absurd h (by decide)⟩
theorem tok_42 : TOk1 Tryd.prog 42 ⟨1, false, 8, [], Value.nilFunc, [0], .other⟩ := ⟨⟨Tryd.t42, inf_42, rfl, rfl, rfl⟩, ⟨_, Tryd.underlying42, rfl, trivial⟩, rfl, rfl, fun h => absurd h (by decide)⟩
theorem tok_43 : TOk1 Tryd.prog 43 ⟨1, false, 8, [], Value.nilFunc, [0], .other⟩ := ⟨⟨Tryd.t43, inf_43, rfl, rfl, rfl⟩, ⟨_, Tryd.underlying43, rfl, trivial⟩, rfl, rfl, fun h => absurd h (by decide)⟩
theorem tok_44 : TOk1 Tryd.prog 44 ⟨1, false, 8, [], Value.nilFunc, [0], .other⟩ := ⟨⟨Tryd.t44, inf_44, rfl, rfl, rfl⟩, ⟨_, Tryd.underlying44, rfl, trivial⟩, rfl, rfl, fun h => absurd h (by decide)⟩
theorem tok_45 : TOk1 Tryd.prog 45 ⟨1, false, 8, [], Value.nilFunc, [0], .other⟩ := ⟨⟨Tryd.t45, inf_45, rfl, rfl, rfl⟩, ⟨_, Tryd.underlying45, rfl, trivial⟩, rfl, rfl, fun h => absurd h (by decide)⟩
theorem tok_46 : TOk1 Tryd.prog 46 ⟨1, false, 8, [], Value.nilFunc, [0], .other⟩ := ⟨⟨Tryd.t46, inf_46, rfl, rfl, rfl⟩, ⟨_, Tryd.underlying46, rfl, trivial⟩, rfl, rfl, fun h => absurd h (by decide)⟩
theorem tok_47 : TOk1 Tryd.prog 47 ⟨1, false, 8, [], Value.nilFunc, [0], .other⟩ := ⟨⟨Tryd.t47, inf_47, rfl, rfl, rfl⟩, ⟨_, Tryd.underlying47, rfl, trivial⟩, rfl, rfl, fun h => absurd h (by decide)⟩
theorem tok_48 : TOk1 Tryd.prog 48 ⟨1, false, 8, [], Value.nilFunc, [0], .other⟩ := ⟨⟨Tryd.t48, inf_48, rfl, rfl, rfl⟩, ⟨_, Tryd.underlying48, rfl, trivial⟩, rfl, rfl, fun h => absurd h (by decide)⟩
theorem tok_49 : TOk1 Tryd.prog 49 ⟨2, true, 16, [.i .i64, .i .i64], Value.agg #[Value.int IntKind.i64 0, Value.int IntKind.i64 0], [0, 0], .struct [(0, 3, 1), (1, 3, 1)]⟩ := ⟨⟨Tryd.t49, inf_49, rfl, rfl, rfl⟩, ⟨_, Tryd.underlying49, rfl, ⟨_, rfl, rfl, List.forall_mem_cons.2 ⟨sz_3, List.forall_mem_cons.2 ⟨sz_3, fun _ h => by cases h⟩⟩⟩⟩, rfl, rfl, fun _ => eq_struct_of [.i .i64, .i .i64] Tryd.underlying49 (by kernel_rfl) (by kernel_rfl) ⟨⟨rfl, by decide, sz_3, Tryd.underlying3⟩, ⟨⟨rfl, by decide, sz_3, Tryd.underlying3⟩, trivial⟩⟩⟩
theorem tok_50 : TOk1 Tryd.prog 50 ⟨2, true, 16, [.i .i64, .i .i64], Value.agg #[Value.int IntKind.i64 0, Value.int IntKind.i64 0], [0, 0], .struct [(0, 3, 1), (1, 3, 1)]⟩ := ⟨⟨Tryd.t50, inf_50, rfl, rfl, rfl⟩, ⟨_, Tryd.underlying50, rfl, ⟨_, rfl, rfl, List.forall_mem_cons.2 ⟨sz_3, List.forall_mem_cons.2 ⟨sz_3, fun _ h => by cases h⟩⟩⟩⟩, rfl, rfl, fun _ => eq_struct_of [.i .i64, .i .i64] Tryd.underlying50 (by kernel_rfl) (by kernel_rfl) ⟨⟨rfl, by decide, sz_3, Tryd.underlying3⟩, ⟨⟨rfl, by decide, sz_3, Tryd.underlying3⟩, trivial⟩⟩⟩
theorem tok_51 : TOk1 Tryd.prog 51 ⟨1, false, 8, [], Value.nilFunc, [0], .other⟩ := ⟨⟨Tryd.t51, inf_51, rfl, rfl, rfl⟩, ⟨_, Tryd.underlying51, rfl, trivial⟩, rfl, rfl, fun h => absurd h (by decide)⟩
theorem tok_52 : TOk1 Tryd.prog 52 ⟨3, true, 24, [], Value.agg #[Value.bool false, Value.int IntKind.i64 0, Value.int IntKind.i64 0], [0, 0, 0], .struct [(0, 4, 1), (1, 50, 2)]⟩ := ⟨⟨Tryd.t52, inf_52, rfl, rfl, rfl⟩, ⟨_, Tryd.underlying52, rfl, ⟨_, rfl, rfl, List.forall_mem_cons.2 ⟨sz_4, List.forall_mem_cons.2 ⟨sz_50, fun _ h => by cases h⟩⟩⟩⟩, rfl, rfl, fun h => absurd h (by decide)⟩
theorem tok_53 : TOk1 Tryd.prog 53 ⟨3, true, 24, [], Value.agg #[Value.bool false, Value.int IntKind.i64 0, Value.int IntKind.i64 0], [0, 0, 0], .struct [(0, 4, 1), (1, 50, 2)]⟩ := ⟨⟨Tryd.t53, inf_53, rfl, rfl, rfl⟩, ⟨_, Tryd.underlying53, rfl, ⟨_, rfl, rfl, List.forall_mem_cons.2 ⟨sz_4, List.forall_mem_cons.2 ⟨sz_50, fun _ h => by cases h⟩⟩⟩⟩, rfl, rfl, fun h => absurd h (by decide)⟩
theorem tok_54 : TOk1 Tryd.prog 54 ⟨1, false, 8, [], Value.nilFunc, [0], .other⟩ := ⟨⟨Tryd.t54, inf_54, rfl, rfl, rfl⟩, ⟨_, Tryd.underlying54, rfl, trivial⟩, rfl, rfl, fun h => absurd h (by decide)⟩
theorem tok_55 : TOk1 Tryd.prog 55 ⟨1, false, 8, [], Value.nilFunc, [0], .other⟩ := ⟨⟨Tryd.t55, inf_55, rfl, rfl, rfl⟩, ⟨_, Tryd.underlying55, rfl, trivial⟩, rfl, rfl, fun h => absurd h (by decide)⟩
theorem tok_56 : TOk1 Tryd.prog 56 ⟨25, true, 264, [], Value.agg #[Value.string { data := #[] }, Value.int IntKind.i64 0, Value.int IntKind.i64 0, Value.int IntKind.i64 0, Value.bool false, Value.int IntKind.i64 0, Value.bool false, Value.bool false, Value.int IntKind.i64 0, Value.int IntKind.i64 0, Value.int IntKind.i64 0, Value.int IntKind.i64 0, Value.slice none 0 0, Value.int IntKind.i64 0, Value.int IntKind.i64 0, Value.int IntKind.i64 0, Value.int IntKind.i64 0, Value.bool false, Value.int IntKind.i64 0, Value.int IntKind.i64 0, Value.int IntKind.i64 0, Value.int IntKind.i64 0, Value.slice none 0 0, Value.slice none 0 0, Value.slice none 0 0], [0, 0, 0, 0, 0, 0, 0, 0, 0, 0, 0, 0, 1, 0, 0, 0, 0, 0, 0, 0, 0, 0, 2, 12, 1], .struct [(0, 24, 22), (22, 28, 1), (23, 25, 1), (24, 26, 1)]⟩ := ⟨⟨Tryd.t56, inf_56, rfl, rfl, rfl⟩, ⟨_, Tryd.underlying56, rfl, ⟨_, rfl, rfl, List.forall_mem_cons.2 ⟨sz_24, List.forall_mem_cons.2 ⟨sz_28, List.forall_mem_cons.2 ⟨sz_25, List.forall_mem_cons.2 ⟨sz_26, fun _ h => by cases h⟩⟩⟩⟩⟩⟩, rfl, rfl, fun h => absurd h (by decide)⟩
theorem tok_57 : TOk1 Tryd.prog 57 ⟨25, true, 264, [], Value.agg #[Value.string { data := #[] }, Value.int IntKind.i64 0, Value.int IntKind.i64 0, Value.int IntKind.i64 0, Value.bool false, Value.int IntKind.i64 0, Value.bool false, Value.bool false, Value.int IntKind.i64 0, Value.int IntKind.i64 0, Value.int IntKind.i64 0, Value.int IntKind.i64 0, Value.slice none 0 0, Value.int IntKind.i64 0, Value.int IntKind.i64 0, Value.int IntKind.i64 0, Value.int IntKind.i64 0, Value.bool false, Value.int IntKind.i64 0, Value.int IntKind.i64 0, Value.int IntKind.i64 0, Value.int IntKind.i64 0, Value.slice none 0 0, Value.slice none 0 0, Value.slice none 0 0], [0, 0, 0, 0, 0, 0, 0, 0, 0, 0, 0, 0, 1, 0, 0, 0, 0, 0, 0, 0, 0, 0, 2, 12, 1], .struct [(0, 24, 22), (22, 28, 1), (23, 25, 1), (24, 26, 1)]⟩ := ⟨⟨Tryd.t57, inf_57, rfl, rfl, rfl⟩, ⟨_, Tryd.underlying57, rfl, ⟨_, rfl, rfl, List.forall_mem_cons.2 ⟨sz_24, List.forall_mem_cons.2 ⟨sz_28, List.forall_mem_cons.2 ⟨sz_25, List.forall_mem_cons.2 ⟨sz_26, fun _ h => by cases h⟩⟩⟩⟩⟩⟩, rfl, rfl, fun h => absurd h (by decide)⟩
theorem tok_58 : TOk1 Tryd.prog 58 ⟨1, false, 8, [], Value.nilFunc, [0], .other⟩ := ⟨⟨Tryd.t58, inf_58, rfl, rfl, rfl⟩, ⟨_, Tryd.underlying58, rfl, trivial⟩, rfl, rfl, fun h => absurd h (by decide)⟩
theorem tok_59 : TOk1 Tryd.prog 59 ⟨1, false, 8, [], Value.nilFunc, [0], .other⟩ := ⟨⟨Tryd.t59, inf_59, rfl, rfl, rfl⟩, ⟨_, Tryd.underlying59, rfl, trivial⟩, rfl, rfl, fun h => absurd h (by decide)⟩
theorem tok_60 : TOk1 Tryd.prog 60 ⟨1, false, 8, [], Value.nilFunc, [0], .other⟩ := ⟨⟨Tryd.t60, inf_60, rfl, rfl, rfl⟩, ⟨_, Tryd.underlying60, rfl, trivial⟩, rfl, rfl, fun h => absurd h (by decide)⟩
theorem tok_61 : TOk1 Tryd.prog 61 ⟨1, false, 8, [], Value.nilFunc, [0], .other⟩ := ⟨⟨Tryd.t61, inf_61, rfl, rfl, rfl⟩, ⟨_, Tryd.underlying61, rfl, trivial⟩, rfl, rfl, fun h => absurd h (by decide)⟩
theorem tok_62 : TOk1 Tryd.prog 62 ⟨1, false, 8, [], Value.nilFunc, [0], .other⟩ := ⟨⟨Tryd.t62, inf_62, rfl, rfl, rfl⟩, ⟨_, Tryd.underlying62, rfl, trivial⟩, rfl, rfl, fun h => absurd h (by decide)⟩
theorem tok_63 : TOk1 Tryd.prog 63 ⟨1, false, 8, [], Value.nilFunc, [0], .other⟩ := ⟨⟨Tryd.t63, inf_63, rfl, rfl, rfl⟩, ⟨_, Tryd.underlying63, rfl, trivial⟩, rfl, rfl, fun h => absurd h (by decide)⟩
theorem tok_64 : TOk1 Tryd.prog 64 ⟨1, false, 8, [], Value.nilFunc, [0], .other⟩ := ⟨⟨Tryd.t64, inf_64, rfl, rfl, rfl⟩, ⟨_, Tryd.underlying64, rfl, trivial⟩, rfl, rfl, fun h => absurd h (by decide)⟩
theorem tok_65 : TOk1 Tryd.prog 65 ⟨1, false, 24, [], Value.slice none 0 0, [3], .slice 53 3⟩ := ⟨⟨Tryd.t65, inf_65, rfl, rfl, rfl⟩, ⟨_, Tryd.underlying65, rfl, ⟨rfl, sz_53⟩⟩, rfl, rfl, fun h => absurd h (by decide)⟩
theorem tok_66 : TOk1 Tryd.prog 66 ⟨1, false, 8, [], Value.nilFunc, [0], .other⟩ := ⟨⟨Tryd.t66, inf_66, rfl, rfl, rfl⟩, ⟨_, Tryd.underlying66, rfl, trivial⟩, rfl, rfl, fun h => absurd h (by decide)⟩
theorem tok_67 : TOk1 Tryd.prog 67 ⟨1, false, 8, [], Value.nilFunc, [0], .other⟩ := ⟨⟨Tryd.t67, inf_67, rfl, rfl, rfl⟩, ⟨_, Tryd.underlying67, rfl, trivial⟩, rfl, rfl, fun h => absurd h (by decide)⟩
theorem tok_68 : TOk1 Tryd.prog 68 ⟨1, false, 8, [], Value.nilFunc, [0], .other⟩ := ⟨⟨Tryd.t68, inf_68, rfl, rfl, rfl⟩, ⟨_, Tryd.underlying68, rfl, trivial⟩, rfl, rfl, fun h => absurd h (by decide)⟩
theorem eqarr_69 (a b c d : Int) (w : World) : (Op.equalIn 10000 69 (.agg #[.int .i64 a, .int .i64 b]) (.agg #[.int .i64 c, .int .i64 d])).run Tryd.prog w = .ok (decide (a = c ∧ b = d)) w := by
  rw [show (10000 : Nat) = 9998 + 1 + 1 from rfl, Op.equalIn]
  simp [run_underlying Tryd.underlying69, go_sem]
  rw [show List.range' 0 2 = [0, 1] from rfl]
  by_cases h1 : a = c <;> by_cases h2 : b = d <;> simp [List.forIn_cons, h1, h2, go_sem]
theorem tok_69 : TOk1 Tryd.prog 69 ⟨2, true, 16, [.i .i64, .i .i64], Value.agg #[Value.int IntKind.i64 0, Value.int IntKind.i64 0], [0, 0], .array 2 3 1⟩ := ⟨⟨Tryd.t69, inf_69, rfl, rfl, rfl⟩, ⟨_, Tryd.underlying69, rfl, ⟨rfl, sz_3⟩⟩, rfl, rfl, fun _ => eq_arr2_of (by kernel_rfl) eqarr_69⟩
theorem tok_70 : TOk1 Tryd.prog 70 ⟨1, false, 24, [], Value.slice none 0 0, [2], .slice 69 2⟩ := ⟨⟨Tryd.t70, inf_70, rfl, rfl, rfl⟩, ⟨_, Tryd.underlying70, rfl, ⟨rfl, sz_69⟩⟩, rfl, rfl, fun h => absurd h (by decide)⟩
theorem tok_71 : TOk1 Tryd.prog 71 ⟨1, false, 8, [], Value.nilFunc, [0], .other⟩ := ⟨⟨Tryd.t71, inf_71, rfl, rfl, rfl⟩, ⟨_, Tryd.underlying71, rfl, trivial⟩, rfl, rfl, fun h => absurd h (by decide)⟩
theorem tok_72 : TOk1 Tryd.prog 72 ⟨1, false, 8, [], Value.nilFunc, [0], .other⟩ := ⟨⟨Tryd.t72, inf_72, rfl, rfl, rfl⟩, ⟨_, Tryd.underlying72, rfl, trivial⟩, rfl, rfl, fun h => absurd h (by decide)⟩
theorem tok_73 : TOk1 Tryd.prog 73 ⟨1, false, 8, [], Value.nilFunc, [0], .other⟩ := ⟨⟨Tryd.t73, inf_73, rfl, rfl, rfl⟩, ⟨_, Tryd.underlying73, rfl, trivial⟩, rfl, rfl, fun h => absurd h (by decide)⟩
theorem tok_74 : TOk1 Tryd.prog 74 ⟨1, false, 8, [], Value.nilFunc, [0], .other⟩ := ⟨⟨Tryd.t74, inf_74, rfl, rfl, rfl⟩, ⟨_, Tryd.underlying74, rfl, trivial⟩, rfl, rfl, fun h => absurd h (by decide)⟩
theorem tok_75 : TOk1 Tryd.prog 75 ⟨1, false, 8, [], Value.nilFunc, [0], .other⟩ := ⟨⟨Tryd.t75, inf_75, rfl, rfl, rfl⟩, ⟨_, Tryd.underlying75, rfl, trivial⟩, rfl, rfl, fun h => absurd h (by decide)⟩
theorem tok_76 : TOk1 Tryd.prog 76 ⟨1, false, 8, [], Value.nilFunc, [0], .other⟩ := ⟨⟨Tryd.t76, inf_76, rfl, rfl, rfl⟩, ⟨_, Tryd.underlying76, rfl, trivial⟩, rfl, rfl, fun h => absurd h (by decide)⟩
theorem tok_77 : TOk1 Tryd.prog 77 ⟨1, false, 8, [], Value.nilFunc, [0], .other⟩ := ⟨⟨Tryd.t77, inf_77, rfl, rfl, rfl⟩, ⟨_, Tryd.underlying77, rfl, trivial⟩, rfl, rfl, fun h => absurd h (by decide)⟩
theorem tok_78 : TOk1 Tryd.prog 78 ⟨1, false, 8, [], Value.nilFunc, [0], .other⟩ := ⟨⟨Tryd.t78, inf_78, rfl, rfl, rfl⟩, ⟨_, Tryd.underlying78, rfl, trivial⟩, rfl, rfl, fun h => absurd h (by decide)⟩
theorem tok_79 : TOk1 Tryd.prog 79 ⟨1, false, 8, [], Value.nilFunc, [0], .other⟩ := ⟨⟨Tryd.t79, inf_79, rfl, rfl, rfl⟩, ⟨_, Tryd.underlying79, rfl, trivial⟩, rfl, rfl, fun h => absurd h (by decide)⟩
theorem tok_80 : TOk1 Tryd.prog 80 ⟨1, false, 8, [], Value.nilFunc, [0], .other⟩ := ⟨⟨Tryd.t80, inf_80, rfl, rfl, rfl⟩, ⟨_, Tryd.underlying80, rfl, trivial⟩, rfl, rfl, fun h => absurd h (by decide)⟩
theorem tok_81 : TOk1 Tryd.prog 81 ⟨1, false, 8, [], Value.nilFunc, [0], .other⟩ := ⟨⟨Tryd.t81, inf_81, rfl, rfl, rfl⟩, ⟨_, Tryd.underlying81, rfl, trivial⟩, rfl, rfl, fun h => absurd h (by decide)⟩
theorem tok_82 : TOk1 Tryd.prog 82 ⟨1, false, 8, [], Value.nilFunc, [0], .other⟩ := ⟨⟨Tryd.t82, inf_82, rfl, rfl, rfl⟩, ⟨_, Tryd.underlying82, rfl, trivial⟩, rfl, rfl, fun h => absurd h (by decide)⟩
theorem tok_83 : TOk1 Tryd.prog 83 ⟨1, false, 8, [], Value.nilFunc, [0], .other⟩ := ⟨⟨Tryd.t83, inf_83, rfl, rfl, rfl⟩, ⟨_, Tryd.underlying83, rfl, trivial⟩, rfl, rfl, fun h => absurd h (by decide)⟩
theorem tok_84 : TOk1 Tryd.prog 84 ⟨1, false, 8, [], Value.nilFunc, [0], .other⟩ := ⟨⟨Tryd.t84, inf_84, rfl, rfl, rfl⟩, ⟨_, Tryd.underlying84, rfl, trivial⟩, rfl, rfl, fun h => absurd h (by decide)⟩
theorem tok_85 : TOk1 Tryd.prog 85 ⟨1, false, 8, [], Value.nilFunc, [0], .other⟩ := ⟨⟨Tryd.t85, inf_85, rfl, rfl, rfl⟩, ⟨_, Tryd.underlying85, rfl, trivial⟩, rfl, rfl, fun h => absurd h (by decide)⟩
theorem tok_86 : TOk1 Tryd.prog 86 ⟨1, false, 8, [], Value.nilFunc, [0], .other⟩ := ⟨⟨Tryd.t86, inf_86, rfl, rfl, rfl⟩, ⟨_, Tryd.underlying86, rfl, trivial⟩, rfl, rfl, fun h => absurd h (by decide)⟩
theorem tok_87 : TOk1 Tryd.prog 87 ⟨1, false, 8, [], Value.nilFunc, [0], .other⟩ := ⟨⟨Tryd.t87, inf_87, rfl, rfl, rfl⟩, ⟨_, Tryd.underlying87, rfl, trivial⟩, rfl, rfl, fun h => absurd h (by decide)⟩
theorem tok_88 : TOk1 Tryd.prog 88 ⟨1, false, 8, [], Value.nilFunc, [0], .other⟩ := ⟨⟨Tryd.t88, inf_88, rfl, rfl, rfl⟩, ⟨_, Tryd.underlying88, rfl, trivial⟩, rfl, rfl, fun h => absurd h (by decide)⟩
theorem tok_90 : TOk1 Tryd.prog 90 ⟨1, false, 8, [], Value.nilFunc, [0], .other⟩ := ⟨⟨Tryd.t90, inf_90, rfl, rfl, rfl⟩, ⟨_, Tryd.underlying90, rfl, trivial⟩, rfl, rfl, fun h => absurd h (by decide)⟩
theorem tok_91 : TOk1 Tryd.prog 91 ⟨1, false, 8, [], Value.nilFunc, [0], .other⟩ := ⟨⟨Tryd.t91, inf_91, rfl, rfl, rfl⟩, ⟨_, Tryd.underlying91, rfl, trivial⟩, rfl, rfl, fun h => absurd h (by decide)⟩
theorem tok_92 : TOk1 Tryd.prog 92 ⟨24, true, 24, [], Value.agg #[Value.int IntKind.u8 0, Value.int IntKind.u8 0, Value.int IntKind.u8 0, Value.int IntKind.u8 0, Value.int IntKind.u8 0, Value.int IntKind.u8 0, Value.int IntKind.u8 0, Value.int IntKind.u8 0, Value.int IntKind.u8 0, Value.int IntKind.u8 0, Value.int IntKind.u8 0, Value.int IntKind.u8 0, Value.int IntKind.u8 0, Value.int IntKind.u8 0, Value.int IntKind.u8 0, Value.int IntKind.u8 0, Value.int IntKind.u8 0, Value.int IntKind.u8 0, Value.int IntKind.u8 0, Value.int IntKind.u8 0, Value.int IntKind.u8 0, Value.int IntKind.u8 0, Value.int IntKind.u8 0, Value.int IntKind.u8 0], [0, 0, 0, 0, 0, 0, 0, 0, 0, 0, 0, 0, 0, 0, 0, 0, 0, 0, 0, 0, 0, 0, 0, 0], .array 24 5 1⟩ := ⟨⟨Tryd.t92, inf_92, rfl, rfl, rfl⟩, ⟨_, Tryd.underlying92, rfl, ⟨rfl, sz_5⟩⟩, rfl, rfl, fun h => absurd h (by decide)⟩
theorem tok_93 : TOk1 Tryd.prog 93 ⟨1, false, 8, [], Value.int IntKind.u64 0, [0], .int .u64⟩ := ⟨⟨Tryd.t93, inf_93, rfl, rfl, rfl⟩, ⟨_, Tryd.underlying93, rfl, rfl⟩, rfl, rfl, fun h => absurd h (by decide)⟩
theorem tok_94 : TOk1 Tryd.prog 94 ⟨1, false, 8, [], Value.nilFunc, [0], .other⟩ := ⟨⟨Tryd.t94, inf_94, rfl, rfl, rfl⟩, ⟨_, Tryd.underlying94, rfl, trivial⟩, rfl, rfl, fun h => absurd h (by decide)⟩
theorem tok_95 : TOk1 Tryd.prog 95 ⟨1, false, 8, [], Value.nilFunc, [0], .other⟩ := ⟨⟨Tryd.t95, inf_95, rfl, rfl, rfl⟩, ⟨_, Tryd.underlying95, rfl, trivial⟩, rfl, rfl, fun h => absurd h (by decide)⟩
theorem tok_96 : TOk1 Tryd.prog 96 ⟨1, false, 24, [], Value.slice none 0 0, [1], .slice 5 1⟩ := ⟨⟨Tryd.t96, inf_96, rfl, rfl, rfl⟩, ⟨_, Tryd.underlying96, rfl, ⟨rfl, sz_5⟩⟩, rfl, rfl, fun h => absurd h (by decide)⟩
theorem tok_98 : TOk1 Tryd.prog 98 ⟨1, false, 8, [], Value.nilFunc, [0], .other⟩ := ⟨⟨Tryd.t98, inf_98, rfl, rfl, rfl⟩, ⟨_, Tryd.underlying98, rfl, trivial⟩, rfl, rfl, fun h => absurd h (by decide)⟩
theorem tok_99 : TOk1 Tryd.prog 99 ⟨1, false, 8, [], Value.nilFunc, [0], .other⟩ := ⟨⟨Tryd.t99, inf_99, rfl, rfl, rfl⟩, ⟨_, Tryd.underlying99, rfl, trivial⟩, rfl, rfl, fun h => absurd h (by decide)⟩
theorem tok_100 : TOk1 Tryd.prog 100 ⟨1, false, 8, [], Value.nilFunc, [0], .other⟩ := ⟨⟨Tryd.t100, inf_100, rfl, rfl, rfl⟩, ⟨_, Tryd.underlying100, rfl, trivial⟩, rfl, rfl, fun h => absurd h (by decide)⟩
theorem tok_101 : TOk1 Tryd.prog 101 ⟨20, true, 160, [], Value.agg #[Value.int IntKind.u64 0, Value.int IntKind.u64 0, Value.int IntKind.u64 0, Value.int IntKind.u64 0, Value.int IntKind.u64 0, Value.int IntKind.u64 0, Value.int IntKind.u64 0, Value.int IntKind.u64 0, Value.int IntKind.u64 0, Value.int IntKind.u64 0, Value.int IntKind.u64 0, Value.int IntKind.u64 0, Value.int IntKind.u64 0, Value.int IntKind.u64 0, Value.int IntKind.u64 0, Value.int IntKind.u64 0, Value.int IntKind.u64 0, Value.int IntKind.u64 0, Value.int IntKind.u64 0, Value.int IntKind.u64 0], [0, 0, 0, 0, 0, 0, 0, 0, 0, 0, 0, 0, 0, 0, 0, 0, 0, 0, 0, 0], .array 20 93 1⟩ := ⟨⟨Tryd.t101, inf_101, rfl, rfl, rfl⟩, ⟨_, Tryd.underlying101, rfl, ⟨rfl, sz_93⟩⟩, rfl, rfl, fun h => absurd h (by decide)⟩
theorem tok_102 : TOk1 Tryd.prog 102 ⟨1, false, 4, [], Value.int IntKind.u32 0, [0], .int .u32⟩ := ⟨⟨Tryd.t102, inf_102, rfl, rfl, rfl⟩, ⟨_, Tryd.underlying102, rfl, rfl⟩, rfl, rfl, fun h => absurd h (by decide)⟩
theorem tok_103 : TOk1 Tryd.prog 103 ⟨65, true, 65, [], Value.agg ([Value.int IntKind.u8 0, Value.int IntKind.u8 0, Value.int IntKind.u8 0, Value.int IntKind.u8 0, Value.int IntKind.u8 0, Value.int IntKind.u8 0, Value.int IntKind.u8 0, Value.int IntKind.u8 0, Value.int IntKind.u8 0, Value.int IntKind.u8 0, Value.int IntKind.u8 0, Value.int IntKind.u8 0, Value.int IntKind.u8 0, Value.int IntKind.u8 0, Value.int IntKind.u8 0, Value.int IntKind.u8 0, Value.int IntKind.u8 0, Value.int IntKind.u8 0, Value.int IntKind.u8 0, Value.int IntKind.u8 0, Value.int IntKind.u8 0, Value.int IntKind.u8 0, Value.int IntKind.u8 0, Value.int IntKind.u8 0, Value.int IntKind.u8 0, Value.int IntKind.u8 0, Value.int IntKind.u8 0, Value.int IntKind.u8 0, Value.int IntKind.u8 0, Value.int IntKind.u8 0, Value.int IntKind.u8 0, Value.int IntKind.u8 0].append [Value.int IntKind.u8 0, Value.int IntKind.u8 0, Value.int IntKind.u8 0, Value.int IntKind.u8 0, Value.int IntKind.u8 0, Value.int IntKind.u8 0, Value.int IntKind.u8 0, Value.int IntKind.u8 0, Value.int IntKind.u8 0, Value.int IntKind.u8 0, Value.int IntKind.u8 0, Value.int IntKind.u8 0, Value.int IntKind.u8 0, Value.int IntKind.u8 0, Value.int IntKind.u8 0, Value.int IntKind.u8 0, Value.int IntKind.u8 0, Value.int IntKind.u8 0, Value.int IntKind.u8 0, Value.int IntKind.u8 0, Value.int IntKind.u8 0, Value.int IntKind.u8 0, Value.int IntKind.u8 0, Value.int IntKind.u8 0, Value.int IntKind.u8 0, Value.int IntKind.u8 0, Value.int IntKind.u8 0, Value.int IntKind.u8 0, Value.int IntKind.u8 0, Value.int IntKind.u8 0, Value.int IntKind.u8 0, Value.int IntKind.u8 0, Value.int IntKind.u8 0]).toArray, [0, 0, 0, 0, 0, 0, 0, 0, 0, 0, 0, 0, 0, 0, 0, 0, 0, 0, 0, 0, 0, 0, 0, 0, 0, 0, 0, 0, 0, 0, 0, 0, 0, 0, 0, 0, 0, 0, 0, 0, 0, 0, 0, 0, 0, 0, 0, 0, 0, 0, 0, 0, 0, 0, 0, 0, 0, 0, 0, 0, 0, 0, 0, 0, 0], .array 65 5 1⟩ := ⟨⟨Tryd.t103, inf_103, rfl, rfl, rfl⟩, ⟨_, Tryd.underlying103, rfl, ⟨rfl, sz_5⟩⟩, rfl, rfl, fun h => absurd h (by decide)⟩
theorem tok_104 : TOk1 Tryd.prog 104 ⟨1, false, 8, [], Value.int IntKind.u64 0, [0], .int .u64⟩ := ⟨⟨Tryd.t104, inf_104, rfl, rfl, rfl⟩, ⟨_, Tryd.underlying104, rfl, rfl⟩, rfl, rfl, fun h => absurd h (by decide)⟩
theorem tok_105 : TOk1 Tryd.prog 105 ⟨1, false, 8, [], Value.nilFunc, [0], .other⟩ := ⟨⟨Tryd.t105, inf_105, rfl, rfl, rfl⟩, ⟨_, Tryd.underlying105, rfl, trivial⟩, rfl, rfl, fun h => absurd h (by decide)⟩
theorem tok_106 : TOk1 Tryd.prog 106 ⟨1, false, 8, [], Value.nilFunc, [0], .other⟩ := ⟨⟨Tryd.t106, inf_106, rfl, rfl, rfl⟩, ⟨_, Tryd.underlying106, rfl, trivial⟩, rfl, rfl, fun h => absurd h (by decide)⟩
theorem tok_107 : TOk1 Tryd.prog 107 ⟨1, false, 8, [], Value.nilFunc, [0], .other⟩ := ⟨⟨Tryd.t107, inf_107, rfl, rfl, rfl⟩, ⟨_, Tryd.underlying107, rfl, trivial⟩, rfl, rfl, fun h => absurd h (by decide)⟩
theorem tok_109 : TOk1 Tryd.prog 109 ⟨1, false, 8, [], Value.nilFunc, [0], .other⟩ := ⟨⟨Tryd.t109, inf_109, rfl, rfl, rfl⟩, ⟨_, Tryd.underlying109, rfl, trivial⟩, rfl, rfl, fun h => absurd h (by decide)⟩
theorem tok_110 : TOk1 Tryd.prog 110 ⟨32, true, 32, [], Value.agg #[Value.int IntKind.u8 0, Value.int IntKind.u8 0, Value.int IntKind.u8 0, Value.int IntKind.u8 0, Value.int IntKind.u8 0, Value.int IntKind.u8 0, Value.int IntKind.u8 0, Value.int IntKind.u8 0, Value.int IntKind.u8 0, Value.int IntKind.u8 0, Value.int IntKind.u8 0, Value.int IntKind.u8 0, Value.int IntKind.u8 0, Value.int IntKind.u8 0, Value.int IntKind.u8 0, Value.int IntKind.u8 0, Value.int IntKind.u8 0, Value.int IntKind.u8 0, Value.int IntKind.u8 0, Value.int IntKind.u8 0, Value.int IntKind.u8 0, Value.int IntKind.u8 0, Value.int IntKind.u8 0, Value.int IntKind.u8 0, Value.int IntKind.u8 0, Value.int IntKind.u8 0, Value.int IntKind.u8 0, Value.int IntKind.u8 0, Value.int IntKind.u8 0, Value.int IntKind.u8 0, Value.int IntKind.u8 0, Value.int IntKind.u8 0], [0, 0, 0, 0, 0, 0, 0, 0, 0, 0, 0, 0, 0, 0, 0, 0, 0, 0, 0, 0, 0, 0, 0, 0, 0, 0, 0, 0, 0, 0, 0, 0], .array 32 5 1⟩ := ⟨⟨Tryd.t110, inf_110, rfl, rfl, rfl⟩, ⟨_, Tryd.underlying110, rfl, ⟨rfl, sz_5⟩⟩, rfl, rfl, fun h => absurd h (by decide)⟩
theorem tok_111 : TOk1 Tryd.prog 111 ⟨64, true, 64, [], Value.agg #[Value.int IntKind.u8 0, Value.int IntKind.u8 0, Value.int IntKind.u8 0, Value.int IntKind.u8 0, Value.int IntKind.u8 0, Value.int IntKind.u8 0, Value.int IntKind.u8 0, Value.int IntKind.u8 0, Value.int IntKind.u8 0, Value.int IntKind.u8 0, Value.int IntKind.u8 0, Value.int IntKind.u8 0, Value.int IntKind.u8 0, Value.int IntKind.u8 0, Value.int IntKind.u8 0, Value.int IntKind.u8 0, Value.int IntKind.u8 0, Value.int IntKind.u8 0, Value.int IntKind.u8 0, Value.int IntKind.u8 0, Value.int IntKind.u8 0, Value.int IntKind.u8 0, Value.int IntKind.u8 0, Value.int IntKind.u8 0, Value.int IntKind.u8 0, Value.int IntKind.u8 0, Value.int IntKind.u8 0, Value.int IntKind.u8 0, Value.int IntKind.u8 0, Value.int IntKind.u8 0, Value.int IntKind.u8 0, Value.int IntKind.u8 0, Value.int IntKind.u8 0, Value.int IntKind.u8 0, Value.int IntKind.u8 0, Value.int IntKind.u8 0, Value.int IntKind.u8 0, Value.int IntKind.u8 0, Value.int IntKind.u8 0, Value.int IntKind.u8 0, Value.int IntKind.u8 0, Value.int IntKind.u8 0, Value.int IntKind.u8 0, Value.int IntKind.u8 0, Value.int IntKind.u8 0, Value.int IntKind.u8 0, Value.int IntKind.u8 0, Value.int IntKind.u8 0, Value.int IntKind.u8 0, Value.int IntKind.u8 0, Value.int IntKind.u8 0, Value.int IntKind.u8 0, Value.int IntKind.u8 0, Value.int IntKind.u8 0, Value.int IntKind.u8 0, Value.int IntKind.u8 0, Value.int IntKind.u8 0, Value.int IntKind.u8 0, Value.int IntKind.u8 0, Value.int IntKind.u8 0, Value.int IntKind.u8 0, Value.int IntKind.u8 0, Value.int IntKind.u8 0, Value.int IntKind.u8 0], [0, 0, 0, 0, 0, 0, 0, 0, 0, 0, 0, 0, 0, 0, 0, 0, 0, 0, 0, 0, 0, 0, 0, 0, 0, 0, 0, 0, 0, 0, 0, 0, 0, 0, 0, 0, 0, 0, 0, 0, 0, 0, 0, 0, 0, 0, 0, 0, 0, 0, 0, 0, 0, 0, 0, 0, 0, 0, 0, 0, 0, 0, 0, 0], .array 64 5 1⟩ := ⟨⟨Tryd.t111, inf_111, rfl, rfl, rfl⟩, ⟨_, Tryd.underlying111, rfl, ⟨rfl, sz_5⟩⟩, rfl, rfl, fun h => absurd h (by decide)⟩
theorem tok_112 : TOk1 Tryd.prog 112 ⟨1, false, 8, [], Value.nilFunc, [0], .other⟩ := ⟨⟨Tryd.t112, inf_112, rfl, rfl, rfl⟩, ⟨_, Tryd.underlying112, rfl, trivial⟩, rfl, rfl, fun h => absurd h (by decide)⟩
theorem tok_113 : TOk1 Tryd.prog 113 ⟨4, true, 40, [], Value.agg #[Value.pointer none, Value.pointer none, Value.pointer none, Value.string { data := #[] }], [0, 0, 0, 0], .struct [(0, 17, 1), (1, 17, 1), (2, 17, 1), (3, 9, 1)]⟩ := ⟨⟨Tryd.t113, inf_113, rfl, rfl, rfl⟩, ⟨_, Tryd.underlying113, rfl, ⟨_, rfl, rfl, List.forall_mem_cons.2 ⟨sz_17, List.forall_mem_cons.2 ⟨sz_17, List.forall_mem_cons.2 ⟨sz_17, List.forall_mem_cons.2 ⟨sz_9, fun _ h => by cases h⟩⟩⟩⟩⟩⟩, rfl, rfl, fun h => absurd h (by decide)⟩
theorem tok_114 : TOk1 Tryd.prog 114 ⟨4, true, 40, [], Value.agg #[Value.pointer none, Value.pointer none, Value.pointer none, Value.string { data := #[] }], [0, 0, 0, 0], .struct [(0, 17, 1), (1, 17, 1), (2, 17, 1), (3, 9, 1)]⟩ := ⟨⟨Tryd.t114, inf_114, rfl, rfl, rfl⟩, ⟨_, Tryd.underlying114, rfl, ⟨_, rfl, rfl, List.forall_mem_cons.2 ⟨sz_17, List.forall_mem_cons.2 ⟨sz_17, List.forall_mem_cons.2 ⟨sz_17, List.forall_mem_cons.2 ⟨sz_9, fun _ h => by cases h⟩⟩⟩⟩⟩⟩, rfl, rfl, fun h => absurd h (by decide)⟩
theorem tok_115 : TOk1 Tryd.prog 115 ⟨0, true, 0, [], Value.agg #[], [], .array 0 16 1⟩ := ⟨⟨Tryd.t115, inf_115, rfl, rfl, rfl⟩, ⟨_, Tryd.underlying115, rfl, ⟨rfl, sz_16⟩⟩, rfl, rfl, fun h => absurd h (by decide)⟩
theorem tok_116 : TOk1 Tryd.prog 116 ⟨0, true, 0, [], Value.agg #[], [], .struct [(0, 115, 0)]⟩ := ⟨⟨Tryd.t116, inf_116, rfl, rfl, rfl⟩, ⟨_, Tryd.underlying116, rfl, ⟨_, rfl, rfl, List.forall_mem_cons.2 ⟨sz_115, fun _ h => by cases h⟩⟩⟩, rfl, rfl, fun h => absurd h (by decide)⟩
theorem tok_117 : TOk1 Tryd.prog 117 ⟨0, true, 0, [], Value.agg #[], [], .struct [(0, 115, 0)]⟩ := ⟨⟨Tryd.t117, inf_117, rfl, rfl, rfl⟩, ⟨_, Tryd.underlying117, rfl, ⟨_, rfl, rfl, List.forall_mem_cons.2 ⟨sz_115, fun _ h => by cases h⟩⟩⟩, rfl, rfl, fun h => absurd h (by decide)⟩
theorem tok_118 : TOk1 Tryd.prog 118 ⟨1, false, 8, [], Value.nilFunc, [0], .other⟩ := ⟨⟨Tryd.t118, inf_118, rfl, rfl, rfl⟩, ⟨_, Tryd.underlying118, rfl, trivial⟩, rfl, rfl, fun h => absurd h (by decide)⟩
theorem tok_119 : TOk1 Tryd.prog 119 ⟨1, false, 1, [], Value.int IntKind.u8 0, [0], .int .u8⟩ := ⟨⟨Tryd.t119, inf_119, rfl, rfl, rfl⟩, ⟨_, Tryd.underlying119, rfl, rfl⟩, rfl, rfl, fun h => absurd h (by decide)⟩
theorem tok_120 : TOk1 Tryd.prog 120 ⟨1, false, 1, [], Value.int IntKind.u8 0, [0], .int .u8⟩ := ⟨⟨Tryd.t120, inf_120, rfl, rfl, rfl⟩, ⟨_, Tryd.underlying120, rfl, rfl⟩, rfl, rfl, fun h => absurd h (by decide)⟩
theorem tok_121 : TOk1 Tryd.prog 121 ⟨1, false, 8, [], Value.nilFunc, [0], .other⟩ := ⟨⟨Tryd.t121, inf_121, rfl, rfl, rfl⟩, ⟨_, Tryd.underlying121, rfl, trivial⟩, rfl, rfl, fun h => absurd h (by decide)⟩
theorem tok_122 : TOk1 Tryd.prog 122 ⟨1, false, 8, [], Value.pointer none, [0], .other⟩ := ⟨⟨Tryd.t122, inf_122, rfl, rfl, rfl⟩, ⟨_, Tryd.underlying122, rfl, trivial⟩, rfl, rfl, fun h => absurd h (by decide)⟩
theorem tok_123 : TOk1 Tryd.prog 123 ⟨1, false, 4, [], Value.int IntKind.i32 0, [0], .int .i32⟩ := ⟨⟨Tryd.t123, inf_123, rfl, rfl, rfl⟩, ⟨_, Tryd.underlying123, rfl, rfl⟩, rfl, rfl, fun h => absurd h (by decide)⟩
theorem tok_124 : TOk1 Tryd.prog 124 ⟨1, false, 4, [], Value.int IntKind.i32 0, [0], .int .i32⟩ := ⟨⟨Tryd.t124, inf_124, rfl, rfl, rfl⟩, ⟨_, Tryd.underlying124, rfl, rfl⟩, rfl, rfl, fun h => absurd h (by decide)⟩
theorem tok_125 : TOk1 Tryd.prog 125 ⟨11, true, 48, [], Value.agg #[Value.int IntKind.u64 0, Value.int IntKind.u64 0, Value.int IntKind.u32 0, Value.int IntKind.u8 0, Value.int IntKind.u8 0, Value.int IntKind.u8 0, Value.int IntKind.u8 0, Value.nilFunc, Value.pointer none, Value.int IntKind.i32 0, Value.int IntKind.i32 0], [0, 0, 0, 0, 0, 0, 0, 0, 0, 0, 0], .struct [(0, 12, 1), (1, 12, 1), (2, 102, 1), (3, 119, 1), (4, 5, 1), (5, 5, 1), (6, 120, 1), (7, 121, 1), (8, 122, 1), (9, 123, 1), (10, 124, 1)]⟩ := ⟨⟨Tryd.t125, inf_125, rfl, rfl, rfl⟩, ⟨_, Tryd.underlying125, rfl, ⟨_, rfl, rfl, List.forall_mem_cons.2 ⟨sz_12, List.forall_mem_cons.2 ⟨sz_12, List.forall_mem_cons.2 ⟨sz_102, List.forall_mem_cons.2 ⟨sz_119, List.forall_mem_cons.2 ⟨sz_5, List.forall_mem_cons.2 ⟨sz_5, List.forall_mem_cons.2 ⟨sz_120, List.forall_mem_cons.2 ⟨sz_121, List.forall_mem_cons.2 ⟨sz_122, List.forall_mem_cons.2 ⟨sz_123, List.forall_mem_cons.2 ⟨sz_124, fun _ h => by cases h⟩⟩⟩⟩⟩⟩⟩⟩⟩⟩⟩⟩⟩, rfl, rfl, fun h => absurd h (by decide)⟩
theorem tok_126 : TOk1 Tryd.prog 126 ⟨11, true, 48, [], Value.agg #[Value.int IntKind.u64 0, Value.int IntKind.u64 0, Value.int IntKind.u32 0, Value.int IntKind.u8 0, Value.int IntKind.u8 0, Value.int IntKind.u8 0, Value.int IntKind.u8 0, Value.nilFunc, Value.pointer none, Value.int IntKind.i32 0, Value.int IntKind.i32 0], [0, 0, 0, 0, 0, 0, 0, 0, 0, 0, 0], .struct [(0, 12, 1), (1, 12, 1), (2, 102, 1), (3, 119, 1), (4, 5, 1), (5, 5, 1), (6, 120, 1), (7, 121, 1), (8, 122, 1), (9, 123, 1), (10, 124, 1)]⟩ := ⟨⟨Tryd.t126, inf_126, rfl, rfl, rfl⟩, ⟨_, Tryd.underlying126, rfl, ⟨_, rfl, rfl, List.forall_mem_cons.2 ⟨sz_12, List.forall_mem_cons.2 ⟨sz_12, List.forall_mem_cons.2 ⟨sz_102, List.forall_mem_cons.2 ⟨sz_119, List.forall_mem_cons.2 ⟨sz_5, List.forall_mem_cons.2 ⟨sz_5, List.forall_mem_cons.2 ⟨sz_120, List.forall_mem_cons.2 ⟨sz_121, List.forall_mem_cons.2 ⟨sz_122, List.forall_mem_cons.2 ⟨sz_123, List.forall_mem_cons.2 ⟨sz_124, fun _ h => by cases h⟩⟩⟩⟩⟩⟩⟩⟩⟩⟩⟩⟩⟩, rfl, rfl, fun h => absurd h (by decide)⟩
theorem tok_127 : TOk1 Tryd.prog 127 ⟨1, false, 8, [], Value.pointer none, [0], .other⟩ := ⟨⟨Tryd.t127, inf_127, rfl, rfl, rfl⟩, ⟨_, Tryd.underlying127, rfl, trivial⟩, rfl, rfl, fun h => absurd h (by decide)⟩
theorem tok : TOk Tryd.prog tOf := by
  intro t
  unfold tOf
  split
  · exact fun _ => tok_1
  · exact fun _ => tok_2
  · exact fun _ => tok_3
  · exact fun _ => tok_4
  · exact fun _ => tok_5
  · exact fun _ => tok_6
  · exact fun _ => tok_7
  · exact fun _ => tok_8
  · exact fun _ => tok_9
  · exact fun _ => tok_10
  · exact fun _ => tok_11
  · exact fun _ => tok_12
  · exact fun _ => tok_13
  · exact fun _ => tok_14
  · exact fun _ => tok_15
  · exact fun _ => tok_16
  · exact fun _ => tok_17
  · exact fun _ => tok_18
  · exact fun _ => tok_19
  · exact fun _ => tok_20
  · exact fun _ => tok_21
  · exact fun _ => tok_22
  · exact fun _ => tok_23
  · exact fun _ => tok_24
  · exact fun _ => tok_25
  · exact fun _ => tok_26
  · exact fun _ => tok_27
  · exact fun _ => tok_28
  · exact fun _ => tok_29
  · exact fun _ => tok_31
  · exact fun _ => tok_32
  · exact fun _ => tok_33
  · exact fun _ => tok_34
  · exact fun _ => tok_35
  · exact fun _ => tok_37
  · exact fun _ => tok_38
  · exact fun _ => tok_39
  · exact fun _ => tok_40
  · exact fun _ => tok_41
  · exact fun _ => tok_42
  · exact fun _ => tok_43
  · exact fun _ => tok_44
  · exact fun _ => tok_45
  · exact fun _ => tok_46
  · exact fun _ => tok_47
  · exact fun _ => tok_48
  · exact fun _ => tok_49
  · exact fun _ => tok_50
  · exact fun _ => tok_51
  · exact fun _ => tok_52
  · exact fun _ => tok_53
  · exact fun _ => tok_54
  · exact fun _ => tok_55
  · exact fun _ => tok_56
  · exact fun _ => tok_57
  · exact fun _ => tok_58
  · exact fun _ => tok_59
  · exact fun _ => tok_60
  · exact fun _ => tok_61
  · exact fun _ => tok_62
  · exact fun _ => tok_63
  · exact fun _ => tok_64
  · exact fun _ => tok_65
  · exact fun _ => tok_66
  · exact fun _ => tok_67
  · exact fun _ => tok_68
  · exact fun _ => tok_69
  · exact fun _ => tok_70
  · exact fun _ => tok_71
  · exact fun _ => tok_72
  · exact fun _ => tok_73
  · exact fun _ => tok_74
  · exact fun _ => tok_75
  · exact fun _ => tok_76
  · exact fun _ => tok_77
  · exact fun _ => tok_78
  · exact fun _ => tok_79
  · exact fun _ => tok_80
  · exact fun _ => tok_81
  · exact fun _ => tok_82
  · exact fun _ => tok_83
  · exact fun _ => tok_84
  · exact fun _ => tok_85
  · exact fun _ => tok_86
  · exact fun _ => tok_87
  · exact fun _ => tok_88
  · exact fun _ => tok_90
  · exact fun _ => tok_91
  · exact fun _ => tok_92
  · exact fun _ => tok_93
  · exact fun _ => tok_94
  · exact fun _ => tok_95
  · exact fun _ => tok_96
  · exact fun _ => tok_98
  · exact fun _ => tok_99
  · exact fun _ => tok_100
  · exact fun _ => tok_101
  · exact fun _ => tok_102
  · exact fun _ => tok_103
  · exact fun _ => tok_104
  · exact fun _ => tok_105
  · exact fun _ => tok_106
  · exact fun _ => tok_107
  · exact fun _ => tok_109
  · exact fun _ => tok_110
  · exact fun _ => tok_111
  · exact fun _ => tok_112
  · exact fun _ => tok_113
  · exact fun _ => tok_114
  · exact fun _ => tok_115
  · exact fun _ => tok_116
  · exact fun _ => tok_117
  · exact fun _ => tok_118
  · exact fun _ => tok_119
  · exact fun _ => tok_120
  · exact fun _ => tok_121
  · exact fun _ => tok_122
  · exact fun _ => tok_123
  · exact fun _ => tok_124
  · exact fun _ => tok_125
  · exact fun _ => tok_126
  · exact fun _ => tok_127
  · intro h; cases h
theorem noeqs : ∀ t, (tOf t).eqs = true → (tOf t).known = true := by
  intro t
  unfold tOf
  split <;> first | exact fun _ => rfl | exact fun h => absurd h (by decide)
theorem mixed : Tryd.prog.follows .mixedOrders = true := by kernel_rfl
end Go.Proofs.YtljdbikodogeiaaDoor

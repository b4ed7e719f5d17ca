/-
  The table of the types of the program, and that it is the program's. Printed by wip/tools/types.py.
-/
import Derived.Test.YtlgadmholjaljaaEvU
namespace Go.Proofs.Ytlgadmholjaljaa
open Go.RowKit
theorem sizeIs_of {P : Program} {t : Nat} {ti : TypeInfo} (h : P.info? t = some ti) : SizeIs P t ti.size := by
  unfold SizeIs
  rw [h]
  rfl
def tOf : Nat → TI
  | 1 => ⟨1, false, 8, [], Value.nilFunc, [0], .other⟩
  | 2 => ⟨1, false, 8, [], Value.int IntKind.i64 0, [0], .int .i64⟩
  | 3 => ⟨1, false, 8, [], Value.int IntKind.i64 0, [0], .int .i64⟩
  | 4 => ⟨1, false, 1, [], Value.bool false, [0], .bool⟩
  | 5 => ⟨1, false, 1, [], Value.int IntKind.u8 0, [0], .int .u8⟩
  | 6 => ⟨1, false, 1, [], Value.int IntKind.u8 0, [0], .int .u8⟩
  | 7 => ⟨4, true, 24, [], Value.agg #[Value.int IntKind.i64 0, Value.int IntKind.i64 0, Value.bool false, Value.int IntKind.u8 0], [0, 0, 0, 0], .struct [(0, 2, 1), (1, 3, 1), (2, 4, 1), (3, 6, 1)]⟩
  | 8 => ⟨4, true, 24, [], Value.agg #[Value.int IntKind.i64 0, Value.int IntKind.i64 0, Value.bool false, Value.int IntKind.u8 0], [0, 0, 0, 0], .struct [(0, 2, 1), (1, 3, 1), (2, 4, 1), (3, 6, 1)]⟩
  | 9 => ⟨1, false, 16, [], Value.string { data := #[] }, [0], .str⟩
  | 10 => ⟨1, false, 16, [], Value.string { data := #[] }, [0], .str⟩
  | 11 => ⟨1, false, 16, [], Value.string { data := #[] }, [0], .str⟩
  | 12 => ⟨1, false, 8, [], Value.int IntKind.u64 0, [0], .int .u64⟩
  | 13 => ⟨2, true, 24, [], Value.agg #[Value.string { data := #[] }, Value.int IntKind.u64 0], [0, 0], .struct [(0, 9, 1), (1, 12, 1)]⟩
  | 14 => ⟨2, true, 24, [], Value.agg #[Value.string { data := #[] }, Value.int IntKind.u64 0], [0, 0], .struct [(0, 9, 1), (1, 12, 1)]⟩
  | 15 => ⟨1, false, 8, [], Value.pointer none, [0], .ptr⟩
  | 16 => ⟨1, false, 8, [], Value.pointer none, [0], .ptr⟩
  | 17 => ⟨1, false, 8, [], Value.pointer none, [0], .ptr⟩
  | 18 => ⟨1, true, 8, [], Value.agg #[Value.pointer none], [0], .struct [(0, 17, 1)]⟩
  | 19 => ⟨1, true, 8, [], Value.agg #[Value.pointer none], [0], .struct [(0, 17, 1)]⟩
  | 20 => ⟨1, false, 16, [], Value.nilIface, [0], .other⟩
  | 21 => ⟨1, false, 4, [], Value.int IntKind.i32 0, [0], .int .i32⟩
  | 22 => ⟨1, false, 24, [], Value.slice none 0 0, [2], .slice 25 2⟩
  | 23 => ⟨1, false, 24, [], Value.slice none 0 0, [1], .slice 3 1⟩
  | 24 => ⟨2, true, 32, [], Value.agg #[Value.int IntKind.i64 0, Value.slice none 0 0], [0, 1], .struct [(0, 3, 1), (1, 23, 1)]⟩
  | 25 => ⟨2, true, 32, [], Value.agg #[Value.int IntKind.i64 0, Value.slice none 0 0], [0, 1], .struct [(0, 3, 1), (1, 23, 1)]⟩
  | 26 => ⟨1, false, 8, [], Value.nilFunc, [0], .other⟩
  | 27 => ⟨1, false, 8, [], Value.nilFunc, [0], .other⟩
  | 28 => ⟨1, false, 8, [], Value.pointer none, [0], .ptr⟩
  | 29 => ⟨1, false, 8, [], Value.nilFunc, [0], .other⟩
  | 30 => ⟨1, false, 8, [], Value.nilFunc, [0], .other⟩
  | 31 => ⟨1, false, 8, [], Value.nilFunc, [0], .other⟩
  | 32 => ⟨1, false, 8, [], Value.nilFunc, [0], .other⟩
  | 33 => ⟨1, false, 8, [], Value.nilFunc, [0], .other⟩
  | 34 => ⟨1, false, 8, [], Value.int IntKind.i64 0, [0], .int .i64⟩
  | 35 => ⟨1, false, 8, [], Value.nilFunc, [0], .other⟩
  | 36 => ⟨1, false, 8, [], Value.nilFunc, [0], .other⟩
  | 37 => ⟨1, false, 8, [], Value.nilFunc, [0], .other⟩
  | 38 => ⟨1, false, 8, [], Value.nilFunc, [0], .other⟩
  | 39 => ⟨1, false, 8, [], Value.nilFunc, [0], .other⟩
  | 40 => ⟨1, false, 8, [], Value.nilFunc, [0], .other⟩
  | 41 => ⟨1, false, 8, [], Value.nilFunc, [0], .other⟩
  | 42 => ⟨1, false, 8, [], Value.nilFunc, [0], .other⟩
  | 43 => ⟨1, false, 8, [], Value.nilFunc, [0], .other⟩
  | 44 => ⟨1, false, 8, [], Value.nilFunc, [0], .other⟩
  | 45 => ⟨1, false, 8, [], Value.nilFunc, [0], .other⟩
  | 46 => ⟨1, false, 8, [], Value.nilFunc, [0], .other⟩
  | 47 => ⟨1, false, 8, [], Value.nilFunc, [0], .other⟩
  | 48 => ⟨1, false, 8, [], Value.nilFunc, [0], .other⟩
  | 49 => ⟨1, false, 8, [], Value.pointer none, [0], .ptr⟩
  | 50 => ⟨1, true, 24, [], Value.agg #[Value.slice none 0 0], [2], .struct [(0, 22, 1)]⟩
  | 51 => ⟨1, true, 24, [], Value.agg #[Value.slice none 0 0], [2], .struct [(0, 22, 1)]⟩
  | 52 => ⟨1, false, 8, [], Value.nilFunc, [0], .other⟩
  | 53 => ⟨1, false, 8, [], Value.nilFunc, [0], .other⟩
  | 54 => ⟨1, false, 8, [], Value.nilFunc, [0], .other⟩
  | 55 => ⟨1, false, 8, [], Value.nilFunc, [0], .other⟩
  | 56 => ⟨1, false, 8, [], Value.nilFunc, [0], .other⟩
  | 57 => ⟨1, false, 8, [], Value.map none, [0], .map 3 60⟩
  | 58 => ⟨1, false, 8, [], Value.nilFunc, [0], .other⟩
  | 59 => ⟨2, true, 32, [], Value.agg #[Value.slice none 0 0, Value.int IntKind.i64 0], [1, 0], .struct [(0, 23, 1), (1, 3, 1)]⟩
  | 60 => ⟨2, true, 32, [], Value.agg #[Value.slice none 0 0, Value.int IntKind.i64 0], [1, 0], .struct [(0, 23, 1), (1, 3, 1)]⟩
  | 61 => ⟨1, true, 8, [], Value.agg #[Value.map none], [0], .struct [(0, 57, 1)]⟩
  | 62 => ⟨1, true, 8, [], Value.agg #[Value.map none], [0], .struct [(0, 57, 1)]⟩
  | 64 => ⟨1, false, 8, [], Value.nilFunc, [0], .other⟩
  | 65 => ⟨1, false, 8, [], Value.nilFunc, [0], .other⟩
  | 66 => ⟨1, false, 8, [], Value.nilFunc, [0], .other⟩
  | 67 => ⟨1, false, 8, [], Value.nilFunc, [0], .other⟩
  | 68 => ⟨1, false, 8, [], Value.nilFunc, [0], .other⟩
  | 69 => ⟨1, false, 8, [], Value.nilFunc, [0], .other⟩
  | 70 => ⟨1, false, 8, [], Value.map none, [0], .map 3 4⟩
  | 71 => ⟨1, false, 8, [], Value.nilFunc, [0], .other⟩
  | 72 => ⟨1, false, 8, [], Value.nilFunc, [0], .other⟩
  | 73 => ⟨1, false, 8, [], Value.nilFunc, [0], .other⟩
  | 74 => ⟨1, false, 8, [], Value.nilFunc, [0], .other⟩
  | 76 => ⟨1, false, 8, [], Value.nilFunc, [0], .other⟩
  | 77 => ⟨1, false, 8, [], Value.nilFunc, [0], .other⟩
  | 78 => ⟨1, false, 24, [], Value.slice none 0 0, [1], .slice 4 1⟩
  | 79 => ⟨1, false, 8, [], Value.nilFunc, [0], .other⟩
  | 80 => ⟨1, false, 8, [], Value.nilFunc, [0], .other⟩
  | 81 => ⟨1, false, 8, [], Value.nilFunc, [0], .other⟩
  | 82 => ⟨1, false, 8, [], Value.nilFunc, [0], .other⟩
  | 83 => ⟨1, false, 8, [], Value.int IntKind.u64 0, [0], .int .u64⟩
  | 84 => ⟨1, false, 8, [], Value.nilFunc, [0], .other⟩
  | 85 => ⟨1, false, 8, [], Value.nilFunc, [0], .other⟩
  | 86 => ⟨1, false, 8, [], Value.int IntKind.i64 0, [0], .int .i64⟩
  | 88 => ⟨1, false, 8, [], Value.nilFunc, [0], .other⟩
  | 89 => ⟨1, false, 8, [], Value.nilFunc, [0], .other⟩
  | 90 => ⟨1, false, 8, [], Value.nilFunc, [0], .other⟩
  | 91 => ⟨1, false, 8, [], Value.nilFunc, [0], .other⟩
  | 92 => ⟨1, false, 8, [], Value.nilFunc, [0], .other⟩
  | 93 => ⟨1, false, 4, [], Value.int IntKind.u32 0, [0], .int .u32⟩
  | 94 => ⟨1, false, 8, [], Value.nilFunc, [0], .other⟩
  | 95 => ⟨1, false, 8, [], Value.int IntKind.u64 0, [0], .int .u64⟩
  | 96 => ⟨1, false, 8, [], Value.nilFunc, [0], .other⟩
  | 97 => ⟨1, false, 8, [], Value.nilFunc, [0], .other⟩
  | 98 => ⟨1, false, 8, [], Value.int IntKind.u64 0, [0], .int .u64⟩
  | 99 => ⟨1, false, 8, [], Value.nilFunc, [0], .other⟩
  | 100 => ⟨1, false, 8, [], Value.nilFunc, [0], .other⟩
  | 101 => ⟨1, false, 8, [], Value.nilFunc, [0], .other⟩
  | 102 => ⟨1, false, 8, [], Value.pointer none, [0], .ptr⟩
  | 103 => ⟨1, false, 8, [], Value.nilFunc, [0], .other⟩
  | 104 => ⟨1, false, 8, [], Value.nilFunc, [0], .other⟩
  | 105 => ⟨1, false, 8, [], Value.nilFunc, [0], .other⟩
  | 106 => ⟨1, false, 8, [], Value.nilFunc, [0], .other⟩
  | 107 => ⟨1, false, 8, [], Value.nilFunc, [0], .other⟩
  | 108 => ⟨1, false, 8, [], Value.nilFunc, [0], .other⟩
  | 109 => ⟨1, false, 8, [], Value.pointer none, [0], .ptr⟩
  | 111 => ⟨1, false, 8, [], Value.nilFunc, [0], .other⟩
  | 112 => ⟨1, false, 8, [], Value.nilFunc, [0], .other⟩
  | 113 => ⟨1, false, 8, [], Value.nilFunc, [0], .other⟩
  | 114 => ⟨1, false, 8, [], Value.nilFunc, [0], .other⟩
  | 115 => ⟨1, false, 8, [], Value.nilFunc, [0], .other⟩
  | 116 => ⟨4, true, 40, [], Value.agg #[Value.pointer none, Value.pointer none, Value.pointer none, Value.string { data := #[] }], [0, 0, 0, 0], .struct [(0, 17, 1), (1, 17, 1), (2, 17, 1), (3, 9, 1)]⟩
  | 117 => ⟨4, true, 40, [], Value.agg #[Value.pointer none, Value.pointer none, Value.pointer none, Value.string { data := #[] }], [0, 0, 0, 0], .struct [(0, 17, 1), (1, 17, 1), (2, 17, 1), (3, 9, 1)]⟩
  | 118 => ⟨0, true, 0, [], Value.agg #[], [], .array 0 16 1⟩
  | 119 => ⟨0, true, 0, [], Value.agg #[], [], .struct [(0, 118, 0)]⟩
  | 120 => ⟨0, true, 0, [], Value.agg #[], [], .struct [(0, 118, 0)]⟩
  | 121 => ⟨1, false, 1, [], Value.int IntKind.u8 0, [0], .int .u8⟩
  | 122 => ⟨1, false, 1, [], Value.int IntKind.u8 0, [0], .int .u8⟩
  | 123 => ⟨1, false, 8, [], Value.nilFunc, [0], .other⟩
  | 124 => ⟨1, false, 8, [], Value.pointer none, [0], .ptr⟩
  | 125 => ⟨1, false, 4, [], Value.int IntKind.i32 0, [0], .int .i32⟩
  | 126 => ⟨1, false, 4, [], Value.int IntKind.i32 0, [0], .int .i32⟩
  | 127 => ⟨11, true, 48, [], Value.agg #[Value.int IntKind.u64 0, Value.int IntKind.u64 0, Value.int IntKind.u32 0, Value.int IntKind.u8 0, Value.int IntKind.u8 0, Value.int IntKind.u8 0, Value.int IntKind.u8 0, Value.nilFunc, Value.pointer none, Value.int IntKind.i32 0, Value.int IntKind.i32 0], [0, 0, 0, 0, 0, 0, 0, 0, 0, 0, 0], .struct [(0, 12, 1), (1, 12, 1), (2, 93, 1), (3, 121, 1), (4, 5, 1), (5, 5, 1), (6, 122, 1), (7, 123, 1), (8, 124, 1), (9, 125, 1), (10, 126, 1)]⟩
  | 128 => ⟨11, true, 48, [], Value.agg #[Value.int IntKind.u64 0, Value.int IntKind.u64 0, Value.int IntKind.u32 0, Value.int IntKind.u8 0, Value.int IntKind.u8 0, Value.int IntKind.u8 0, Value.int IntKind.u8 0, Value.nilFunc, Value.pointer none, Value.int IntKind.i32 0, Value.int IntKind.i32 0], [0, 0, 0, 0, 0, 0, 0, 0, 0, 0, 0], .struct [(0, 12, 1), (1, 12, 1), (2, 93, 1), (3, 121, 1), (4, 5, 1), (5, 5, 1), (6, 122, 1), (7, 123, 1), (8, 124, 1), (9, 125, 1), (10, 126, 1)]⟩
  | 129 => ⟨1, false, 8, [], Value.pointer none, [0], .other⟩
  | 1000049 => ⟨0, false, 2, [], .bool false, [], .none_⟩
  | 1000054 => ⟨0, false, 2, [], .bool false, [], .none_⟩
  | 1000051 => ⟨0, false, 1, [], .bool false, [], .none_⟩
  | 1000060 => ⟨0, false, 3, [], .bool false, [], .none_⟩
  | 1000056 => ⟨0, false, 3, [], .bool false, [], .none_⟩
  | 1000055 => ⟨0, false, 4, [], .bool false, [], .none_⟩
  | 1000014 => ⟨0, false, 7, [], .bool false, [], .none_⟩
  | 1000019 => ⟨0, false, 7, [], .bool false, [], .none_⟩
  | 1000021 => ⟨0, false, 7, [], .bool false, [], .none_⟩
  | 1000022 => ⟨0, false, 7, [], .bool false, [], .none_⟩
  | 1000023 => ⟨0, false, 7, [], .bool false, [], .none_⟩
  | 1000024 => ⟨0, false, 7, [], .bool false, [], .none_⟩
  | 1000025 => ⟨0, false, 7, [], .bool false, [], .none_⟩
  | 1000026 => ⟨0, false, 7, [], .bool false, [], .none_⟩
  | 1000028 => ⟨0, false, 7, [], .bool false, [], .none_⟩
  | 1000038 => ⟨0, false, 7, [], .bool false, [], .none_⟩
  | 1000030 => ⟨0, false, 7, [], .bool false, [], .none_⟩
  | 1000031 => ⟨0, false, 7, [], .bool false, [], .none_⟩
  | 1000032 => ⟨0, false, 7, [], .bool false, [], .none_⟩
  | 1000033 => ⟨0, false, 7, [], .bool false, [], .none_⟩
  | 1000034 => ⟨0, false, 7, [], .bool false, [], .none_⟩
  | 1000035 => ⟨0, false, 7, [], .bool false, [], .none_⟩
  | 1000039 => ⟨0, false, 7, [], .bool false, [], .none_⟩
  | 1000040 => ⟨0, false, 7, [], .bool false, [], .none_⟩
  | 1000013 => ⟨0, false, 7, [], .bool false, [], .none_⟩
  | 1000036 => ⟨0, false, 7, [], .bool false, [], .none_⟩
  | 1000037 => ⟨0, false, 7, [], .bool false, [], .none_⟩
  | 1000017 => ⟨0, false, 7, [], .bool false, [], .none_⟩
  | 1000041 => ⟨0, false, 7, [], .bool false, [], .none_⟩
  | 1000011 => ⟨0, false, 7, [], .bool false, [], .none_⟩
  | 1000012 => ⟨0, false, 7, [], .bool false, [], .none_⟩
  | 1000015 => ⟨0, false, 7, [], .bool false, [], .none_⟩
  | 1000016 => ⟨0, false, 6, [], .bool false, [], .none_⟩
  | 1000029 => ⟨0, false, 6, [], .bool false, [], .none_⟩
  | 1000043 => ⟨0, false, 7, [], .bool false, [], .none_⟩
  | _ => ⟨0, false, 0, [], .bool false, [], .none_⟩
theorem inf_1 : Try.prog.info? 1 = some Try.t1 := by kernel_rfl
theorem inf_2 : Try.prog.info? 2 = some Try.t2 := by kernel_rfl
theorem inf_3 : Try.prog.info? 3 = some Try.t3 := by kernel_rfl
theorem inf_4 : Try.prog.info? 4 = some Try.t4 := by kernel_rfl
theorem inf_5 : Try.prog.info? 5 = some Try.t5 := by kernel_rfl
theorem inf_6 : Try.prog.info? 6 = some Try.t6 := by kernel_rfl
theorem inf_7 : Try.prog.info? 7 = some Try.t7 := by kernel_rfl
theorem inf_8 : Try.prog.info? 8 = some Try.t8 := by kernel_rfl
theorem inf_9 : Try.prog.info? 9 = some Try.t9 := by kernel_rfl
theorem inf_10 : Try.prog.info? 10 = some Try.t10 := by kernel_rfl
theorem inf_11 : Try.prog.info? 11 = some Try.t11 := by kernel_rfl
theorem inf_12 : Try.prog.info? 12 = some Try.t12 := by kernel_rfl
theorem inf_13 : Try.prog.info? 13 = some Try.t13 := by kernel_rfl
theorem inf_14 : Try.prog.info? 14 = some Try.t14 := by kernel_rfl
theorem inf_15 : Try.prog.info? 15 = some Try.t15 := by kernel_rfl
theorem inf_16 : Try.prog.info? 16 = some Try.t16 := by kernel_rfl
theorem inf_17 : Try.prog.info? 17 = some Try.t17 := by kernel_rfl
theorem inf_18 : Try.prog.info? 18 = some Try.t18 := by kernel_rfl
theorem inf_19 : Try.prog.info? 19 = some Try.t19 := by kernel_rfl
theorem inf_20 : Try.prog.info? 20 = some Try.t20 := by kernel_rfl
theorem inf_21 : Try.prog.info? 21 = some Try.t21 := by kernel_rfl
theorem inf_22 : Try.prog.info? 22 = some Try.t22 := by kernel_rfl
theorem inf_23 : Try.prog.info? 23 = some Try.t23 := by kernel_rfl
theorem inf_24 : Try.prog.info? 24 = some Try.t24 := by kernel_rfl
theorem inf_25 : Try.prog.info? 25 = some Try.t25 := by kernel_rfl
theorem inf_26 : Try.prog.info? 26 = some Try.t26 := by kernel_rfl
theorem inf_27 : Try.prog.info? 27 = some Try.t27 := by kernel_rfl
theorem inf_28 : Try.prog.info? 28 = some Try.t28 := by kernel_rfl
theorem inf_29 : Try.prog.info? 29 = some Try.t29 := by kernel_rfl
theorem inf_30 : Try.prog.info? 30 = some Try.t30 := by kernel_rfl
theorem inf_31 : Try.prog.info? 31 = some Try.t31 := by kernel_rfl
theorem inf_32 : Try.prog.info? 32 = some Try.t32 := by kernel_rfl
theorem inf_33 : Try.prog.info? 33 = some Try.t33 := by kernel_rfl
theorem inf_34 : Try.prog.info? 34 = some Try.t34 := by kernel_rfl
theorem inf_35 : Try.prog.info? 35 = some Try.t35 := by kernel_rfl
theorem inf_36 : Try.prog.info? 36 = some Try.t36 := by kernel_rfl
theorem inf_37 : Try.prog.info? 37 = some Try.t37 := by kernel_rfl
theorem inf_38 : Try.prog.info? 38 = some Try.t38 := by kernel_rfl
theorem inf_39 : Try.prog.info? 39 = some Try.t39 := by kernel_rfl
theorem inf_40 : Try.prog.info? 40 = some Try.t40 := by kernel_rfl
theorem inf_41 : Try.prog.info? 41 = some Try.t41 := by kernel_rfl
theorem inf_42 : Try.prog.info? 42 = some Try.t42 := by kernel_rfl
theorem inf_43 : Try.prog.info? 43 = some Try.t43 := by kernel_rfl
theorem inf_44 : Try.prog.info? 44 = some Try.t44 := by kernel_rfl
theorem inf_45 : Try.prog.info? 45 = some Try.t45 := by kernel_rfl
theorem inf_46 : Try.prog.info? 46 = some Try.t46 := by kernel_rfl
theorem inf_47 : Try.prog.info? 47 = some Try.t47 := by kernel_rfl
theorem inf_48 : Try.prog.info? 48 = some Try.t48 := by kernel_rfl
theorem inf_49 : Try.prog.info? 49 = some Try.t49 := by kernel_rfl
theorem inf_50 : Try.prog.info? 50 = some Try.t50 := by kernel_rfl
theorem inf_51 : Try.prog.info? 51 = some Try.t51 := by kernel_rfl
theorem inf_52 : Try.prog.info? 52 = some Try.t52 := by kernel_rfl
theorem inf_53 : Try.prog.info? 53 = some Try.t53 := by kernel_rfl
theorem inf_54 : Try.prog.info? 54 = some Try.t54 := by kernel_rfl
theorem inf_55 : Try.prog.info? 55 = some Try.t55 := by kernel_rfl
theorem inf_56 : Try.prog.info? 56 = some Try.t56 := by kernel_rfl
theorem inf_57 : Try.prog.info? 57 = some Try.t57 := by kernel_rfl
theorem inf_58 : Try.prog.info? 58 = some Try.t58 := by kernel_rfl
theorem inf_59 : Try.prog.info? 59 = some Try.t59 := by kernel_rfl
theorem inf_60 : Try.prog.info? 60 = some Try.t60 := by kernel_rfl
theorem inf_61 : Try.prog.info? 61 = some Try.t61 := by kernel_rfl
theorem inf_62 : Try.prog.info? 62 = some Try.t62 := by kernel_rfl
theorem inf_64 : Try.prog.info? 64 = some Try.t64 := by kernel_rfl
theorem inf_65 : Try.prog.info? 65 = some Try.t65 := by kernel_rfl
theorem inf_66 : Try.prog.info? 66 = some Try.t66 := by kernel_rfl
theorem inf_67 : Try.prog.info? 67 = some Try.t67 := by kernel_rfl
theorem inf_68 : Try.prog.info? 68 = some Try.t68 := by kernel_rfl
theorem inf_69 : Try.prog.info? 69 = some Try.t69 := by kernel_rfl
theorem inf_70 : Try.prog.info? 70 = some Try.t70 := by kernel_rfl
theorem inf_71 : Try.prog.info? 71 = some Try.t71 := by kernel_rfl
theorem inf_72 : Try.prog.info? 72 = some Try.t72 := by kernel_rfl
theorem inf_73 : Try.prog.info? 73 = some Try.t73 := by kernel_rfl
theorem inf_74 : Try.prog.info? 74 = some Try.t74 := by kernel_rfl
theorem inf_76 : Try.prog.info? 76 = some Try.t76 := by kernel_rfl
theorem inf_77 : Try.prog.info? 77 = some Try.t77 := by kernel_rfl
theorem inf_78 : Try.prog.info? 78 = some Try.t78 := by kernel_rfl
theorem inf_79 : Try.prog.info? 79 = some Try.t79 := by kernel_rfl
theorem inf_80 : Try.prog.info? 80 = some Try.t80 := by kernel_rfl
theorem inf_81 : Try.prog.info? 81 = some Try.t81 := by kernel_rfl
theorem inf_82 : Try.prog.info? 82 = some Try.t82 := by kernel_rfl
theorem inf_83 : Try.prog.info? 83 = some Try.t83 := by kernel_rfl
theorem inf_84 : Try.prog.info? 84 = some Try.t84 := by kernel_rfl
theorem inf_85 : Try.prog.info? 85 = some Try.t85 := by kernel_rfl
theorem inf_86 : Try.prog.info? 86 = some Try.t86 := by kernel_rfl
theorem inf_88 : Try.prog.info? 88 = some Try.t88 := by kernel_rfl
theorem inf_89 : Try.prog.info? 89 = some Try.t89 := by kernel_rfl
theorem inf_90 : Try.prog.info? 90 = some Try.t90 := by kernel_rfl
theorem inf_91 : Try.prog.info? 91 = some Try.t91 := by kernel_rfl
theorem inf_92 : Try.prog.info? 92 = some Try.t92 := by kernel_rfl
theorem inf_93 : Try.prog.info? 93 = some Try.t93 := by kernel_rfl
theorem inf_94 : Try.prog.info? 94 = some Try.t94 := by kernel_rfl
theorem inf_95 : Try.prog.info? 95 = some Try.t95 := by kernel_rfl
theorem inf_96 : Try.prog.info? 96 = some Try.t96 := by kernel_rfl
theorem inf_97 : Try.prog.info? 97 = some Try.t97 := by kernel_rfl
theorem inf_98 : Try.prog.info? 98 = some Try.t98 := by kernel_rfl
theorem inf_99 : Try.prog.info? 99 = some Try.t99 := by kernel_rfl
theorem inf_100 : Try.prog.info? 100 = some Try.t100 := by kernel_rfl
theorem inf_101 : Try.prog.info? 101 = some Try.t101 := by kernel_rfl
theorem inf_102 : Try.prog.info? 102 = some Try.t102 := by kernel_rfl
theorem inf_103 : Try.prog.info? 103 = some Try.t103 := by kernel_rfl
theorem inf_104 : Try.prog.info? 104 = some Try.t104 := by kernel_rfl
theorem inf_105 : Try.prog.info? 105 = some Try.t105 := by kernel_rfl
theorem inf_106 : Try.prog.info? 106 = some Try.t106 := by kernel_rfl
theorem inf_107 : Try.prog.info? 107 = some Try.t107 := by kernel_rfl
theorem inf_108 : Try.prog.info? 108 = some Try.t108 := by kernel_rfl
theorem inf_109 : Try.prog.info? 109 = some Try.t109 := by kernel_rfl
theorem inf_111 : Try.prog.info? 111 = some Try.t111 := by kernel_rfl
theorem inf_112 : Try.prog.info? 112 = some Try.t112 := by kernel_rfl
theorem inf_113 : Try.prog.info? 113 = some Try.t113 := by kernel_rfl
theorem inf_114 : Try.prog.info? 114 = some Try.t114 := by kernel_rfl
theorem inf_115 : Try.prog.info? 115 = some Try.t115 := by kernel_rfl
theorem inf_116 : Try.prog.info? 116 = some Try.t116 := by kernel_rfl
theorem inf_117 : Try.prog.info? 117 = some Try.t117 := by kernel_rfl
theorem inf_118 : Try.prog.info? 118 = some Try.t118 := by kernel_rfl
theorem inf_119 : Try.prog.info? 119 = some Try.t119 := by kernel_rfl
theorem inf_120 : Try.prog.info? 120 = some Try.t120 := by kernel_rfl
theorem inf_121 : Try.prog.info? 121 = some Try.t121 := by kernel_rfl
theorem inf_122 : Try.prog.info? 122 = some Try.t122 := by kernel_rfl
theorem inf_123 : Try.prog.info? 123 = some Try.t123 := by kernel_rfl
theorem inf_124 : Try.prog.info? 124 = some Try.t124 := by kernel_rfl
theorem inf_125 : Try.prog.info? 125 = some Try.t125 := by kernel_rfl
theorem inf_126 : Try.prog.info? 126 = some Try.t126 := by kernel_rfl
theorem inf_127 : Try.prog.info? 127 = some Try.t127 := by kernel_rfl
theorem inf_128 : Try.prog.info? 128 = some Try.t128 := by kernel_rfl
theorem inf_129 : Try.prog.info? 129 = some Try.t129 := by kernel_rfl
theorem sz_1 : SizeIs Try.prog 1 1 := sizeIs_of inf_1
theorem sz_2 : SizeIs Try.prog 2 1 := sizeIs_of inf_2
theorem sz_3 : SizeIs Try.prog 3 1 := sizeIs_of inf_3
theorem sz_4 : SizeIs Try.prog 4 1 := sizeIs_of inf_4
theorem sz_5 : SizeIs Try.prog 5 1 := sizeIs_of inf_5
theorem sz_6 : SizeIs Try.prog 6 1 := sizeIs_of inf_6
theorem sz_7 : SizeIs Try.prog 7 4 := sizeIs_of inf_7
theorem sz_8 : SizeIs Try.prog 8 4 := sizeIs_of inf_8
theorem sz_9 : SizeIs Try.prog 9 1 := sizeIs_of inf_9
theorem sz_10 : SizeIs Try.prog 10 1 := sizeIs_of inf_10
theorem sz_11 : SizeIs Try.prog 11 1 := sizeIs_of inf_11
theorem sz_12 : SizeIs Try.prog 12 1 := sizeIs_of inf_12
theorem sz_13 : SizeIs Try.prog 13 2 := sizeIs_of inf_13
theorem sz_14 : SizeIs Try.prog 14 2 := sizeIs_of inf_14
theorem sz_15 : SizeIs Try.prog 15 1 := sizeIs_of inf_15
theorem sz_16 : SizeIs Try.prog 16 1 := sizeIs_of inf_16
theorem sz_17 : SizeIs Try.prog 17 1 := sizeIs_of inf_17
theorem sz_18 : SizeIs Try.prog 18 1 := sizeIs_of inf_18
theorem sz_19 : SizeIs Try.prog 19 1 := sizeIs_of inf_19
theorem sz_20 : SizeIs Try.prog 20 1 := sizeIs_of inf_20
theorem sz_21 : SizeIs Try.prog 21 1 := sizeIs_of inf_21
theorem sz_22 : SizeIs Try.prog 22 1 := sizeIs_of inf_22
theorem sz_23 : SizeIs Try.prog 23 1 := sizeIs_of inf_23
theorem sz_24 : SizeIs Try.prog 24 2 := sizeIs_of inf_24
theorem sz_25 : SizeIs Try.prog 25 2 := sizeIs_of inf_25
theorem sz_26 : SizeIs Try.prog 26 1 := sizeIs_of inf_26
theorem sz_27 : SizeIs Try.prog 27 1 := sizeIs_of inf_27
theorem sz_28 : SizeIs Try.prog 28 1 := sizeIs_of inf_28
theorem sz_29 : SizeIs Try.prog 29 1 := sizeIs_of inf_29
theorem sz_30 : SizeIs Try.prog 30 1 := sizeIs_of inf_30
theorem sz_31 : SizeIs Try.prog 31 1 := sizeIs_of inf_31
theorem sz_32 : SizeIs Try.prog 32 1 := sizeIs_of inf_32
theorem sz_33 : SizeIs Try.prog 33 1 := sizeIs_of inf_33
theorem sz_34 : SizeIs Try.prog 34 1 := sizeIs_of inf_34
theorem sz_35 : SizeIs Try.prog 35 1 := sizeIs_of inf_35
theorem sz_36 : SizeIs Try.prog 36 1 := sizeIs_of inf_36
theorem sz_37 : SizeIs Try.prog 37 1 := sizeIs_of inf_37
theorem sz_38 : SizeIs Try.prog 38 1 := sizeIs_of inf_38
theorem sz_39 : SizeIs Try.prog 39 1 := sizeIs_of inf_39
theorem sz_40 : SizeIs Try.prog 40 1 := sizeIs_of inf_40
theorem sz_41 : SizeIs Try.prog 41 1 := sizeIs_of inf_41
theorem sz_42 : SizeIs Try.prog 42 1 := sizeIs_of inf_42
theorem sz_43 : SizeIs Try.prog 43 1 := sizeIs_of inf_43
theorem sz_44 : SizeIs Try.prog 44 1 := sizeIs_of inf_44
theorem sz_45 : SizeIs Try.prog 45 1 := sizeIs_of inf_45
theorem sz_46 : SizeIs Try.prog 46 1 := sizeIs_of inf_46
theorem sz_47 : SizeIs Try.prog 47 1 := sizeIs_of inf_47
theorem sz_48 : SizeIs Try.prog 48 1 := sizeIs_of inf_48
theorem sz_49 : SizeIs Try.prog 49 1 := sizeIs_of inf_49
theorem sz_50 : SizeIs Try.prog 50 1 := sizeIs_of inf_50
theorem sz_51 : SizeIs Try.prog 51 1 := sizeIs_of inf_51
theorem sz_52 : SizeIs Try.prog 52 1 := sizeIs_of inf_52
theorem sz_53 : SizeIs Try.prog 53 1 := sizeIs_of inf_53
theorem sz_54 : SizeIs Try.prog 54 1 := sizeIs_of inf_54
theorem sz_55 : SizeIs Try.prog 55 1 := sizeIs_of inf_55
theorem sz_56 : SizeIs Try.prog 56 1 := sizeIs_of inf_56
theorem sz_57 : SizeIs Try.prog 57 1 := sizeIs_of inf_57
theorem sz_58 : SizeIs Try.prog 58 1 := sizeIs_of inf_58
theorem sz_59 : SizeIs Try.prog 59 2 := sizeIs_of inf_59
theorem sz_60 : SizeIs Try.prog 60 2 := sizeIs_of inf_60
theorem sz_61 : SizeIs Try.prog 61 1 := sizeIs_of inf_61
theorem sz_62 : SizeIs Try.prog 62 1 := sizeIs_of inf_62
theorem sz_64 : SizeIs Try.prog 64 1 := sizeIs_of inf_64
theorem sz_65 : SizeIs Try.prog 65 1 := sizeIs_of inf_65
theorem sz_66 : SizeIs Try.prog 66 1 := sizeIs_of inf_66
theorem sz_67 : SizeIs Try.prog 67 1 := sizeIs_of inf_67
theorem sz_68 : SizeIs Try.prog 68 1 := sizeIs_of inf_68
theorem sz_69 : SizeIs Try.prog 69 1 := sizeIs_of inf_69
theorem sz_70 : SizeIs Try.prog 70 1 := sizeIs_of inf_70
theorem sz_71 : SizeIs Try.prog 71 1 := sizeIs_of inf_71
theorem sz_72 : SizeIs Try.prog 72 1 := sizeIs_of inf_72
theorem sz_73 : SizeIs Try.prog 73 1 := sizeIs_of inf_73
theorem sz_74 : SizeIs Try.prog 74 1 := sizeIs_of inf_74
theorem sz_76 : SizeIs Try.prog 76 1 := sizeIs_of inf_76
theorem sz_77 : SizeIs Try.prog 77 1 := sizeIs_of inf_77
theorem sz_78 : SizeIs Try.prog 78 1 := sizeIs_of inf_78
theorem sz_79 : SizeIs Try.prog 79 1 := sizeIs_of inf_79
theorem sz_80 : SizeIs Try.prog 80 1 := sizeIs_of inf_80
theorem sz_81 : SizeIs Try.prog 81 1 := sizeIs_of inf_81
theorem sz_82 : SizeIs Try.prog 82 1 := sizeIs_of inf_82
theorem sz_83 : SizeIs Try.prog 83 1 := sizeIs_of inf_83
theorem sz_84 : SizeIs Try.prog 84 1 := sizeIs_of inf_84
theorem sz_85 : SizeIs Try.prog 85 1 := sizeIs_of inf_85
theorem sz_86 : SizeIs Try.prog 86 1 := sizeIs_of inf_86
theorem sz_88 : SizeIs Try.prog 88 1 := sizeIs_of inf_88
theorem sz_89 : SizeIs Try.prog 89 1 := sizeIs_of inf_89
theorem sz_90 : SizeIs Try.prog 90 1 := sizeIs_of inf_90
theorem sz_91 : SizeIs Try.prog 91 1 := sizeIs_of inf_91
theorem sz_92 : SizeIs Try.prog 92 1 := sizeIs_of inf_92
theorem sz_93 : SizeIs Try.prog 93 1 := sizeIs_of inf_93
theorem sz_94 : SizeIs Try.prog 94 1 := sizeIs_of inf_94
theorem sz_95 : SizeIs Try.prog 95 1 := sizeIs_of inf_95
theorem sz_96 : SizeIs Try.prog 96 1 := sizeIs_of inf_96
theorem sz_97 : SizeIs Try.prog 97 1 := sizeIs_of inf_97
theorem sz_98 : SizeIs Try.prog 98 1 := sizeIs_of inf_98
theorem sz_99 : SizeIs Try.prog 99 1 := sizeIs_of inf_99
theorem sz_100 : SizeIs Try.prog 100 1 := sizeIs_of inf_100
theorem sz_101 : SizeIs Try.prog 101 1 := sizeIs_of inf_101
theorem sz_102 : SizeIs Try.prog 102 1 := sizeIs_of inf_102
theorem sz_103 : SizeIs Try.prog 103 1 := sizeIs_of inf_103
theorem sz_104 : SizeIs Try.prog 104 1 := sizeIs_of inf_104
theorem sz_105 : SizeIs Try.prog 105 1 := sizeIs_of inf_105
theorem sz_106 : SizeIs Try.prog 106 1 := sizeIs_of inf_106
theorem sz_107 : SizeIs Try.prog 107 1 := sizeIs_of inf_107
theorem sz_108 : SizeIs Try.prog 108 1 := sizeIs_of inf_108
theorem sz_109 : SizeIs Try.prog 109 1 := sizeIs_of inf_109
theorem sz_111 : SizeIs Try.prog 111 1 := sizeIs_of inf_111
theorem sz_112 : SizeIs Try.prog 112 1 := sizeIs_of inf_112
theorem sz_113 : SizeIs Try.prog 113 1 := sizeIs_of inf_113
theorem sz_114 : SizeIs Try.prog 114 1 := sizeIs_of inf_114
theorem sz_115 : SizeIs Try.prog 115 1 := sizeIs_of inf_115
theorem sz_116 : SizeIs Try.prog 116 4 := sizeIs_of inf_116
theorem sz_117 : SizeIs Try.prog 117 4 := sizeIs_of inf_117
theorem sz_118 : SizeIs Try.prog 118 0 := sizeIs_of inf_118
theorem sz_119 : SizeIs Try.prog 119 0 := sizeIs_of inf_119
theorem sz_120 : SizeIs Try.prog 120 0 := sizeIs_of inf_120
theorem sz_121 : SizeIs Try.prog 121 1 := sizeIs_of inf_121
theorem sz_122 : SizeIs Try.prog 122 1 := sizeIs_of inf_122
theorem sz_123 : SizeIs Try.prog 123 1 := sizeIs_of inf_123
theorem sz_124 : SizeIs Try.prog 124 1 := sizeIs_of inf_124
theorem sz_125 : SizeIs Try.prog 125 1 := sizeIs_of inf_125
theorem sz_126 : SizeIs Try.prog 126 1 := sizeIs_of inf_126
theorem sz_127 : SizeIs Try.prog 127 11 := sizeIs_of inf_127
theorem sz_128 : SizeIs Try.prog 128 11 := sizeIs_of inf_128
theorem sz_129 : SizeIs Try.prog 129 1 := sizeIs_of inf_129
theorem tok_1 : TOk1 Try.prog 1 ⟨1, false, 8, [], Value.nilFunc, [0], .other⟩ := ⟨⟨Try.t1, inf_1, rfl, rfl, rfl⟩, ⟨_, Try.underlying1, rfl, trivial⟩, rfl, rfl, fun h => absurd h (by decide)⟩
theorem tok_2 : TOk1 Try.prog 2 ⟨1, false, 8, [], Value.int IntKind.i64 0, [0], .int .i64⟩ := ⟨⟨Try.t2, inf_2, rfl, rfl, rfl⟩, ⟨_, Try.underlying2, rfl, rfl⟩, rfl, rfl, fun h => absurd h (by decide)⟩
theorem tok_3 : TOk1 Try.prog 3 ⟨1, false, 8, [], Value.int IntKind.i64 0, [0], .int .i64⟩ := ⟨⟨Try.t3, inf_3, rfl, rfl, rfl⟩, ⟨_, Try.underlying3, rfl, rfl⟩, rfl, rfl, fun h => absurd h (by decide)⟩
theorem tok_4 : TOk1 Try.prog 4 ⟨1, false, 1, [], Value.bool false, [0], .bool⟩ := ⟨⟨Try.t4, inf_4, rfl, rfl, rfl⟩, ⟨_, Try.underlying4, rfl, rfl⟩, rfl, rfl, fun h => absurd h (by decide)⟩
theorem tok_5 : TOk1 Try.prog 5 ⟨1, false, 1, [], Value.int IntKind.u8 0, [0], .int .u8⟩ := ⟨⟨Try.t5, inf_5, rfl, rfl, rfl⟩, ⟨_, Try.underlying5, rfl, rfl⟩, rfl, rfl, fun h => absurd h (by decide)⟩
theorem tok_6 : TOk1 Try.prog 6 ⟨1, false, 1, [], Value.int IntKind.u8 0, [0], .int .u8⟩ := ⟨⟨Try.t6, inf_6, rfl, rfl, rfl⟩, ⟨_, Try.underlying6, rfl, rfl⟩, rfl, rfl, fun h => absurd h (by decide)⟩
theorem tok_7 : TOk1 Try.prog 7 ⟨4, true, 24, [], Value.agg #[Value.int IntKind.i64 0, Value.int IntKind.i64 0, Value.bool false, Value.int IntKind.u8 0], [0, 0, 0, 0], .struct [(0, 2, 1), (1, 3, 1), (2, 4, 1), (3, 6, 1)]⟩ := ⟨⟨Try.t7, inf_7, rfl, rfl, rfl⟩, ⟨_, Try.underlying7, rfl, ⟨_, rfl, rfl, List.forall_mem_cons.2 ⟨sz_2, List.forall_mem_cons.2 ⟨sz_3, List.forall_mem_cons.2 ⟨sz_4, List.forall_mem_cons.2 ⟨sz_6, fun _ h => by cases h⟩⟩⟩⟩⟩⟩, rfl, rfl, fun h => absurd h (by decide)⟩
theorem tok_8 : TOk1 Try.prog 8 ⟨4, true, 24, [], Value.agg #[Value.int IntKind.i64 0, Value.int IntKind.i64 0, Value.bool false, Value.int IntKind.u8 0], [0, 0, 0, 0], .struct [(0, 2, 1), (1, 3, 1), (2, 4, 1), (3, 6, 1)]⟩ := ⟨⟨Try.t8, inf_8, rfl, rfl, rfl⟩, ⟨_, Try.underlying8, rfl, ⟨_, rfl, rfl, List.forall_mem_cons.2 ⟨sz_2, List.forall_mem_cons.2 ⟨sz_3, List.forall_mem_cons.2 ⟨sz_4, List.forall_mem_cons.2 ⟨sz_6, fun _ h => by cases h⟩⟩⟩⟩⟩⟩, rfl, rfl, fun h => absurd h (by decide)⟩
theorem tok_9 : TOk1 Try.prog 9 ⟨1, false, 16, [], Value.string { data := #[] }, [0], .str⟩ := ⟨⟨Try.t9, inf_9, rfl, rfl, rfl⟩, ⟨_, Try.underlying9, rfl, rfl⟩, rfl, rfl, fun h => absurd h (by decide)⟩
theorem tok_10 : TOk1 Try.prog 10 ⟨1, false, 16, [], Value.string { data := #[] }, [0], .str⟩ := ⟨⟨Try.t10, inf_10, rfl, rfl, rfl⟩, ⟨_, Try.underlying10, rfl, rfl⟩, rfl, rfl, fun h => absurd h (by decide)⟩
theorem tok_11 : TOk1 Try.prog 11 ⟨1, false, 16, [], Value.string { data := #[] }, [0], .str⟩ := ⟨⟨Try.t11, inf_11, rfl, rfl, rfl⟩, ⟨_, Try.underlying11, rfl, rfl⟩, rfl, rfl, fun h => absurd h (by decide)⟩
theorem tok_12 : TOk1 Try.prog 12 ⟨1, false, 8, [], Value.int IntKind.u64 0, [0], .int .u64⟩ := ⟨⟨Try.t12, inf_12, rfl, rfl, rfl⟩, ⟨_, Try.underlying12, rfl, rfl⟩, rfl, rfl, fun h => absurd h (by decide)⟩
theorem tok_13 : TOk1 Try.prog 13 ⟨2, true, 24, [], Value.agg #[Value.string { data := #[] }, Value.int IntKind.u64 0], [0, 0], .struct [(0, 9, 1), (1, 12, 1)]⟩ := ⟨⟨Try.t13, inf_13, rfl, rfl, rfl⟩, ⟨_, Try.underlying13, rfl, ⟨_, rfl, rfl, List.forall_mem_cons.2 ⟨sz_9, List.forall_mem_cons.2 ⟨sz_12, fun _ h => by cases h⟩⟩⟩⟩, rfl, rfl, fun h => absurd h (by decide)⟩
theorem tok_14 : TOk1 Try.prog 14 ⟨2, true, 24, [], Value.agg #[Value.string { data := #[] }, Value.int IntKind.u64 0], [0, 0], .struct [(0, 9, 1), (1, 12, 1)]⟩ := ⟨⟨Try.t14, inf_14, rfl, rfl, rfl⟩, ⟨_, Try.underlying14, rfl, ⟨_, rfl, rfl, List.forall_mem_cons.2 ⟨sz_9, List.forall_mem_cons.2 ⟨sz_12, fun _ h => by cases h⟩⟩⟩⟩, rfl, rfl, fun h => absurd h (by decide)⟩
theorem tok_15 : TOk1 Try.prog 15 ⟨1, false, 8, [], Value.pointer none, [0], .ptr⟩ := ⟨⟨Try.t15, inf_15, rfl, rfl, rfl⟩, ⟨_, Try.underlying15, rfl, ⟨_, rfl⟩⟩, rfl, rfl, fun h => absurd h (by decide)⟩
theorem tok_16 : TOk1 Try.prog 16 ⟨1, false, 8, [], Value.pointer none, [0], .ptr⟩ := ⟨⟨Try.t16, inf_16, rfl, rfl, rfl⟩, ⟨_, Try.underlying16, rfl, ⟨_, rfl⟩⟩, rfl, rfl, fun h => absurd h (by decide)⟩
theorem tok_17 : TOk1 Try.prog 17 ⟨1, false, 8, [], Value.pointer none, [0], .ptr⟩ := ⟨⟨Try.t17, inf_17, rfl, rfl, rfl⟩, ⟨_, Try.underlying17, rfl, ⟨_, rfl⟩⟩, rfl, rfl, fun h => absurd h (by decide)⟩
theorem tok_18 : TOk1 Try.prog 18 ⟨1, true, 8, [], Value.agg #[Value.pointer none], [0], .struct [(0, 17, 1)]⟩ := ⟨⟨Try.t18, inf_18, rfl, rfl, rfl⟩, ⟨_, Try.underlying18, rfl, ⟨_, rfl, rfl, List.forall_mem_cons.2 ⟨sz_17, fun _ h => by cases h⟩⟩⟩, rfl, rfl, fun h => absurd h (by decide)⟩
theorem tok_19 : TOk1 Try.prog 19 ⟨1, true, 8, [], Value.agg #[Value.pointer none], [0], .struct [(0, 17, 1)]⟩ := ⟨⟨Try.t19, inf_19, rfl, rfl, rfl⟩, ⟨_, Try.underlying19, rfl, ⟨_, rfl, rfl, List.forall_mem_cons.2 ⟨sz_17, fun _ h => by cases h⟩⟩⟩, rfl, rfl, fun h => absurd h (by decide)⟩
theorem tok_20 : TOk1 Try.prog 20 ⟨1, false, 16, [], Value.nilIface, [0], .other⟩ := ⟨⟨Try.t20, inf_20, rfl, rfl, rfl⟩, ⟨_, Try.underlying20, rfl, trivial⟩, rfl, rfl, fun h => absurd h (by decide)⟩
theorem tok_21 : TOk1 Try.prog 21 ⟨1, false, 4, [], Value.int IntKind.i32 0, [0], .int .i32⟩ := ⟨⟨Try.t21, inf_21, rfl, rfl, rfl⟩, ⟨_, Try.underlying21, rfl, rfl⟩, rfl, rfl, fun h => absurd h (by decide)⟩
theorem tok_22 : TOk1 Try.prog 22 ⟨1, false, 24, [], Value.slice none 0 0, [2], .slice 25 2⟩ := ⟨⟨Try.t22, inf_22, rfl, rfl, rfl⟩, ⟨_, Try.underlying22, rfl, ⟨rfl, sz_25⟩⟩, rfl, rfl, fun h => absurd h (by decide)⟩
theorem tok_23 : TOk1 Try.prog 23 ⟨1, false, 24, [], Value.slice none 0 0, [1], .slice 3 1⟩ := ⟨⟨Try.t23, inf_23, rfl, rfl, rfl⟩, ⟨_, Try.underlying23, rfl, ⟨rfl, sz_3⟩⟩, rfl, rfl, fun h => absurd h (by decide)⟩
theorem tok_24 : TOk1 Try.prog 24 ⟨2, true, 32, [], Value.agg #[Value.int IntKind.i64 0, Value.slice none 0 0], [0, 1], .struct [(0, 3, 1), (1, 23, 1)]⟩ := ⟨⟨Try.t24, inf_24, rfl, rfl, rfl⟩, ⟨_, Try.underlying24, rfl, ⟨_, rfl, rfl, List.forall_mem_cons.2 ⟨sz_3, List.forall_mem_cons.2 ⟨sz_23, fun _ h => by cases h⟩⟩⟩⟩, rfl, rfl, fun h => absurd h (by decide)⟩
theorem tok_25 : TOk1 Try.prog 25 ⟨2, true, 32, [], Value.agg #[Value.int IntKind.i64 0, Value.slice none 0 0], [0, 1], .struct [(0, 3, 1), (1, 23, 1)]⟩ := ⟨⟨Try.t25, inf_25, rfl, rfl, rfl⟩, ⟨_, Try.underlying25, rfl, ⟨_, rfl, rfl, List.forall_mem_cons.2 ⟨sz_3, List.forall_mem_cons.2 ⟨sz_23, fun _ h => by cases h⟩⟩⟩⟩, rfl, rfl, fun h => absurd h (by decide)⟩
theorem tok_26 : TOk1 Try.prog 26 ⟨1, false, 8, [], Value.nilFunc, [0], .other⟩ := ⟨⟨Try.t26, inf_26, rfl, rfl, rfl⟩, ⟨_, Try.underlying26, rfl, trivial⟩, rfl, rfl, fun h => absurd h (by decide)⟩
theorem tok_27 : TOk1 Try.prog 27 ⟨1, false, 8, [], Value.nilFunc, [0], .other⟩ := ⟨⟨Try.t27, inf_27, rfl, rfl, rfl⟩, ⟨_, Try.underlying27, rfl, trivial⟩, rfl, rfl, fun h => absurd h (by decide)⟩
theorem tok_28 : TOk1 Try.prog 28 ⟨1, false, 8, [], Value.pointer none, [0], .ptr⟩ := ⟨⟨Try.t28, inf_28, rfl, rfl, rfl⟩, ⟨_, Try.underlying28, rfl, ⟨_, rfl⟩⟩, rfl, rfl, fun h => absurd h (by decide)⟩
theorem tok_29 : TOk1 Try.prog 29 ⟨1, false, 8, [], Value.nilFunc, [0], .other⟩ := ⟨⟨Try.t29, inf_29, rfl, rfl, rfl⟩, ⟨_, Try.underlying29, rfl, trivial⟩, rfl, rfl, fun h => absurd h (by decide)⟩
theorem tok_30 : TOk1 Try.prog 30 ⟨1, false, 8, [], Value.nilFunc, [0], .other⟩ := ⟨⟨Try.t30, inf_30, rfl, rfl, rfl⟩, ⟨_, Try.underlying30, rfl, trivial⟩, rfl, rfl, fun h => absurd h (by decide)⟩
theorem tok_31 : TOk1 Try.prog 31 ⟨1, false, 8, [], Value.nilFunc, [0], .other⟩ := ⟨⟨Try.t31, inf_31, rfl, rfl, rfl⟩, ⟨_, Try.underlying31, rfl, trivial⟩, rfl, rfl, fun h => absurd h (by decide)⟩
theorem tok_32 : TOk1 Try.prog 32 ⟨1, false, 8, [], Value.nilFunc, [0], .other⟩ := ⟨⟨Try.t32, inf_32, rfl, rfl, rfl⟩, ⟨_, Try.underlying32, rfl, trivial⟩, rfl, rfl, fun h => absurd h (by decide)⟩
theorem tok_33 : TOk1 Try.prog 33 ⟨1, false, 8, [], Value.nilFunc, [0], .other⟩ := ⟨⟨Try.t33, inf_33, rfl, rfl, rfl⟩, ⟨_, Try.underlying33, rfl, trivial⟩, rfl, rfl, fun h => absurd h (by decide)⟩
theorem tok_34 : TOk1 Try.prog 34 ⟨1, false, 8, [], Value.int IntKind.i64 0, [0], .int .i64⟩ := ⟨⟨Try.t34, inf_34, rfl, rfl, rfl⟩, ⟨_, Try.underlying34, rfl, rfl⟩, rfl, rfl, fun h => absurd h (by decide)⟩
theorem tok_35 : TOk1 Try.prog 35 ⟨1, false, 8, [], Value.nilFunc, [0], .other⟩ := ⟨⟨Try.t35, inf_35, rfl, rfl, rfl⟩, ⟨_, Try.underlying35, rfl, trivial⟩, rfl, rfl, fun h => absurd h (by decide)⟩
theorem tok_36 : TOk1 Try.prog 36 ⟨1, false, 8, [], Value.nilFunc, [0], .other⟩ := ⟨⟨Try.t36, inf_36, rfl, rfl, rfl⟩, ⟨_, Try.underlying36, rfl, trivial⟩, rfl, rfl, fun h => absurd h (by decide)⟩
theorem tok_37 : TOk1 Try.prog 37 ⟨1, false, 8, [], Value.nilFunc, [0], .other⟩ := ⟨⟨Try.t37, inf_37, rfl, rfl, rfl⟩, ⟨_, Try.underlying37, rfl, trivial⟩, rfl, rfl, fun h => absurd h (by decide)⟩
theorem tok_38 : TOk1 Try.prog 38 ⟨1, false, 8, [], Value.nilFunc, [0], .other⟩ := ⟨⟨Try.t38, inf_38, rfl, rfl, rfl⟩, ⟨_, Try.underlying38, rfl, trivial⟩, rfl, rfl, fun h => absurd h (by decide)⟩
theorem tok_39 : TOk1 Try.prog 39 ⟨1, false, 8, [], Value.nilFunc, [0], .other⟩ := ⟨⟨Try.t39, inf_39, rfl, rfl, rfl⟩, ⟨_, Try.underlying39, rfl, trivial⟩, rfl, rfl, fun h => absurd h (by decide)⟩
theorem tok_40 : TOk1 Try.prog 40 ⟨1, false, 8, [], Value.nilFunc, [0], .other⟩ := ⟨⟨Try.t40, inf_40, rfl, rfl, rfl⟩, ⟨_, Try.underlying40, rfl, trivial⟩, rfl, rfl, fun h => absurd h (by decide)⟩
theorem tok_41 : TOk1 Try.prog 41 ⟨1, false, 8, [], Value.nilFunc, [0], .other⟩ := ⟨⟨Try.t41, inf_41, rfl, rfl, rfl⟩, ⟨_, Try.underlying41, rfl, trivial⟩, rfl, rfl, fun h => absurd h (by decide)⟩
theorem tok_42 : TOk1 Try.prog 42 ⟨1, false, 8, [], Value.nilFunc, [0], .other⟩ := ⟨⟨Try.t42, inf_42, rfl, rfl, rfl⟩, ⟨_, Try.underlying42, rfl, trivial⟩, rfl, rfl, fun h => absurd h (by decide)⟩
theorem tok_43 : TOk1 Try.prog 43 ⟨1, false, 8, [], Value.nilFunc, [0], .other⟩ := ⟨⟨Try.t43, inf_43, rfl, rfl, rfl⟩, ⟨_, Try.underlying43, rfl, trivial⟩, rfl, rfl, fun h => absurd h (by decide)⟩
theorem tok_44 : TOk1 Try.prog 44 ⟨1, false, 8, [], Value.nilFunc, [0], .other⟩ := ⟨⟨Try.t44, inf_44, rfl, rfl, rfl⟩, ⟨_, Try.underlying44, rfl, trivial⟩, rfl, rfl, fun h => absurd h (by decide)⟩
theorem tok_45 : TOk1 Try.prog 45 ⟨1, false, 8, [], Value.nilFunc, [0], .other⟩ := ⟨⟨Try.t45, inf_45, rfl, rfl, rfl⟩, ⟨_, Try.underlying45, rfl, trivial⟩, rfl, rfl, fun h => absurd h (by decide)⟩
theorem tok_46 : TOk1 Try.prog 46 ⟨1, false, 8, [], Value.nilFunc, [0], .other⟩ := ⟨⟨Try.t46, inf_46, rfl, rfl, rfl⟩, ⟨_, Try.underlying46, rfl, trivial⟩, rfl, rfl, fun h => absurd h (by decide)⟩
theorem tok_47 : TOk1 Try.prog 47 ⟨1, false, 8, [], Value.nilFunc, [0], .other⟩ := ⟨⟨Try.t47, inf_47, rfl, rfl, rfl⟩, ⟨_, Try.underlying47, rfl, trivial⟩, rfl, rfl, fun h => absurd h (by decide)⟩
theorem tok_48 : TOk1 Try.prog 48 ⟨1, false, 8, [], Value.nilFunc, [0], .other⟩ := ⟨⟨Try.t48, inf_48, rfl, rfl, rfl⟩, ⟨_, Try.underlying48, rfl, trivial⟩, rfl, rfl, fun h => absurd h (by decide)⟩
theorem tok_49 : TOk1 Try.prog 49 ⟨1, false, 8, [], Value.pointer none, [0], .ptr⟩ := ⟨⟨Try.t49, inf_49, rfl, rfl, rfl⟩, ⟨_, Try.underlying49, rfl, ⟨_, rfl⟩⟩, rfl, rfl, fun h => absurd h (by decide)⟩
theorem tok_50 : TOk1 Try.prog 50 ⟨1, true, 24, [], Value.agg #[Value.slice none 0 0], [2], .struct [(0, 22, 1)]⟩ := ⟨⟨Try.t50, inf_50, rfl, rfl, rfl⟩, ⟨_, Try.underlying50, rfl, ⟨_, rfl, rfl, List.forall_mem_cons.2 ⟨sz_22, fun _ h => by cases h⟩⟩⟩, rfl, rfl, fun h => absurd h (by decide)⟩
theorem tok_51 : TOk1 Try.prog 51 ⟨1, true, 24, [], Value.agg #[Value.slice none 0 0], [2], .struct [(0, 22, 1)]⟩ := ⟨⟨Try.t51, inf_51, rfl, rfl, rfl⟩, ⟨_, Try.underlying51, rfl, ⟨_, rfl, rfl, List.forall_mem_cons.2 ⟨sz_22, fun _ h => by cases h⟩⟩⟩, rfl, rfl, fun h => absurd h (by decide)⟩
theorem tok_52 : TOk1 Try.prog 52 ⟨1, false, 8, [], Value.nilFunc, [0], .other⟩ := ⟨⟨Try.t52, inf_52, rfl, rfl, rfl⟩, ⟨_, Try.underlying52, rfl, trivial⟩, rfl, rfl, fun h => absurd h (by decide)⟩
theorem tok_53 : TOk1 Try.prog 53 ⟨1, false, 8, [], Value.nilFunc, [0], .other⟩ := ⟨⟨Try.t53, inf_53, rfl, rfl, rfl⟩, ⟨_, Try.underlying53, rfl, trivial⟩, rfl, rfl, fun h => absurd h (by decide)⟩
theorem tok_54 : TOk1 Try.prog 54 ⟨1, false, 8, [], Value.nilFunc, [0], .other⟩ := ⟨⟨Try.t54, inf_54, rfl, rfl, rfl⟩, ⟨_, Try.underlying54, rfl, trivial⟩, rfl, rfl, fun h => absurd h (by decide)⟩
theorem tok_55 : TOk1 Try.prog 55 ⟨1, false, 8, [], Value.nilFunc, [0], .other⟩ := ⟨⟨Try.t55, inf_55, rfl, rfl, rfl⟩, ⟨_, Try.underlying55, rfl, trivial⟩, rfl, rfl, fun h => absurd h (by decide)⟩
theorem tok_56 : TOk1 Try.prog 56 ⟨1, false, 8, [], Value.nilFunc, [0], .other⟩ := ⟨⟨Try.t56, inf_56, rfl, rfl, rfl⟩, ⟨_, Try.underlying56, rfl, trivial⟩, rfl, rfl, fun h => absurd h (by decide)⟩
theorem tok_57 : TOk1 Try.prog 57 ⟨1, false, 8, [], Value.map none, [0], .map 3 60⟩ := ⟨⟨Try.t57, inf_57, rfl, rfl, rfl⟩, ⟨_, Try.underlying57, rfl, rfl⟩, rfl, rfl, fun h => absurd h (by decide)⟩
theorem tok_58 : TOk1 Try.prog 58 ⟨1, false, 8, [], Value.nilFunc, [0], .other⟩ := ⟨⟨Try.t58, inf_58, rfl, rfl, rfl⟩, ⟨_, Try.underlying58, rfl, trivial⟩, rfl, rfl, fun h => absurd h (by decide)⟩
theorem tok_59 : TOk1 Try.prog 59 ⟨2, true, 32, [], Value.agg #[Value.slice none 0 0, Value.int IntKind.i64 0], [1, 0], .struct [(0, 23, 1), (1, 3, 1)]⟩ := ⟨⟨Try.t59, inf_59, rfl, rfl, rfl⟩, ⟨_, Try.underlying59, rfl, ⟨_, rfl, rfl, List.forall_mem_cons.2 ⟨sz_23, List.forall_mem_cons.2 ⟨sz_3, fun _ h => by cases h⟩⟩⟩⟩, rfl, rfl, fun h => absurd h (by decide)⟩
theorem tok_60 : TOk1 Try.prog 60 ⟨2, true, 32, [], Value.agg #[Value.slice none 0 0, Value.int IntKind.i64 0], [1, 0], .struct [(0, 23, 1), (1, 3, 1)]⟩ := ⟨⟨Try.t60, inf_60, rfl, rfl, rfl⟩, ⟨_, Try.underlying60, rfl, ⟨_, rfl, rfl, List.forall_mem_cons.2 ⟨sz_23, List.forall_mem_cons.2 ⟨sz_3, fun _ h => by cases h⟩⟩⟩⟩, rfl, rfl, fun h => absurd h (by decide)⟩
theorem tok_61 : TOk1 Try.prog 61 ⟨1, true, 8, [], Value.agg #[Value.map none], [0], .struct [(0, 57, 1)]⟩ := ⟨⟨Try.t61, inf_61, rfl, rfl, rfl⟩, ⟨_, Try.underlying61, rfl, ⟨_, rfl, rfl, List.forall_mem_cons.2 ⟨sz_57, fun _ h => by cases h⟩⟩⟩, rfl, rfl, fun h => absurd h (by decide)⟩
theorem tok_62 : TOk1 Try.prog 62 ⟨1, true, 8, [], Value.agg #[Value.map none], [0], .struct [(0, 57, 1)]⟩ := ⟨⟨Try.t62, inf_62, rfl, rfl, rfl⟩, ⟨_, Try.underlying62, rfl, ⟨_, rfl, rfl, List.forall_mem_cons.2 ⟨sz_57, fun _ h => by cases h⟩⟩⟩, rfl, rfl, fun h => absurd h (by decide)⟩
theorem tok_64 : TOk1 Try.prog 64 ⟨1, false, 8, [], Value.nilFunc, [0], .other⟩ := ⟨⟨Try.t64, inf_64, rfl, rfl, rfl⟩, ⟨_, Try.underlying64, rfl, trivial⟩, rfl, rfl, fun h => absurd h (by decide)⟩
theorem tok_65 : TOk1 Try.prog 65 ⟨1, false, 8, [], Value.nilFunc, [0], .other⟩ := ⟨⟨Try.t65, inf_65, rfl, rfl, rfl⟩, ⟨_, Try.underlying65, rfl, trivial⟩, rfl, rfl, fun h => absurd h (by decide)⟩
theorem tok_66 : TOk1 Try.prog 66 ⟨1, false, 8, [], Value.nilFunc, [0], .other⟩ := ⟨⟨Try.t66, inf_66, rfl, rfl, rfl⟩, ⟨_, Try.underlying66, rfl, trivial⟩, rfl, rfl, fun h => absurd h (by decide)⟩
theorem tok_67 : TOk1 Try.prog 67 ⟨1, false, 8, [], Value.nilFunc, [0], .other⟩ := ⟨⟨Try.t67, inf_67, rfl, rfl, rfl⟩, ⟨_, Try.underlying67, rfl, trivial⟩, rfl, rfl, fun h => absurd h (by decide)⟩
theorem tok_68 : TOk1 Try.prog 68 ⟨1, false, 8, [], Value.nilFunc, [0], .other⟩ := ⟨⟨Try.t68, inf_68, rfl, rfl, rfl⟩, ⟨_, Try.underlying68, rfl, trivial⟩, rfl, rfl, fun h => absurd h (by decide)⟩
theorem tok_69 : TOk1 Try.prog 69 ⟨1, false, 8, [], Value.nilFunc, [0], .other⟩ := ⟨⟨Try.t69, inf_69, rfl, rfl, rfl⟩, ⟨_, Try.underlying69, rfl, trivial⟩, rfl, rfl, fun h => absurd h (by decide)⟩
theorem tok_70 : TOk1 Try.prog 70 ⟨1, false, 8, [], Value.map none, [0], .map 3 4⟩ := ⟨⟨Try.t70, inf_70, rfl, rfl, rfl⟩, ⟨_, Try.underlying70, rfl, rfl⟩, rfl, rfl, fun h => absurd h (by decide)⟩
theorem tok_71 : TOk1 Try.prog 71 ⟨1, false, 8, [], Value.nilFunc, [0], .other⟩ := ⟨⟨Try.t71, inf_71, rfl, rfl, rfl⟩, ⟨_, Try.underlying71, rfl, trivial⟩, rfl, rfl, fun h => absurd h (by decide)⟩
theorem tok_72 : TOk1 Try.prog 72 ⟨1, false, 8, [], Value.nilFunc, [0], .other⟩ := ⟨⟨Try.t72, inf_72, rfl, rfl, rfl⟩, ⟨_, Try.underlying72, rfl, trivial⟩, rfl, rfl, fun h => absurd h (by decide)⟩
theorem tok_73 : TOk1 Try.prog 73 ⟨1, false, 8, [], Value.nilFunc, [0], .other⟩ := ⟨⟨Try.t73, inf_73, rfl, rfl, rfl⟩, ⟨_, Try.underlying73, rfl, trivial⟩, rfl, rfl, fun h => absurd h (by decide)⟩
theorem tok_74 : TOk1 Try.prog 74 ⟨1, false, 8, [], Value.nilFunc, [0], .other⟩ := ⟨⟨Try.t74, inf_74, rfl, rfl, rfl⟩, ⟨_, Try.underlying74, rfl, trivial⟩, rfl, rfl, fun h => absurd h (by decide)⟩
theorem tok_76 : TOk1 Try.prog 76 ⟨1, false, 8, [], Value.nilFunc, [0], .other⟩ := ⟨⟨Try.t76, inf_76, rfl, rfl, rfl⟩, ⟨_, Try.underlying76, rfl, trivial⟩, rfl, rfl, fun h => absurd h (by decide)⟩
theorem tok_77 : TOk1 Try.prog 77 ⟨1, false, 8, [], Value.nilFunc, [0], .other⟩ := ⟨⟨Try.t77, inf_77, rfl, rfl, rfl⟩, ⟨_, Try.underlying77, rfl, trivial⟩, rfl, rfl, fun h => absurd h (by decide)⟩
theorem tok_78 : TOk1 Try.prog 78 ⟨1, false, 24, [], Value.slice none 0 0, [1], .slice 4 1⟩ := ⟨⟨Try.t78, inf_78, rfl, rfl, rfl⟩, ⟨_, Try.underlying78, rfl, ⟨rfl, sz_4⟩⟩, rfl, rfl, fun h => absurd h (by decide)⟩
theorem tok_79 : TOk1 Try.prog 79 ⟨1, false, 8, [], Value.nilFunc, [0], .other⟩ := ⟨⟨Try.t79, inf_79, rfl, rfl, rfl⟩, ⟨_, Try.underlying79, rfl, trivial⟩, rfl, rfl, fun h => absurd h (by decide)⟩
theorem tok_80 : TOk1 Try.prog 80 ⟨1, false, 8, [], Value.nilFunc, [0], .other⟩ := ⟨⟨Try.t80, inf_80, rfl, rfl, rfl⟩, ⟨_, Try.underlying80, rfl, trivial⟩, rfl, rfl, fun h => absurd h (by decide)⟩
theorem tok_81 : TOk1 Try.prog 81 ⟨1, false, 8, [], Value.nilFunc, [0], .other⟩ := ⟨⟨Try.t81, inf_81, rfl, rfl, rfl⟩, ⟨_, Try.underlying81, rfl, trivial⟩, rfl, rfl, fun h => absurd h (by decide)⟩
theorem tok_82 : TOk1 Try.prog 82 ⟨1, false, 8, [], Value.nilFunc, [0], .other⟩ := ⟨⟨Try.t82, inf_82, rfl, rfl, rfl⟩, ⟨_, Try.underlying82, rfl, trivial⟩, rfl, rfl, fun h => absurd h (by decide)⟩
theorem tok_83 : TOk1 Try.prog 83 ⟨1, false, 8, [], Value.int IntKind.u64 0, [0], .int .u64⟩ := ⟨⟨Try.t83, inf_83, rfl, rfl, rfl⟩, ⟨_, Try.underlying83, rfl, rfl⟩, rfl, rfl, fun h => absurd h (by decide)⟩
theorem tok_84 : TOk1 Try.prog 84 ⟨1, false, 8, [], Value.nilFunc, [0], .other⟩ := ⟨⟨Try.t84, inf_84, rfl, rfl, rfl⟩, ⟨_, Try.underlying84, rfl, trivial⟩, rfl, rfl, fun h => absurd h (by decide)⟩
theorem tok_85 : TOk1 Try.prog 85 ⟨1, false, 8, [], Value.nilFunc, [0], .other⟩ := ⟨⟨Try.t85, inf_85, rfl, rfl, rfl⟩, ⟨_, Try.underlying85, rfl, trivial⟩, rfl, rfl, fun h => absurd h (by decide)⟩
theorem tok_86 : TOk1 Try.prog 86 ⟨1, false, 8, [], Value.int IntKind.i64 0, [0], .int .i64⟩ := ⟨⟨Try.t86, inf_86, rfl, rfl, rfl⟩, ⟨_, Try.underlying86, rfl, rfl⟩, rfl, rfl, fun h => absurd h (by decide)⟩
theorem tok_88 : TOk1 Try.prog 88 ⟨1, false, 8, [], Value.nilFunc, [0], .other⟩ := ⟨⟨Try.t88, inf_88, rfl, rfl, rfl⟩, ⟨_, Try.underlying88, rfl, trivial⟩, rfl, rfl, fun h => absurd h (by decide)⟩
theorem tok_89 : TOk1 Try.prog 89 ⟨1, false, 8, [], Value.nilFunc, [0], .other⟩ := ⟨⟨Try.t89, inf_89, rfl, rfl, rfl⟩, ⟨_, Try.underlying89, rfl, trivial⟩, rfl, rfl, fun h => absurd h (by decide)⟩
theorem tok_90 : TOk1 Try.prog 90 ⟨1, false, 8, [], Value.nilFunc, [0], .other⟩ := ⟨⟨Try.t90, inf_90, rfl, rfl, rfl⟩, ⟨_, Try.underlying90, rfl, trivial⟩, rfl, rfl, fun h => absurd h (by decide)⟩
theorem tok_91 : TOk1 Try.prog 91 ⟨1, false, 8, [], Value.nilFunc, [0], .other⟩ := ⟨⟨Try.t91, inf_91, rfl, rfl, rfl⟩, ⟨_, Try.underlying91, rfl, trivial⟩, rfl, rfl, fun h => absurd h (by decide)⟩
theorem tok_92 : TOk1 Try.prog 92 ⟨1, false, 8, [], Value.nilFunc, [0], .other⟩ := ⟨⟨Try.t92, inf_92, rfl, rfl, rfl⟩, ⟨_, Try.underlying92, rfl, trivial⟩, rfl, rfl, fun h => absurd h (by decide)⟩
theorem tok_93 : TOk1 Try.prog 93 ⟨1, false, 4, [], Value.int IntKind.u32 0, [0], .int .u32⟩ := ⟨⟨Try.t93, inf_93, rfl, rfl, rfl⟩, ⟨_, Try.underlying93, rfl, rfl⟩, rfl, rfl, fun h => absurd h (by decide)⟩
theorem tok_94 : TOk1 Try.prog 94 ⟨1, false, 8, [], Value.nilFunc, [0], .other⟩ := ⟨⟨Try.t94, inf_94, rfl, rfl, rfl⟩, ⟨_, Try.underlying94, rfl, trivial⟩, rfl, rfl, fun h => absurd h (by decide)⟩
theorem tok_95 : TOk1 Try.prog 95 ⟨1, false, 8, [], Value.int IntKind.u64 0, [0], .int .u64⟩ := ⟨⟨Try.t95, inf_95, rfl, rfl, rfl⟩, ⟨_, Try.underlying95, rfl, rfl⟩, rfl, rfl, fun h => absurd h (by decide)⟩
theorem tok_96 : TOk1 Try.prog 96 ⟨1, false, 8, [], Value.nilFunc, [0], .other⟩ := ⟨⟨Try.t96, inf_96, rfl, rfl, rfl⟩, ⟨_, Try.underlying96, rfl, trivial⟩, rfl, rfl, fun h => absurd h (by decide)⟩
theorem tok_97 : TOk1 Try.prog 97 ⟨1, false, 8, [], Value.nilFunc, [0], .other⟩ := ⟨⟨Try.t97, inf_97, rfl, rfl, rfl⟩, ⟨_, Try.underlying97, rfl, trivial⟩, rfl, rfl, fun h => absurd h (by decide)⟩
theorem tok_98 : TOk1 Try.prog 98 ⟨1, false, 8, [], Value.int IntKind.u64 0, [0], .int .u64⟩ := ⟨⟨Try.t98, inf_98, rfl, rfl, rfl⟩, ⟨_, Try.underlying98, rfl, rfl⟩, rfl, rfl, fun h => absurd h (by decide)⟩
theorem tok_99 : TOk1 Try.prog 99 ⟨1, false, 8, [], Value.nilFunc, [0], .other⟩ := ⟨⟨Try.t99, inf_99, rfl, rfl, rfl⟩, ⟨_, Try.underlying99, rfl, trivial⟩, rfl, rfl, fun h => absurd h (by decide)⟩
theorem tok_100 : TOk1 Try.prog 100 ⟨1, false, 8, [], Value.nilFunc, [0], .other⟩ := ⟨⟨Try.t100, inf_100, rfl, rfl, rfl⟩, ⟨_, Try.underlying100, rfl, trivial⟩, rfl, rfl, fun h => absurd h (by decide)⟩
theorem tok_101 : TOk1 Try.prog 101 ⟨1, false, 8, [], Value.nilFunc, [0], .other⟩ := ⟨⟨Try.t101, inf_101, rfl, rfl, rfl⟩, ⟨_, Try.underlying101, rfl, trivial⟩, rfl, rfl, fun h => absurd h (by decide)⟩
theorem tok_102 : TOk1 Try.prog 102 ⟨1, false, 8, [], Value.pointer none, [0], .ptr⟩ := ⟨⟨Try.t102, inf_102, rfl, rfl, rfl⟩, ⟨_, Try.underlying102, rfl, ⟨_, rfl⟩⟩, rfl, rfl, fun h => absurd h (by decide)⟩
theorem tok_103 : TOk1 Try.prog 103 ⟨1, false, 8, [], Value.nilFunc, [0], .other⟩ := ⟨⟨Try.t103, inf_103, rfl, rfl, rfl⟩, ⟨_, Try.underlying103, rfl, trivial⟩, rfl, rfl, fun h => absurd h (by decide)⟩
theorem tok_104 : TOk1 Try.prog 104 ⟨1, false, 8, [], Value.nilFunc, [0], .other⟩ := ⟨⟨Try.t104, inf_104, rfl, rfl, rfl⟩, ⟨_, Try.underlying104, rfl, trivial⟩, rfl, rfl, fun h => absurd h (by decide)⟩
theorem tok_105 : TOk1 Try.prog 105 ⟨1, false, 8, [], Value.nilFunc, [0], .other⟩ := ⟨⟨Try.t105, inf_105, rfl, rfl, rfl⟩, ⟨_, Try.underlying105, rfl, trivial⟩, rfl, rfl, fun h => absurd h (by decide)⟩
theorem tok_106 : TOk1 Try.prog 106 ⟨1, false, 8, [], Value.nilFunc, [0], .other⟩ := ⟨⟨Try.t106, inf_106, rfl, rfl, rfl⟩, ⟨_, Try.underlying106, rfl, trivial⟩, rfl, rfl, fun h => absurd h (by decide)⟩
theorem tok_107 : TOk1 Try.prog 107 ⟨1, false, 8, [], Value.nilFunc, [0], .other⟩ := ⟨⟨Try.t107, inf_107, rfl, rfl, rfl⟩, ⟨_, Try.underlying107, rfl, trivial⟩, rfl, rfl, fun h => absurd h (by decide)⟩
theorem tok_108 : TOk1 Try.prog 108 ⟨1, false, 8, [], Value.nilFunc, [0], .other⟩ := ⟨⟨Try.t108, inf_108, rfl, rfl, rfl⟩, ⟨_, Try.underlying108, rfl, trivial⟩, rfl, rfl, fun h => absurd h (by decide)⟩
theorem tok_109 : TOk1 Try.prog 109 ⟨1, false, 8, [], Value.pointer none, [0], .ptr⟩ := ⟨⟨Try.t109, inf_109, rfl, rfl, rfl⟩, ⟨_, Try.underlying109, rfl, ⟨_, rfl⟩⟩, rfl, rfl, fun h => absurd h (by decide)⟩
theorem tok_111 : TOk1 Try.prog 111 ⟨1, false, 8, [], Value.nilFunc, [0], .other⟩ := ⟨⟨Try.t111, inf_111, rfl, rfl, rfl⟩, ⟨_, Try.underlying111, rfl, trivial⟩, rfl, rfl, fun h => absurd h (by decide)⟩
theorem tok_112 : TOk1 Try.prog 112 ⟨1, false, 8, [], Value.nilFunc, [0], .other⟩ := ⟨⟨Try.t112, inf_112, rfl, rfl, rfl⟩, ⟨_, Try.underlying112, rfl, trivial⟩, rfl, rfl, fun h => absurd h (by decide)⟩
theorem tok_113 : TOk1 Try.prog 113 ⟨1, false, 8, [], Value.nilFunc, [0], .other⟩ := ⟨⟨Try.t113, inf_113, rfl, rfl, rfl⟩, ⟨_, Try.underlying113, rfl, trivial⟩, rfl, rfl, fun h => absurd h (by decide)⟩
theorem tok_114 : TOk1 Try.prog 114 ⟨1, false, 8, [], Value.nilFunc, [0], .other⟩ := ⟨⟨Try.t114, inf_114, rfl, rfl, rfl⟩, ⟨_, Try.underlying114, rfl, trivial⟩, rfl, rfl, fun h => absurd h (by decide)⟩
theorem tok_115 : TOk1 Try.prog 115 ⟨1, false, 8, [], Value.nilFunc, [0], .other⟩ := ⟨⟨Try.t115, inf_115, rfl, rfl, rfl⟩, ⟨_, Try.underlying115, rfl, trivial⟩, rfl, rfl, fun h => absurd h (by decide)⟩
theorem tok_116 : TOk1 Try.prog 116 ⟨4, true, 40, [], Value.agg #[Value.pointer none, Value.pointer none, Value.pointer none, Value.string { data := #[] }], [0, 0, 0, 0], .struct [(0, 17, 1), (1, 17, 1), (2, 17, 1), (3, 9, 1)]⟩ := ⟨⟨Try.t116, inf_116, rfl, rfl, rfl⟩, ⟨_, Try.underlying116, rfl, ⟨_, rfl, rfl, List.forall_mem_cons.2 ⟨sz_17, List.forall_mem_cons.2 ⟨sz_17, List.forall_mem_cons.2 ⟨sz_17, List.forall_mem_cons.2 ⟨sz_9, fun _ h => by cases h⟩⟩⟩⟩⟩⟩, rfl, rfl, fun h => absurd h (by decide)⟩
theorem tok_117 : TOk1 Try.prog 117 ⟨4, true, 40, [], Value.agg #[Value.pointer none, Value.pointer none, Value.pointer none, Value.string { data := #[] }], [0, 0, 0, 0], .struct [(0, 17, 1), (1, 17, 1), (2, 17, 1), (3, 9, 1)]⟩ := ⟨⟨Try.t117, inf_117, rfl, rfl, rfl⟩, ⟨_, Try.underlying117, rfl, ⟨_, rfl, rfl, List.forall_mem_cons.2 ⟨sz_17, List.forall_mem_cons.2 ⟨sz_17, List.forall_mem_cons.2 ⟨sz_17, List.forall_mem_cons.2 ⟨sz_9, fun _ h => by cases h⟩⟩⟩⟩⟩⟩, rfl, rfl, fun h => absurd h (by decide)⟩
theorem tok_118 : TOk1 Try.prog 118 ⟨0, true, 0, [], Value.agg #[], [], .array 0 16 1⟩ := ⟨⟨Try.t118, inf_118, rfl, rfl, rfl⟩, ⟨_, Try.underlying118, rfl, ⟨rfl, sz_16⟩⟩, rfl, rfl, fun h => absurd h (by decide)⟩
theorem tok_119 : TOk1 Try.prog 119 ⟨0, true, 0, [], Value.agg #[], [], .struct [(0, 118, 0)]⟩ := ⟨⟨Try.t119, inf_119, rfl, rfl, rfl⟩, ⟨_, Try.underlying119, rfl, ⟨_, rfl, rfl, List.forall_mem_cons.2 ⟨sz_118, fun _ h => by cases h⟩⟩⟩, rfl, rfl, fun h => absurd h (by decide)⟩
theorem tok_120 : TOk1 Try.prog 120 ⟨0, true, 0, [], Value.agg #[], [], .struct [(0, 118, 0)]⟩ := ⟨⟨Try.t120, inf_120, rfl, rfl, rfl⟩, ⟨_, Try.underlying120, rfl, ⟨_, rfl, rfl, List.forall_mem_cons.2 ⟨sz_118, fun _ h => by cases h⟩⟩⟩, rfl, rfl, fun h => absurd h (by decide)⟩
theorem tok_121 : TOk1 Try.prog 121 ⟨1, false, 1, [], Value.int IntKind.u8 0, [0], .int .u8⟩ := ⟨⟨Try.t121, inf_121, rfl, rfl, rfl⟩, ⟨_, Try.underlying121, rfl, rfl⟩, rfl, rfl, fun h => absurd h (by decide)⟩
theorem tok_122 : TOk1 Try.prog 122 ⟨1, false, 1, [], Value.int IntKind.u8 0, [0], .int .u8⟩ := ⟨⟨Try.t122, inf_122, rfl, rfl, rfl⟩, ⟨_, Try.underlying122, rfl, rfl⟩, rfl, rfl, fun h => absurd h (by decide)⟩
theorem tok_123 : TOk1 Try.prog 123 ⟨1, false, 8, [], Value.nilFunc, [0], .other⟩ := ⟨⟨Try.t123, inf_123, rfl, rfl, rfl⟩, ⟨_, Try.underlying123, rfl, trivial⟩, rfl, rfl, fun h => absurd h (by decide)⟩
theorem tok_124 : TOk1 Try.prog 124 ⟨1, false, 8, [], Value.pointer none, [0], .ptr⟩ := ⟨⟨Try.t124, inf_124, rfl, rfl, rfl⟩, ⟨_, Try.underlying124, rfl, ⟨_, rfl⟩⟩, rfl, rfl, fun h => absurd h (by decide)⟩
theorem tok_125 : TOk1 Try.prog 125 ⟨1, false, 4, [], Value.int IntKind.i32 0, [0], .int .i32⟩ := ⟨⟨Try.t125, inf_125, rfl, rfl, rfl⟩, ⟨_, Try.underlying125, rfl, rfl⟩, rfl, rfl, fun h => absurd h (by decide)⟩
theorem tok_126 : TOk1 Try.prog 126 ⟨1, false, 4, [], Value.int IntKind.i32 0, [0], .int .i32⟩ := ⟨⟨Try.t126, inf_126, rfl, rfl, rfl⟩, ⟨_, Try.underlying126, rfl, rfl⟩, rfl, rfl, fun h => absurd h (by decide)⟩
theorem tok_127 : TOk1 Try.prog 127 ⟨11, true, 48, [], Value.agg #[Value.int IntKind.u64 0, Value.int IntKind.u64 0, Value.int IntKind.u32 0, Value.int IntKind.u8 0, Value.int IntKind.u8 0, Value.int IntKind.u8 0, Value.int IntKind.u8 0, Value.nilFunc, Value.pointer none, Value.int IntKind.i32 0, Value.int IntKind.i32 0], [0, 0, 0, 0, 0, 0, 0, 0, 0, 0, 0], .struct [(0, 12, 1), (1, 12, 1), (2, 93, 1), (3, 121, 1), (4, 5, 1), (5, 5, 1), (6, 122, 1), (7, 123, 1), (8, 124, 1), (9, 125, 1), (10, 126, 1)]⟩ := ⟨⟨Try.t127, inf_127, rfl, rfl, rfl⟩, ⟨_, Try.underlying127, rfl, ⟨_, rfl, rfl, List.forall_mem_cons.2 ⟨sz_12, List.forall_mem_cons.2 ⟨sz_12, List.forall_mem_cons.2 ⟨sz_93, List.forall_mem_cons.2 ⟨sz_121, List.forall_mem_cons.2 ⟨sz_5, List.forall_mem_cons.2 ⟨sz_5, List.forall_mem_cons.2 ⟨sz_122, List.forall_mem_cons.2 ⟨sz_123, List.forall_mem_cons.2 ⟨sz_124, List.forall_mem_cons.2 ⟨sz_125, List.forall_mem_cons.2 ⟨sz_126, fun _ h => by cases h⟩⟩⟩⟩⟩⟩⟩⟩⟩⟩⟩⟩⟩, rfl, rfl, fun h => absurd h (by decide)⟩
theorem tok_128 : TOk1 Try.prog 128 ⟨11, true, 48, [], Value.agg #[Value.int IntKind.u64 0, Value.int IntKind.u64 0, Value.int IntKind.u32 0, Value.int IntKind.u8 0, Value.int IntKind.u8 0, Value.int IntKind.u8 0, Value.int IntKind.u8 0, Value.nilFunc, Value.pointer none, Value.int IntKind.i32 0, Value.int IntKind.i32 0], [0, 0, 0, 0, 0, 0, 0, 0, 0, 0, 0], .struct [(0, 12, 1), (1, 12, 1), (2, 93, 1), (3, 121, 1), (4, 5, 1), (5, 5, 1), (6, 122, 1), (7, 123, 1), (8, 124, 1), (9, 125, 1), (10, 126, 1)]⟩ := ⟨⟨Try.t128, inf_128, rfl, rfl, rfl⟩, ⟨_, Try.underlying128, rfl, ⟨_, rfl, rfl, List.forall_mem_cons.2 ⟨sz_12, List.forall_mem_cons.2 ⟨sz_12, List.forall_mem_cons.2 ⟨sz_93, List.forall_mem_cons.2 ⟨sz_121, List.forall_mem_cons.2 ⟨sz_5, List.forall_mem_cons.2 ⟨sz_5, List.forall_mem_cons.2 ⟨sz_122, List.forall_mem_cons.2 ⟨sz_123, List.forall_mem_cons.2 ⟨sz_124, List.forall_mem_cons.2 ⟨sz_125, List.forall_mem_cons.2 ⟨sz_126, fun _ h => by cases h⟩⟩⟩⟩⟩⟩⟩⟩⟩⟩⟩⟩⟩, rfl, rfl, fun h => absurd h (by decide)⟩
theorem tok_129 : TOk1 Try.prog 129 ⟨1, false, 8, [], Value.pointer none, [0], .other⟩ := ⟨⟨Try.t129, inf_129, rfl, rfl, rfl⟩, ⟨_, Try.underlying129, rfl, trivial⟩, rfl, rfl, fun h => absurd h (by decide)⟩
theorem tok : TOk Try.prog tOf := by
  intro t
  unfold tOf
  split
  · exact fun _ => tok_1
  · exact fun _ => tok_2
  · exact fun _ => tok_3
  · exact fun _ => tok_4
  · exact fun _ => tok_5
  · exact fun _ => tok_6
  · exact fun _ => tok_7
  · exact fun _ => tok_8
  · exact fun _ => tok_9
  · exact fun _ => tok_10
  · exact fun _ => tok_11
  · exact fun _ => tok_12
  · exact fun _ => tok_13
  · exact fun _ => tok_14
  · exact fun _ => tok_15
  · exact fun _ => tok_16
  · exact fun _ => tok_17
  · exact fun _ => tok_18
  · exact fun _ => tok_19
  · exact fun _ => tok_20
  · exact fun _ => tok_21
  · exact fun _ => tok_22
  · exact fun _ => tok_23
  · exact fun _ => tok_24
  · exact fun _ => tok_25
  · exact fun _ => tok_26
  · exact fun _ => tok_27
  · exact fun _ => tok_28
  · exact fun _ => tok_29
  · exact fun _ => tok_30
  · exact fun _ => tok_31
  · exact fun _ => tok_32
  · exact fun _ => tok_33
  · exact fun _ => tok_34
  · exact fun _ => tok_35
  · exact fun _ => tok_36
  · exact fun _ => tok_37
  · exact fun _ => tok_38
  · exact fun _ => tok_39
  · exact fun _ => tok_40
  · exact fun _ => tok_41
  · exact fun _ => tok_42
  · exact fun _ => tok_43
  · exact fun _ => tok_44
  · exact fun _ => tok_45
  · exact fun _ => tok_46
  · exact fun _ => tok_47
  · exact fun _ => tok_48
  · exact fun _ => tok_49
  · exact fun _ => tok_50
  · exact fun _ => tok_51
  · exact fun _ => tok_52
  · exact fun _ => tok_53
  · exact fun _ => tok_54
  · exact fun _ => tok_55
  · exact fun _ => tok_56
  · exact fun _ => tok_57
  · exact fun _ => tok_58
  · exact fun _ => tok_59
  · exact fun _ => tok_60
  · exact fun _ => tok_61
  · exact fun _ => tok_62
  · exact fun _ => tok_64
  · exact fun _ => tok_65
  · exact fun _ => tok_66
  · exact fun _ => tok_67
  · exact fun _ => tok_68
  · exact fun _ => tok_69
  · exact fun _ => tok_70
  · exact fun _ => tok_71
  · exact fun _ => tok_72
  · exact fun _ => tok_73
  · exact fun _ => tok_74
  · exact fun _ => tok_76
  · exact fun _ => tok_77
  · exact fun _ => tok_78
  · exact fun _ => tok_79
  · exact fun _ => tok_80
  · exact fun _ => tok_81
  · exact fun _ => tok_82
  · exact fun _ => tok_83
  · exact fun _ => tok_84
  · exact fun _ => tok_85
  · exact fun _ => tok_86
  · exact fun _ => tok_88
  · exact fun _ => tok_89
  · exact fun _ => tok_90
  · exact fun _ => tok_91
  · exact fun _ => tok_92
  · exact fun _ => tok_93
  · exact fun _ => tok_94
  · exact fun _ => tok_95
  · exact fun _ => tok_96
  · exact fun _ => tok_97
  · exact fun _ => tok_98
  · exact fun _ => tok_99
  · exact fun _ => tok_100
  · exact fun _ => tok_101
  · exact fun _ => tok_102
  · exact fun _ => tok_103
  · exact fun _ => tok_104
  · exact fun _ => tok_105
  · exact fun _ => tok_106
  · exact fun _ => tok_107
  · exact fun _ => tok_108
  · exact fun _ => tok_109
  · exact fun _ => tok_111
  · exact fun _ => tok_112
  · exact fun _ => tok_113
  · exact fun _ => tok_114
  · exact fun _ => tok_115
  · exact fun _ => tok_116
  · exact fun _ => tok_117
  · exact fun _ => tok_118
  · exact fun _ => tok_119
  · exact fun _ => tok_120
  · exact fun _ => tok_121
  · exact fun _ => tok_122
  · exact fun _ => tok_123
  · exact fun _ => tok_124
  · exact fun _ => tok_125
  · exact fun _ => tok_126
  · exact fun _ => tok_127
  · exact fun _ => tok_128
  · exact fun _ => tok_129
  · intro h; cases h
  · intro h; cases h
  · intro h; cases h
  · intro h; cases h
  · intro h; cases h
  · intro h; cases h
  · intro h; cases h
  · intro h; cases h
  · intro h; cases h
  · intro h; cases h
  · intro h; cases h
  · intro h; cases h
  · intro h; cases h
  · intro h; cases h
  · intro h; cases h
  · intro h; cases h
  · intro h; cases h
  · intro h; cases h
  · intro h; cases h
  · intro h; cases h
  · intro h; cases h
  · intro h; cases h
  · intro h; cases h
  · intro h; cases h
  · intro h; cases h
  · intro h; cases h
  · intro h; cases h
  · intro h; cases h
  · intro h; cases h
  · intro h; cases h
  · intro h; cases h
  · intro h; cases h
  · intro h; cases h
  · intro h; cases h
  · intro h; cases h
  · intro h; cases h
theorem noeqs : ∀ t, (tOf t).eqs = true → (tOf t).known = true := by
  intro t
  unfold tOf
  split <;> first | exact fun _ => rfl | exact fun h => absurd h (by decide)
theorem mixed : Try.prog.follows .mixedOrders = true := by kernel_rfl
end Go.Proofs.Ytlgadmholjaljaa

/-
  The types of the seat's program, as a table: kinds, sizes, zeros, places.
-/
import Derived.Test.YtjegjgdihpihoaaGreatDoorSg
import Derived.Test.YtjegjgdihpihoaaGreatDoorRows
namespace Go.Proofs.YtjegjgdihpihoaaGreatDoor
set_option linter.unusedVariables false

theorem ty_2 : TyOk Tryz.prog 2 ⟨false, 1, [.one (Value.int .i64 0)], []⟩ := ⟨by kernel_rfl, by kernel_rfl, by kernel_rfl, by kernel_rfl, ⟨rfl, trivial⟩, (fun h => by cases h), by kernel_rfl⟩
theorem ty_3 : TyOk Tryz.prog 3 ⟨false, 1, [.one (Value.int .i64 0)], []⟩ := ⟨by kernel_rfl, by kernel_rfl, by kernel_rfl, by kernel_rfl, ⟨rfl, trivial⟩, (fun h => by cases h), by kernel_rfl⟩
theorem ty_4 : TyOk Tryz.prog 4 ⟨false, 1, [.one (Value.bool false)], []⟩ := ⟨by kernel_rfl, by kernel_rfl, by kernel_rfl, by kernel_rfl, ⟨rfl, trivial⟩, (fun h => by cases h), by kernel_rfl⟩
theorem ty_5 : TyOk Tryz.prog 5 ⟨false, 1, [.one (Value.int .u8 0)], []⟩ := ⟨by kernel_rfl, by kernel_rfl, by kernel_rfl, by kernel_rfl, ⟨rfl, trivial⟩, (fun h => by cases h), by kernel_rfl⟩
theorem ty_6 : TyOk Tryz.prog 6 ⟨false, 1, [.one (Value.int .u8 0)], []⟩ := ⟨by kernel_rfl, by kernel_rfl, by kernel_rfl, by kernel_rfl, ⟨rfl, trivial⟩, (fun h => by cases h), by kernel_rfl⟩
theorem ty_7 : TyOk Tryz.prog 7 ⟨true, 4, [.one (Value.int .i64 0), .one (Value.int .i64 0), .one (Value.bool false), .one (Value.int .u8 0)], [(0, 1), (1, 1), (2, 1), (3, 1)]⟩ := ⟨by kernel_rfl, by kernel_rfl, by kernel_rfl, by kernel_rfl, ⟨rfl, ⟨rfl, ⟨rfl, ⟨rfl, trivial⟩⟩⟩⟩, (fun _ => by kernel_rfl), by kernel_rfl⟩
theorem ty_8 : TyOk Tryz.prog 8 ⟨true, 4, [.one (Value.int .i64 0), .one (Value.int .i64 0), .one (Value.bool false), .one (Value.int .u8 0)], [(0, 1), (1, 1), (2, 1), (3, 1)]⟩ := ⟨by kernel_rfl, by kernel_rfl, by kernel_rfl, by kernel_rfl, ⟨rfl, ⟨rfl, ⟨rfl, ⟨rfl, trivial⟩⟩⟩⟩, (fun _ => by kernel_rfl), by kernel_rfl⟩
theorem ty_9 : TyOk Tryz.prog 9 ⟨false, 1, [.one (Value.string ⟨#[]⟩)], []⟩ := ⟨by kernel_rfl, by kernel_rfl, by kernel_rfl, by kernel_rfl, ⟨rfl, trivial⟩, (fun h => by cases h), by kernel_rfl⟩
theorem ty_10 : TyOk Tryz.prog 10 ⟨false, 1, [.one (Value.string ⟨#[]⟩)], []⟩ := ⟨by kernel_rfl, by kernel_rfl, by kernel_rfl, by kernel_rfl, ⟨rfl, trivial⟩, (fun h => by cases h), by kernel_rfl⟩
theorem ty_11 : TyOk Tryz.prog 11 ⟨false, 1, [.one (Value.string ⟨#[]⟩)], []⟩ := ⟨by kernel_rfl, by kernel_rfl, by kernel_rfl, by kernel_rfl, ⟨rfl, trivial⟩, (fun h => by cases h), by kernel_rfl⟩
theorem ty_12 : TyOk Tryz.prog 12 ⟨false, 1, [.one (Value.int .u64 0)], []⟩ := ⟨by kernel_rfl, by kernel_rfl, by kernel_rfl, by kernel_rfl, ⟨rfl, trivial⟩, (fun h => by cases h), by kernel_rfl⟩
theorem ty_13 : TyOk Tryz.prog 13 ⟨true, 2, [.one (Value.string ⟨#[]⟩), .one (Value.int .u64 0)], [(0, 1), (1, 1)]⟩ := ⟨by kernel_rfl, by kernel_rfl, by kernel_rfl, by kernel_rfl, ⟨rfl, ⟨rfl, trivial⟩⟩, (fun _ => by kernel_rfl), by kernel_rfl⟩
theorem ty_14 : TyOk Tryz.prog 14 ⟨true, 2, [.one (Value.string ⟨#[]⟩), .one (Value.int .u64 0)], [(0, 1), (1, 1)]⟩ := ⟨by kernel_rfl, by kernel_rfl, by kernel_rfl, by kernel_rfl, ⟨rfl, ⟨rfl, trivial⟩⟩, (fun _ => by kernel_rfl), by kernel_rfl⟩
theorem ty_15 : TyOk Tryz.prog 15 ⟨false, 1, [.one (Value.pointer none)], []⟩ := ⟨by kernel_rfl, by kernel_rfl, by kernel_rfl, by kernel_rfl, ⟨rfl, trivial⟩, (fun h => by cases h), by kernel_rfl⟩
theorem ty_16 : TyOk Tryz.prog 16 ⟨false, 1, [.one (Value.pointer none)], []⟩ := ⟨by kernel_rfl, by kernel_rfl, by kernel_rfl, by kernel_rfl, ⟨rfl, trivial⟩, (fun h => by cases h), by kernel_rfl⟩
theorem ty_17 : TyOk Tryz.prog 17 ⟨false, 1, [.one (Value.pointer none)], []⟩ := ⟨by kernel_rfl, by kernel_rfl, by kernel_rfl, by kernel_rfl, ⟨rfl, trivial⟩, (fun h => by cases h), by kernel_rfl⟩
theorem ty_18 : TyOk Tryz.prog 18 ⟨true, 1, [.one (Value.pointer none)], [(0, 1)]⟩ := ⟨by kernel_rfl, by kernel_rfl, by kernel_rfl, by kernel_rfl, ⟨rfl, trivial⟩, (fun _ => by kernel_rfl), by kernel_rfl⟩
theorem ty_19 : TyOk Tryz.prog 19 ⟨true, 1, [.one (Value.pointer none)], [(0, 1)]⟩ := ⟨by kernel_rfl, by kernel_rfl, by kernel_rfl, by kernel_rfl, ⟨rfl, trivial⟩, (fun _ => by kernel_rfl), by kernel_rfl⟩
theorem ty_22 : TyOk Tryz.prog 22 ⟨true, 16, [.one (Value.int .u8 0), .one (Value.int .u8 0), .one (Value.int .u8 0), .one (Value.int .u8 0), .one (Value.int .u8 0), .one (Value.int .u8 0), .one (Value.int .u8 0), .one (Value.int .u8 0), .one (Value.int .u8 0), .one (Value.int .u8 0), .one (Value.int .u8 0), .one (Value.int .u8 0), .one (Value.int .u8 0), .one (Value.int .u8 0), .one (Value.int .u8 0), .one (Value.int .u8 0)], [(0, 1), (1, 1), (2, 1), (3, 1), (4, 1), (5, 1), (6, 1), (7, 1), (8, 1), (9, 1), (10, 1), (11, 1), (12, 1), (13, 1), (14, 1), (15, 1)]⟩ := ⟨by kernel_rfl, by kernel_rfl, by kernel_rfl, by kernel_rfl, ⟨rfl, ⟨rfl, ⟨rfl, ⟨rfl, ⟨rfl, ⟨rfl, ⟨rfl, ⟨rfl, ⟨rfl, ⟨rfl, ⟨rfl, ⟨rfl, ⟨rfl, ⟨rfl, ⟨rfl, ⟨rfl, trivial⟩⟩⟩⟩⟩⟩⟩⟩⟩⟩⟩⟩⟩⟩⟩⟩, (fun _ => by kernel_rfl), by kernel_rfl⟩
theorem ty_23 : TyOk Tryz.prog 23 ⟨true, 17, [.one (Value.bool false), .many (zeroL Tryz.prog 22) 16], [(0, 1), (1, 16)]⟩ := ⟨by kernel_rfl, by kernel_rfl, by kernel_rfl, by kernel_rfl, ⟨rfl, ⟨OkA.z (by kernel_rfl) (by kernel_rfl), trivial⟩⟩, (fun _ => by kernel_rfl), by kernel_rfl⟩
theorem ty_24 : TyOk Tryz.prog 24 ⟨true, 17, [.one (Value.bool false), .many (zeroL Tryz.prog 22) 16], [(0, 1), (1, 16)]⟩ := ⟨by kernel_rfl, by kernel_rfl, by kernel_rfl, by kernel_rfl, ⟨rfl, ⟨OkA.z (by kernel_rfl) (by kernel_rfl), trivial⟩⟩, (fun _ => by kernel_rfl), by kernel_rfl⟩
theorem ty_25 : TyOk Tryz.prog 25 ⟨false, 1, [.one (Value.slice none 0 0)], []⟩ := ⟨by kernel_rfl, by kernel_rfl, by kernel_rfl, by kernel_rfl, ⟨rfl, trivial⟩, (fun h => by cases h), by kernel_rfl⟩
theorem ty_26 : TyOk Tryz.prog 26 ⟨true, 2, [.one (Value.bool false), .one (Value.slice none 0 0)], [(0, 1), (1, 1)]⟩ := ⟨by kernel_rfl, by kernel_rfl, by kernel_rfl, by kernel_rfl, ⟨rfl, ⟨rfl, trivial⟩⟩, (fun _ => by kernel_rfl), by kernel_rfl⟩
theorem ty_27 : TyOk Tryz.prog 27 ⟨true, 2, [.one (Value.bool false), .one (Value.slice none 0 0)], [(0, 1), (1, 1)]⟩ := ⟨by kernel_rfl, by kernel_rfl, by kernel_rfl, by kernel_rfl, ⟨rfl, ⟨rfl, trivial⟩⟩, (fun _ => by kernel_rfl), by kernel_rfl⟩
theorem ty_28 : TyOk Tryz.prog 28 ⟨true, 20, [.one (Value.int .i64 0), .many (zeroL Tryz.prog 24) 17, .many (zeroL Tryz.prog 27) 2], [(0, 1), (1, 17), (18, 2)]⟩ := ⟨by kernel_rfl, by kernel_rfl, by kernel_rfl, by kernel_rfl, ⟨rfl, ⟨OkA.z (by kernel_rfl) (by kernel_rfl), ⟨OkA.z (by kernel_rfl) (by kernel_rfl), trivial⟩⟩⟩, (fun _ => by kernel_rfl), by kernel_rfl⟩
theorem ty_29 : TyOk Tryz.prog 29 ⟨true, 20, [.one (Value.int .i64 0), .many (zeroL Tryz.prog 24) 17, .many (zeroL Tryz.prog 27) 2], [(0, 1), (1, 17), (18, 2)]⟩ := ⟨by kernel_rfl, by kernel_rfl, by kernel_rfl, by kernel_rfl, ⟨rfl, ⟨OkA.z (by kernel_rfl) (by kernel_rfl), ⟨OkA.z (by kernel_rfl) (by kernel_rfl), trivial⟩⟩⟩, (fun _ => by kernel_rfl), by kernel_rfl⟩
theorem ty_30 : TyOk Tryz.prog 30 ⟨true, 21, [.many (zeroL Tryz.prog 29) 20, .one (Value.bool false)], [(0, 20), (20, 1)]⟩ := ⟨by kernel_rfl, by kernel_rfl, by kernel_rfl, by kernel_rfl, ⟨OkA.z (by kernel_rfl) (by kernel_rfl), ⟨rfl, trivial⟩⟩, (fun _ => by kernel_rfl), by kernel_rfl⟩
theorem ty_31 : TyOk Tryz.prog 31 ⟨true, 21, [.many (zeroL Tryz.prog 29) 20, .one (Value.bool false)], [(0, 20), (20, 1)]⟩ := ⟨by kernel_rfl, by kernel_rfl, by kernel_rfl, by kernel_rfl, ⟨OkA.z (by kernel_rfl) (by kernel_rfl), ⟨rfl, trivial⟩⟩, (fun _ => by kernel_rfl), by kernel_rfl⟩
theorem ty_34 : TyOk Tryz.prog 34 ⟨false, 1, [.one (Value.int .i64 0)], []⟩ := ⟨by kernel_rfl, by kernel_rfl, by kernel_rfl, by kernel_rfl, ⟨rfl, trivial⟩, (fun h => by cases h), by kernel_rfl⟩
theorem ty_43 : TyOk Tryz.prog 43 ⟨false, 1, [.one (Value.slice none 0 0)], []⟩ := ⟨by kernel_rfl, by kernel_rfl, by kernel_rfl, by kernel_rfl, ⟨rfl, trivial⟩, (fun h => by cases h), by kernel_rfl⟩
theorem ty_54 : TyOk Tryz.prog 54 ⟨false, 1, [.one (Value.slice none 0 0)], []⟩ := ⟨by kernel_rfl, by kernel_rfl, by kernel_rfl, by kernel_rfl, ⟨rfl, trivial⟩, (fun h => by cases h), by kernel_rfl⟩
theorem ty_57 : TyOk Tryz.prog 57 ⟨false, 1, [.one (Value.int .u64 0)], []⟩ := ⟨by kernel_rfl, by kernel_rfl, by kernel_rfl, by kernel_rfl, ⟨rfl, trivial⟩, (fun h => by cases h), by kernel_rfl⟩
theorem ty_66 : TyOk Tryz.prog 66 ⟨false, 1, [.one (Value.pointer none)], []⟩ := ⟨by kernel_rfl, by kernel_rfl, by kernel_rfl, by kernel_rfl, ⟨rfl, trivial⟩, (fun h => by cases h), by kernel_rfl⟩
theorem ty_72 : TyOk Tryz.prog 72 ⟨false, 1, [.one (Value.slice none 0 0)], []⟩ := ⟨by kernel_rfl, by kernel_rfl, by kernel_rfl, by kernel_rfl, ⟨rfl, trivial⟩, (fun h => by cases h), by kernel_rfl⟩
theorem ty_82 : TyOk Tryz.prog 82 ⟨true, 3, [.one (Value.string ⟨#[]⟩), .one (Value.int .i64 0), .one (Value.bool false)], [(0, 1), (1, 1), (2, 1)]⟩ := ⟨by kernel_rfl, by kernel_rfl, by kernel_rfl, by kernel_rfl, ⟨rfl, ⟨rfl, ⟨rfl, trivial⟩⟩⟩, (fun _ => by kernel_rfl), by kernel_rfl⟩
theorem ty_83 : TyOk Tryz.prog 83 ⟨true, 3, [.one (Value.string ⟨#[]⟩), .one (Value.int .i64 0), .one (Value.bool false)], [(0, 1), (1, 1), (2, 1)]⟩ := ⟨by kernel_rfl, by kernel_rfl, by kernel_rfl, by kernel_rfl, ⟨rfl, ⟨rfl, ⟨rfl, trivial⟩⟩⟩, (fun _ => by kernel_rfl), by kernel_rfl⟩
theorem ty_86 : TyOk Tryz.prog 86 ⟨false, 1, [.one (Value.slice none 0 0)], []⟩ := ⟨by kernel_rfl, by kernel_rfl, by kernel_rfl, by kernel_rfl, ⟨rfl, trivial⟩, (fun h => by cases h), by kernel_rfl⟩
theorem ty_94 : TyOk Tryz.prog 94 ⟨false, 1, [.one (Value.int .u64 0)], []⟩ := ⟨by kernel_rfl, by kernel_rfl, by kernel_rfl, by kernel_rfl, ⟨rfl, trivial⟩, (fun h => by cases h), by kernel_rfl⟩
theorem ty_96 : TyOk Tryz.prog 96 ⟨false, 1, [.one (Value.slice none 0 0)], []⟩ := ⟨by kernel_rfl, by kernel_rfl, by kernel_rfl, by kernel_rfl, ⟨rfl, trivial⟩, (fun h => by cases h), by kernel_rfl⟩
theorem ty_99 : TyOk Tryz.prog 99 ⟨true, 24, [.one (Value.int .u8 0), .one (Value.int .u8 0), .one (Value.int .u8 0), .one (Value.int .u8 0), .one (Value.int .u8 0), .one (Value.int .u8 0), .one (Value.int .u8 0), .one (Value.int .u8 0), .one (Value.int .u8 0), .one (Value.int .u8 0), .one (Value.int .u8 0), .one (Value.int .u8 0), .one (Value.int .u8 0), .one (Value.int .u8 0), .one (Value.int .u8 0), .one (Value.int .u8 0), .one (Value.int .u8 0), .one (Value.int .u8 0), .one (Value.int .u8 0), .one (Value.int .u8 0), .one (Value.int .u8 0), .one (Value.int .u8 0), .one (Value.int .u8 0), .one (Value.int .u8 0)], [(0, 1), (1, 1), (2, 1), (3, 1), (4, 1), (5, 1), (6, 1), (7, 1), (8, 1), (9, 1), (10, 1), (11, 1), (12, 1), (13, 1), (14, 1), (15, 1), (16, 1), (17, 1), (18, 1), (19, 1), (20, 1), (21, 1), (22, 1), (23, 1)]⟩ := ⟨by kernel_rfl, by kernel_rfl, by kernel_rfl, by kernel_rfl, ⟨rfl, ⟨rfl, ⟨rfl, ⟨rfl, ⟨rfl, ⟨rfl, ⟨rfl, ⟨rfl, ⟨rfl, ⟨rfl, ⟨rfl, ⟨rfl, ⟨rfl, ⟨rfl, ⟨rfl, ⟨rfl, ⟨rfl, ⟨rfl, ⟨rfl, ⟨rfl, ⟨rfl, ⟨rfl, ⟨rfl, ⟨rfl, trivial⟩⟩⟩⟩⟩⟩⟩⟩⟩⟩⟩⟩⟩⟩⟩⟩⟩⟩⟩⟩⟩⟩⟩⟩, (fun _ => by kernel_rfl), by kernel_rfl⟩
theorem ty_104 : TyOk Tryz.prog 104 ⟨false, 1, [.one (Value.pointer none)], []⟩ := ⟨by kernel_rfl, by kernel_rfl, by kernel_rfl, by kernel_rfl, ⟨rfl, trivial⟩, (fun h => by cases h), by kernel_rfl⟩
theorem ty_105 : TyOk Tryz.prog 105 ⟨true, 2, [.one (Value.pointer none), .one (Value.slice none 0 0)], [(0, 1), (1, 1)]⟩ := ⟨by kernel_rfl, by kernel_rfl, by kernel_rfl, by kernel_rfl, ⟨rfl, ⟨rfl, trivial⟩⟩, (fun _ => by kernel_rfl), by kernel_rfl⟩
theorem ty_106 : TyOk Tryz.prog 106 ⟨true, 2, [.one (Value.pointer none), .one (Value.slice none 0 0)], [(0, 1), (1, 1)]⟩ := ⟨by kernel_rfl, by kernel_rfl, by kernel_rfl, by kernel_rfl, ⟨rfl, ⟨rfl, trivial⟩⟩, (fun _ => by kernel_rfl), by kernel_rfl⟩
theorem ty_116 : TyOk Tryz.prog 116 ⟨true, 20, [.one (Value.int .u64 0), .one (Value.int .u64 0), .one (Value.int .u64 0), .one (Value.int .u64 0), .one (Value.int .u64 0), .one (Value.int .u64 0), .one (Value.int .u64 0), .one (Value.int .u64 0), .one (Value.int .u64 0), .one (Value.int .u64 0), .one (Value.int .u64 0), .one (Value.int .u64 0), .one (Value.int .u64 0), .one (Value.int .u64 0), .one (Value.int .u64 0), .one (Value.int .u64 0), .one (Value.int .u64 0), .one (Value.int .u64 0), .one (Value.int .u64 0), .one (Value.int .u64 0)], [(0, 1), (1, 1), (2, 1), (3, 1), (4, 1), (5, 1), (6, 1), (7, 1), (8, 1), (9, 1), (10, 1), (11, 1), (12, 1), (13, 1), (14, 1), (15, 1), (16, 1), (17, 1), (18, 1), (19, 1)]⟩ := ⟨by kernel_rfl, by kernel_rfl, by kernel_rfl, by kernel_rfl, ⟨rfl, ⟨rfl, ⟨rfl, ⟨rfl, ⟨rfl, ⟨rfl, ⟨rfl, ⟨rfl, ⟨rfl, ⟨rfl, ⟨rfl, ⟨rfl, ⟨rfl, ⟨rfl, ⟨rfl, ⟨rfl, ⟨rfl, ⟨rfl, ⟨rfl, ⟨rfl, trivial⟩⟩⟩⟩⟩⟩⟩⟩⟩⟩⟩⟩⟩⟩⟩⟩⟩⟩⟩⟩, (fun _ => by kernel_rfl), by kernel_rfl⟩
theorem ty_117 : TyOk Tryz.prog 117 ⟨false, 1, [.one (Value.int .u32 0)], []⟩ := ⟨by kernel_rfl, by kernel_rfl, by kernel_rfl, by kernel_rfl, ⟨rfl, trivial⟩, (fun h => by cases h), by kernel_rfl⟩
theorem ty_120 : TyOk Tryz.prog 120 ⟨false, 1, [.one (Value.pointer none)], []⟩ := ⟨by kernel_rfl, by kernel_rfl, by kernel_rfl, by kernel_rfl, ⟨rfl, trivial⟩, (fun h => by cases h), by kernel_rfl⟩
theorem ty_125 : TyOk Tryz.prog 125 ⟨true, 32, [.one (Value.int .u8 0), .one (Value.int .u8 0), .one (Value.int .u8 0), .one (Value.int .u8 0), .one (Value.int .u8 0), .one (Value.int .u8 0), .one (Value.int .u8 0), .one (Value.int .u8 0), .one (Value.int .u8 0), .one (Value.int .u8 0), .one (Value.int .u8 0), .one (Value.int .u8 0), .one (Value.int .u8 0), .one (Value.int .u8 0), .one (Value.int .u8 0), .one (Value.int .u8 0), .one (Value.int .u8 0), .one (Value.int .u8 0), .one (Value.int .u8 0), .one (Value.int .u8 0), .one (Value.int .u8 0), .one (Value.int .u8 0), .one (Value.int .u8 0), .one (Value.int .u8 0), .one (Value.int .u8 0), .one (Value.int .u8 0), .one (Value.int .u8 0), .one (Value.int .u8 0), .one (Value.int .u8 0), .one (Value.int .u8 0), .one (Value.int .u8 0), .one (Value.int .u8 0)], [(0, 1), (1, 1), (2, 1), (3, 1), (4, 1), (5, 1), (6, 1), (7, 1), (8, 1), (9, 1), (10, 1), (11, 1), (12, 1), (13, 1), (14, 1), (15, 1), (16, 1), (17, 1), (18, 1), (19, 1), (20, 1), (21, 1), (22, 1), (23, 1), (24, 1), (25, 1), (26, 1), (27, 1), (28, 1), (29, 1), (30, 1), (31, 1)]⟩ := ⟨by kernel_rfl, by kernel_rfl, by kernel_rfl, by kernel_rfl, ⟨rfl, ⟨rfl, ⟨rfl, ⟨rfl, ⟨rfl, ⟨rfl, ⟨rfl, ⟨rfl, ⟨rfl, ⟨rfl, ⟨rfl, ⟨rfl, ⟨rfl, ⟨rfl, ⟨rfl, ⟨rfl, ⟨rfl, ⟨rfl, ⟨rfl, ⟨rfl, ⟨rfl, ⟨rfl, ⟨rfl, ⟨rfl, ⟨rfl, ⟨rfl, ⟨rfl, ⟨rfl, ⟨rfl, ⟨rfl, ⟨rfl, ⟨rfl, trivial⟩⟩⟩⟩⟩⟩⟩⟩⟩⟩⟩⟩⟩⟩⟩⟩⟩⟩⟩⟩⟩⟩⟩⟩⟩⟩⟩⟩⟩⟩⟩⟩, (fun _ => by kernel_rfl), by kernel_rfl⟩
theorem ty_127 : TyOk Tryz.prog 127 ⟨true, 4, [.one (Value.pointer none), .one (Value.pointer none), .one (Value.pointer none), .one (Value.string ⟨#[]⟩)], [(0, 1), (1, 1), (2, 1), (3, 1)]⟩ := ⟨by kernel_rfl, by kernel_rfl, by kernel_rfl, by kernel_rfl, ⟨rfl, ⟨rfl, ⟨rfl, ⟨rfl, trivial⟩⟩⟩⟩, (fun _ => by kernel_rfl), by kernel_rfl⟩
theorem ty_128 : TyOk Tryz.prog 128 ⟨true, 4, [.one (Value.pointer none), .one (Value.pointer none), .one (Value.pointer none), .one (Value.string ⟨#[]⟩)], [(0, 1), (1, 1), (2, 1), (3, 1)]⟩ := ⟨by kernel_rfl, by kernel_rfl, by kernel_rfl, by kernel_rfl, ⟨rfl, ⟨rfl, ⟨rfl, ⟨rfl, trivial⟩⟩⟩⟩, (fun _ => by kernel_rfl), by kernel_rfl⟩
theorem ty_132 : TyOk Tryz.prog 132 ⟨false, 1, [.one (Value.int .u8 0)], []⟩ := ⟨by kernel_rfl, by kernel_rfl, by kernel_rfl, by kernel_rfl, ⟨rfl, trivial⟩, (fun h => by cases h), by kernel_rfl⟩
theorem ty_133 : TyOk Tryz.prog 133 ⟨false, 1, [.one (Value.int .u8 0)], []⟩ := ⟨by kernel_rfl, by kernel_rfl, by kernel_rfl, by kernel_rfl, ⟨rfl, trivial⟩, (fun h => by cases h), by kernel_rfl⟩
def tab (P : Program) : Tab := [(2, ⟨false, 1, [.one (Value.int .i64 0)], []⟩),
  (3, ⟨false, 1, [.one (Value.int .i64 0)], []⟩),
  (4, ⟨false, 1, [.one (Value.bool false)], []⟩),
  (5, ⟨false, 1, [.one (Value.int .u8 0)], []⟩),
  (6, ⟨false, 1, [.one (Value.int .u8 0)], []⟩),
  (7, ⟨true, 4, [.one (Value.int .i64 0), .one (Value.int .i64 0), .one (Value.bool false), .one (Value.int .u8 0)], [(0, 1), (1, 1), (2, 1), (3, 1)]⟩),
  (8, ⟨true, 4, [.one (Value.int .i64 0), .one (Value.int .i64 0), .one (Value.bool false), .one (Value.int .u8 0)], [(0, 1), (1, 1), (2, 1), (3, 1)]⟩),
  (9, ⟨false, 1, [.one (Value.string ⟨#[]⟩)], []⟩),
  (10, ⟨false, 1, [.one (Value.string ⟨#[]⟩)], []⟩),
  (11, ⟨false, 1, [.one (Value.string ⟨#[]⟩)], []⟩),
  (12, ⟨false, 1, [.one (Value.int .u64 0)], []⟩),
  (13, ⟨true, 2, [.one (Value.string ⟨#[]⟩), .one (Value.int .u64 0)], [(0, 1), (1, 1)]⟩),
  (14, ⟨true, 2, [.one (Value.string ⟨#[]⟩), .one (Value.int .u64 0)], [(0, 1), (1, 1)]⟩),
  (15, ⟨false, 1, [.one (Value.pointer none)], []⟩),
  (16, ⟨false, 1, [.one (Value.pointer none)], []⟩),
  (17, ⟨false, 1, [.one (Value.pointer none)], []⟩),
  (18, ⟨true, 1, [.one (Value.pointer none)], [(0, 1)]⟩),
  (19, ⟨true, 1, [.one (Value.pointer none)], [(0, 1)]⟩),
  (22, ⟨true, 16, [.one (Value.int .u8 0), .one (Value.int .u8 0), .one (Value.int .u8 0), .one (Value.int .u8 0), .one (Value.int .u8 0), .one (Value.int .u8 0), .one (Value.int .u8 0), .one (Value.int .u8 0), .one (Value.int .u8 0), .one (Value.int .u8 0), .one (Value.int .u8 0), .one (Value.int .u8 0), .one (Value.int .u8 0), .one (Value.int .u8 0), .one (Value.int .u8 0), .one (Value.int .u8 0)], [(0, 1), (1, 1), (2, 1), (3, 1), (4, 1), (5, 1), (6, 1), (7, 1), (8, 1), (9, 1), (10, 1), (11, 1), (12, 1), (13, 1), (14, 1), (15, 1)]⟩),
  (23, ⟨true, 17, [.one (Value.bool false), .many (zeroL P 22) 16], [(0, 1), (1, 16)]⟩),
  (24, ⟨true, 17, [.one (Value.bool false), .many (zeroL P 22) 16], [(0, 1), (1, 16)]⟩),
  (25, ⟨false, 1, [.one (Value.slice none 0 0)], []⟩),
  (26, ⟨true, 2, [.one (Value.bool false), .one (Value.slice none 0 0)], [(0, 1), (1, 1)]⟩),
  (27, ⟨true, 2, [.one (Value.bool false), .one (Value.slice none 0 0)], [(0, 1), (1, 1)]⟩),
  (28, ⟨true, 20, [.one (Value.int .i64 0), .many (zeroL P 24) 17, .many (zeroL P 27) 2], [(0, 1), (1, 17), (18, 2)]⟩),
  (29, ⟨true, 20, [.one (Value.int .i64 0), .many (zeroL P 24) 17, .many (zeroL P 27) 2], [(0, 1), (1, 17), (18, 2)]⟩),
  (30, ⟨true, 21, [.many (zeroL P 29) 20, .one (Value.bool false)], [(0, 20), (20, 1)]⟩),
  (31, ⟨true, 21, [.many (zeroL P 29) 20, .one (Value.bool false)], [(0, 20), (20, 1)]⟩),
  (34, ⟨false, 1, [.one (Value.int .i64 0)], []⟩),
  (43, ⟨false, 1, [.one (Value.slice none 0 0)], []⟩),
  (54, ⟨false, 1, [.one (Value.slice none 0 0)], []⟩),
  (57, ⟨false, 1, [.one (Value.int .u64 0)], []⟩),
  (66, ⟨false, 1, [.one (Value.pointer none)], []⟩),
  (72, ⟨false, 1, [.one (Value.slice none 0 0)], []⟩),
  (82, ⟨true, 3, [.one (Value.string ⟨#[]⟩), .one (Value.int .i64 0), .one (Value.bool false)], [(0, 1), (1, 1), (2, 1)]⟩),
  (83, ⟨true, 3, [.one (Value.string ⟨#[]⟩), .one (Value.int .i64 0), .one (Value.bool false)], [(0, 1), (1, 1), (2, 1)]⟩),
  (86, ⟨false, 1, [.one (Value.slice none 0 0)], []⟩),
  (94, ⟨false, 1, [.one (Value.int .u64 0)], []⟩),
  (96, ⟨false, 1, [.one (Value.slice none 0 0)], []⟩),
  (99, ⟨true, 24, [.one (Value.int .u8 0), .one (Value.int .u8 0), .one (Value.int .u8 0), .one (Value.int .u8 0), .one (Value.int .u8 0), .one (Value.int .u8 0), .one (Value.int .u8 0), .one (Value.int .u8 0), .one (Value.int .u8 0), .one (Value.int .u8 0), .one (Value.int .u8 0), .one (Value.int .u8 0), .one (Value.int .u8 0), .one (Value.int .u8 0), .one (Value.int .u8 0), .one (Value.int .u8 0), .one (Value.int .u8 0), .one (Value.int .u8 0), .one (Value.int .u8 0), .one (Value.int .u8 0), .one (Value.int .u8 0), .one (Value.int .u8 0), .one (Value.int .u8 0), .one (Value.int .u8 0)], [(0, 1), (1, 1), (2, 1), (3, 1), (4, 1), (5, 1), (6, 1), (7, 1), (8, 1), (9, 1), (10, 1), (11, 1), (12, 1), (13, 1), (14, 1), (15, 1), (16, 1), (17, 1), (18, 1), (19, 1), (20, 1), (21, 1), (22, 1), (23, 1)]⟩),
  (104, ⟨false, 1, [.one (Value.pointer none)], []⟩),
  (105, ⟨true, 2, [.one (Value.pointer none), .one (Value.slice none 0 0)], [(0, 1), (1, 1)]⟩),
  (106, ⟨true, 2, [.one (Value.pointer none), .one (Value.slice none 0 0)], [(0, 1), (1, 1)]⟩),
  (116, ⟨true, 20, [.one (Value.int .u64 0), .one (Value.int .u64 0), .one (Value.int .u64 0), .one (Value.int .u64 0), .one (Value.int .u64 0), .one (Value.int .u64 0), .one (Value.int .u64 0), .one (Value.int .u64 0), .one (Value.int .u64 0), .one (Value.int .u64 0), .one (Value.int .u64 0), .one (Value.int .u64 0), .one (Value.int .u64 0), .one (Value.int .u64 0), .one (Value.int .u64 0), .one (Value.int .u64 0), .one (Value.int .u64 0), .one (Value.int .u64 0), .one (Value.int .u64 0), .one (Value.int .u64 0)], [(0, 1), (1, 1), (2, 1), (3, 1), (4, 1), (5, 1), (6, 1), (7, 1), (8, 1), (9, 1), (10, 1), (11, 1), (12, 1), (13, 1), (14, 1), (15, 1), (16, 1), (17, 1), (18, 1), (19, 1)]⟩),
  (117, ⟨false, 1, [.one (Value.int .u32 0)], []⟩),
  (120, ⟨false, 1, [.one (Value.pointer none)], []⟩),
  (125, ⟨true, 32, [.one (Value.int .u8 0), .one (Value.int .u8 0), .one (Value.int .u8 0), .one (Value.int .u8 0), .one (Value.int .u8 0), .one (Value.int .u8 0), .one (Value.int .u8 0), .one (Value.int .u8 0), .one (Value.int .u8 0), .one (Value.int .u8 0), .one (Value.int .u8 0), .one (Value.int .u8 0), .one (Value.int .u8 0), .one (Value.int .u8 0), .one (Value.int .u8 0), .one (Value.int .u8 0), .one (Value.int .u8 0), .one (Value.int .u8 0), .one (Value.int .u8 0), .one (Value.int .u8 0), .one (Value.int .u8 0), .one (Value.int .u8 0), .one (Value.int .u8 0), .one (Value.int .u8 0), .one (Value.int .u8 0), .one (Value.int .u8 0), .one (Value.int .u8 0), .one (Value.int .u8 0), .one (Value.int .u8 0), .one (Value.int .u8 0), .one (Value.int .u8 0), .one (Value.int .u8 0)], [(0, 1), (1, 1), (2, 1), (3, 1), (4, 1), (5, 1), (6, 1), (7, 1), (8, 1), (9, 1), (10, 1), (11, 1), (12, 1), (13, 1), (14, 1), (15, 1), (16, 1), (17, 1), (18, 1), (19, 1), (20, 1), (21, 1), (22, 1), (23, 1), (24, 1), (25, 1), (26, 1), (27, 1), (28, 1), (29, 1), (30, 1), (31, 1)]⟩),
  (127, ⟨true, 4, [.one (Value.pointer none), .one (Value.pointer none), .one (Value.pointer none), .one (Value.string ⟨#[]⟩)], [(0, 1), (1, 1), (2, 1), (3, 1)]⟩),
  (128, ⟨true, 4, [.one (Value.pointer none), .one (Value.pointer none), .one (Value.pointer none), .one (Value.string ⟨#[]⟩)], [(0, 1), (1, 1), (2, 1), (3, 1)]⟩),
  (132, ⟨false, 1, [.one (Value.int .u8 0)], []⟩),
  (133, ⟨false, 1, [.one (Value.int .u8 0)], []⟩)]
theorem tab_ok : TabOk Tryz.prog (tab Tryz.prog) := by
  intro p hp
  unfold tab at hp
  rcases List.mem_cons.1 hp with rfl | hp
  · exact ty_2
  rcases List.mem_cons.1 hp with rfl | hp
  · exact ty_3
  rcases List.mem_cons.1 hp with rfl | hp
  · exact ty_4
  rcases List.mem_cons.1 hp with rfl | hp
  · exact ty_5
  rcases List.mem_cons.1 hp with rfl | hp
  · exact ty_6
  rcases List.mem_cons.1 hp with rfl | hp
  · exact ty_7
  rcases List.mem_cons.1 hp with rfl | hp
  · exact ty_8
  rcases List.mem_cons.1 hp with rfl | hp
  · exact ty_9
  rcases List.mem_cons.1 hp with rfl | hp
  · exact ty_10
  rcases List.mem_cons.1 hp with rfl | hp
  · exact ty_11
  rcases List.mem_cons.1 hp with rfl | hp
  · exact ty_12
  rcases List.mem_cons.1 hp with rfl | hp
  · exact ty_13
  rcases List.mem_cons.1 hp with rfl | hp
  · exact ty_14
  rcases List.mem_cons.1 hp with rfl | hp
  · exact ty_15
  rcases List.mem_cons.1 hp with rfl | hp
  · exact ty_16
  rcases List.mem_cons.1 hp with rfl | hp
  · exact ty_17
  rcases List.mem_cons.1 hp with rfl | hp
  · exact ty_18
  rcases List.mem_cons.1 hp with rfl | hp
  · exact ty_19
  rcases List.mem_cons.1 hp with rfl | hp
  · exact ty_22
  rcases List.mem_cons.1 hp with rfl | hp
  · exact ty_23
  rcases List.mem_cons.1 hp with rfl | hp
  · exact ty_24
  rcases List.mem_cons.1 hp with rfl | hp
  · exact ty_25
  rcases List.mem_cons.1 hp with rfl | hp
  · exact ty_26
  rcases List.mem_cons.1 hp with rfl | hp
  · exact ty_27
  rcases List.mem_cons.1 hp with rfl | hp
  · exact ty_28
  rcases List.mem_cons.1 hp with rfl | hp
  · exact ty_29
  rcases List.mem_cons.1 hp with rfl | hp
  · exact ty_30
  rcases List.mem_cons.1 hp with rfl | hp
  · exact ty_31
  rcases List.mem_cons.1 hp with rfl | hp
  · exact ty_34
  rcases List.mem_cons.1 hp with rfl | hp
  · exact ty_43
  rcases List.mem_cons.1 hp with rfl | hp
  · exact ty_54
  rcases List.mem_cons.1 hp with rfl | hp
  · exact ty_57
  rcases List.mem_cons.1 hp with rfl | hp
  · exact ty_66
  rcases List.mem_cons.1 hp with rfl | hp
  · exact ty_72
  rcases List.mem_cons.1 hp with rfl | hp
  · exact ty_82
  rcases List.mem_cons.1 hp with rfl | hp
  · exact ty_83
  rcases List.mem_cons.1 hp with rfl | hp
  · exact ty_86
  rcases List.mem_cons.1 hp with rfl | hp
  · exact ty_94
  rcases List.mem_cons.1 hp with rfl | hp
  · exact ty_96
  rcases List.mem_cons.1 hp with rfl | hp
  · exact ty_99
  rcases List.mem_cons.1 hp with rfl | hp
  · exact ty_104
  rcases List.mem_cons.1 hp with rfl | hp
  · exact ty_105
  rcases List.mem_cons.1 hp with rfl | hp
  · exact ty_106
  rcases List.mem_cons.1 hp with rfl | hp
  · exact ty_116
  rcases List.mem_cons.1 hp with rfl | hp
  · exact ty_117
  rcases List.mem_cons.1 hp with rfl | hp
  · exact ty_120
  rcases List.mem_cons.1 hp with rfl | hp
  · exact ty_125
  rcases List.mem_cons.1 hp with rfl | hp
  · exact ty_127
  rcases List.mem_cons.1 hp with rfl | hp
  · exact ty_128
  rcases List.mem_cons.1 hp with rfl | hp
  · exact ty_132
  rcases List.mem_cons.1 hp with rfl | hp
  · exact ty_133
  exact absurd hp (by simp)
end Go.Proofs.YtjegjgdihpihoaaGreatDoor

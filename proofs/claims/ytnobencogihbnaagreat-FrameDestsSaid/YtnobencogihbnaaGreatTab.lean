/-
  The types of the seat's program, as a table: kinds, sizes, zeros, places.
-/
import Derived.Test.YtnobencogihbnaaGreatSg
import Derived.Test.YtnobencogihbnaaGreatRows
namespace Go.Proofs.YtnobencogihbnaaGreat
set_option linter.unusedVariables false

theorem ty_2 : TyOk Tryz.prog 2 ⟨false, 1, [.one (Value.int .i64 0)], []⟩ := ⟨by kernel_rfl, by kernel_rfl, by kernel_rfl, by kernel_rfl, ⟨rfl, trivial⟩, (fun h => by cases h), by kernel_rfl⟩
theorem ty_3 : TyOk Tryz.prog 3 ⟨false, 1, [.one (Value.int .i64 0)], []⟩ := ⟨by kernel_rfl, by kernel_rfl, by kernel_rfl, by kernel_rfl, ⟨rfl, trivial⟩, (fun h => by cases h), by kernel_rfl⟩
theorem ty_4 : TyOk Tryz.prog 4 ⟨false, 1, [.one (Value.bool false)], []⟩ := ⟨by kernel_rfl, by kernel_rfl, by kernel_rfl, by kernel_rfl, ⟨rfl, trivial⟩, (fun h => by cases h), by kernel_rfl⟩
theorem ty_5 : TyOk Tryz.prog 5 ⟨false, 1, [.one (Value.int .u8 0)], []⟩ := ⟨by kernel_rfl, by kernel_rfl, by kernel_rfl, by kernel_rfl, ⟨rfl, trivial⟩, (fun h => by cases h), by kernel_rfl⟩
theorem ty_6 : TyOk Tryz.prog 6 ⟨false, 1, [.one (Value.int .u8 0)], []⟩ := ⟨by kernel_rfl, by kernel_rfl, by kernel_rfl, by kernel_rfl, ⟨rfl, trivial⟩, (fun h => by cases h), by kernel_rfl⟩
theorem ty_7 : TyOk Tryz.prog 7 ⟨true, 4, [.one (Value.int .i64 0), .one (Value.int .i64 0), .one (Value.bool false), .one (Value.int .u8 0)], [(0, 1), (1, 1), (2, 1), (3, 1)]⟩ := ⟨by kernel_rfl, by kernel_rfl, by kernel_rfl, by kernel_rfl, ⟨rfl, ⟨rfl, ⟨rfl, ⟨rfl, trivial⟩⟩⟩⟩, (fun _ => by kernel_rfl), by kernel_rfl⟩
theorem ty_8 : TyOk Tryz.prog 8 ⟨true, 4, [.one (Value.int .i64 0), .one (Value.int .i64 0), .one (Value.bool false), .one (Value.int .u8 0)], [(0, 1), (1, 1), (2, 1), (3, 1)]⟩ := ⟨by kernel_rfl, by kernel_rfl, by kernel_rfl, by kernel_rfl, ⟨rfl, ⟨rfl, ⟨rfl, ⟨rfl, trivial⟩⟩⟩⟩, (fun _ => by kernel_rfl), by kernel_rfl⟩
theorem ty_9 : TyOk Tryz.prog 9 ⟨false, 1, [.one (Value.string ⟨#[]⟩)], []⟩ := ⟨by kernel_rfl, by kernel_rfl, by kernel_rfl, by kernel_rfl, ⟨rfl, trivial⟩, (fun h => by cases h), by kernel_rfl⟩
theorem ty_10 : TyOk Tryz.prog 10 ⟨false, 1, [.one (Value.string ⟨#[]⟩)], []⟩ := ⟨by kernel_rfl, by kernel_rfl, by kernel_rfl, by kernel_rfl, ⟨rfl, trivial⟩, (fun h => by cases h), by kernel_rfl⟩
theorem ty_11 : TyOk Tryz.prog 11 ⟨false, 1, [.one (Value.string ⟨#[]⟩)], []⟩ := ⟨by kernel_rfl, by kernel_rfl, by kernel_rfl, by kernel_rfl, ⟨rfl, trivial⟩, (fun h => by cases h), by kernel_rfl⟩
theorem ty_12 : TyOk Tryz.prog 12 ⟨false, 1, [.one (Value.int .u64 0)], []⟩ := ⟨by kernel_rfl, by kernel_rfl, by kernel_rfl, by kernel_rfl, ⟨rfl, trivial⟩, (fun h => by cases h), by kernel_rfl⟩
theorem ty_13 : TyOk Tryz.prog 13 ⟨true, 2, [.one (Value.string ⟨#[]⟩), .one (Value.int .u64 0)], [(0, 1), (1, 1)]⟩ := ⟨by kernel_rfl, by kernel_rfl, by kernel_rfl, by kernel_rfl, ⟨rfl, ⟨rfl, trivial⟩⟩, (fun _ => by kernel_rfl), by kernel_rfl⟩
theorem ty_14 : TyOk Tryz.prog 14 ⟨true, 2, [.one (Value.string ⟨#[]⟩), .one (Value.int .u64 0)], [(0, 1), (1, 1)]⟩ := ⟨by kernel_rfl, by kernel_rfl, by kernel_rfl, by kernel_rfl, ⟨rfl, ⟨rfl, trivial⟩⟩, (fun _ => by kernel_rfl), by kernel_rfl⟩
theorem ty_15 : TyOk Tryz.prog 15 ⟨false, 1, [.one (Value.pointer none)], []⟩ := ⟨by kernel_rfl, by kernel_rfl, by kernel_rfl, by kernel_rfl, ⟨rfl, trivial⟩, (fun h => by cases h), by kernel_rfl⟩
theorem ty_16 : TyOk Tryz.prog 16 ⟨false, 1, [.one (Value.pointer none)], []⟩ := ⟨by kernel_rfl, by kernel_rfl, by kernel_rfl, by kernel_rfl, ⟨rfl, trivial⟩, (fun h => by cases h), by kernel_rfl⟩
theorem ty_17 : TyOk Tryz.prog 17 ⟨false, 1, [.one (Value.pointer none)], []⟩ := ⟨by kernel_rfl, by kernel_rfl, by kernel_rfl, by kernel_rfl, ⟨rfl, trivial⟩, (fun h => by cases h), by kernel_rfl⟩
theorem ty_18 : TyOk Tryz.prog 18 ⟨true, 1, [.one (Value.pointer none)], [(0, 1)]⟩ := ⟨by kernel_rfl, by kernel_rfl, by kernel_rfl, by kernel_rfl, ⟨rfl, trivial⟩, (fun _ => by kernel_rfl), by kernel_rfl⟩
theorem ty_19 : TyOk Tryz.prog 19 ⟨true, 1, [.one (Value.pointer none)], [(0, 1)]⟩ := ⟨by kernel_rfl, by kernel_rfl, by kernel_rfl, by kernel_rfl, ⟨rfl, trivial⟩, (fun _ => by kernel_rfl), by kernel_rfl⟩
theorem ty_22 : TyOk Tryz.prog 22 ⟨true, 16, [.one (Value.int .u8 0), .one (Value.int .u8 0), .one (Value.int .u8 0), .one (Value.int .u8 0), .one (Value.int .u8 0), .one (Value.int .u8 0), .one (Value.int .u8 0), .one (Value.int .u8 0), .one (Value.int .u8 0), .one (Value.int .u8 0), .one (Value.int .u8 0), .one (Value.int .u8 0), .one (Value.int .u8 0), .one (Value.int .u8 0), .one (Value.int .u8 0), .one (Value.int .u8 0)], [(0, 1), (1, 1), (2, 1), (3, 1), (4, 1), (5, 1), (6, 1), (7, 1), (8, 1), (9, 1), (10, 1), (11, 1), (12, 1), (13, 1), (14, 1), (15, 1)]⟩ := ⟨by kernel_rfl, by kernel_rfl, by kernel_rfl, by kernel_rfl, ⟨rfl, ⟨rfl, ⟨rfl, ⟨rfl, ⟨rfl, ⟨rfl, ⟨rfl, ⟨rfl, ⟨rfl, ⟨rfl, ⟨rfl, ⟨rfl, ⟨rfl, ⟨rfl, ⟨rfl, ⟨rfl, trivial⟩⟩⟩⟩⟩⟩⟩⟩⟩⟩⟩⟩⟩⟩⟩⟩, (fun _ => by kernel_rfl), by kernel_rfl⟩
theorem ty_23 : TyOk Tryz.prog 23 ⟨true, 17, [.one (Value.bool false), .many (zeroL Tryz.prog 22) 16], [(0, 1), (1, 16)]⟩ := ⟨by kernel_rfl, by kernel_rfl, by kernel_rfl, by kernel_rfl, ⟨rfl, ⟨OkA.z (by kernel_rfl) (by kernel_rfl), trivial⟩⟩, (fun _ => by kernel_rfl), by kernel_rfl⟩
theorem ty_24 : TyOk Tryz.prog 24 ⟨true, 17, [.one (Value.bool false), .many (zeroL Tryz.prog 22) 16], [(0, 1), (1, 16)]⟩ := ⟨by kernel_rfl, by kernel_rfl, by kernel_rfl, by kernel_rfl, ⟨rfl, ⟨OkA.z (by kernel_rfl) (by kernel_rfl), trivial⟩⟩, (fun _ => by kernel_rfl), by kernel_rfl⟩
theorem ty_25 : TyOk Tryz.prog 25 ⟨false, 1, [.one (Value.slice none 0 0)], []⟩ := ⟨by kernel_rfl, by kernel_rfl, by kernel_rfl, by kernel_rfl, ⟨rfl, trivial⟩, (fun h => by cases h), by kernel_rfl⟩
theorem ty_26 : TyOk Tryz.prog 26 ⟨false, 1, [.one (Value.slice none 0 0)], []⟩ := ⟨by kernel_rfl, by kernel_rfl, by kernel_rfl, by kernel_rfl, ⟨rfl, trivial⟩, (fun h => by cases h), by kernel_rfl⟩
theorem ty_27 : TyOk Tryz.prog 27 ⟨true, 26, [.one (Value.bool false), .one (Value.int .i64 0), .one (Value.int .i64 0), .one (Value.int .i64 0), .many (zeroL Tryz.prog 24) 17, .one (Value.bool false), .one (Value.int .i64 0), .one (Value.int .i64 0), .one (Value.slice none 0 0), .one (Value.slice none 0 0)], [(0, 1), (1, 1), (2, 1), (3, 1), (4, 17), (21, 1), (22, 1), (23, 1), (24, 1), (25, 1)]⟩ := ⟨by kernel_rfl, by kernel_rfl, by kernel_rfl, by kernel_rfl, ⟨rfl, ⟨rfl, ⟨rfl, ⟨rfl, ⟨OkA.z (by kernel_rfl) (by kernel_rfl), ⟨rfl, ⟨rfl, ⟨rfl, ⟨rfl, ⟨rfl, trivial⟩⟩⟩⟩⟩⟩⟩⟩⟩⟩, (fun _ => by kernel_rfl), by kernel_rfl⟩
theorem ty_28 : TyOk Tryz.prog 28 ⟨true, 26, [.one (Value.bool false), .one (Value.int .i64 0), .one (Value.int .i64 0), .one (Value.int .i64 0), .many (zeroL Tryz.prog 24) 17, .one (Value.bool false), .one (Value.int .i64 0), .one (Value.int .i64 0), .one (Value.slice none 0 0), .one (Value.slice none 0 0)], [(0, 1), (1, 1), (2, 1), (3, 1), (4, 17), (21, 1), (22, 1), (23, 1), (24, 1), (25, 1)]⟩ := ⟨by kernel_rfl, by kernel_rfl, by kernel_rfl, by kernel_rfl, ⟨rfl, ⟨rfl, ⟨rfl, ⟨rfl, ⟨OkA.z (by kernel_rfl) (by kernel_rfl), ⟨rfl, ⟨rfl, ⟨rfl, ⟨rfl, ⟨rfl, trivial⟩⟩⟩⟩⟩⟩⟩⟩⟩⟩, (fun _ => by kernel_rfl), by kernel_rfl⟩
theorem ty_37 : TyOk Tryz.prog 37 ⟨false, 1, [.one (Value.int .i64 0)], []⟩ := ⟨by kernel_rfl, by kernel_rfl, by kernel_rfl, by kernel_rfl, ⟨rfl, trivial⟩, (fun h => by cases h), by kernel_rfl⟩
theorem ty_40 : TyOk Tryz.prog 40 ⟨true, 65, [.one (Value.int .i64 0), .one (Value.int .i64 0), .many (zeroL Tryz.prog 24) 17, .many (zeroL Tryz.prog 24) 17, .many (zeroL Tryz.prog 28) 26, .one (Value.int .i64 0), .one (Value.int .i64 0), .one (Value.string ⟨#[]⟩)], [(0, 1), (1, 1), (2, 17), (19, 17), (36, 26), (62, 1), (63, 1), (64, 1)]⟩ := ⟨by kernel_rfl, by kernel_rfl, by kernel_rfl, by kernel_rfl, ⟨rfl, ⟨rfl, ⟨OkA.z (by kernel_rfl) (by kernel_rfl), ⟨OkA.z (by kernel_rfl) (by kernel_rfl), ⟨OkA.z (by kernel_rfl) (by kernel_rfl), ⟨rfl, ⟨rfl, ⟨rfl, trivial⟩⟩⟩⟩⟩⟩⟩⟩, (fun _ => by kernel_rfl), by kernel_rfl⟩
theorem ty_41 : TyOk Tryz.prog 41 ⟨true, 65, [.one (Value.int .i64 0), .one (Value.int .i64 0), .many (zeroL Tryz.prog 24) 17, .many (zeroL Tryz.prog 24) 17, .many (zeroL Tryz.prog 28) 26, .one (Value.int .i64 0), .one (Value.int .i64 0), .one (Value.string ⟨#[]⟩)], [(0, 1), (1, 1), (2, 17), (19, 17), (36, 26), (62, 1), (63, 1), (64, 1)]⟩ := ⟨by kernel_rfl, by kernel_rfl, by kernel_rfl, by kernel_rfl, ⟨rfl, ⟨rfl, ⟨OkA.z (by kernel_rfl) (by kernel_rfl), ⟨OkA.z (by kernel_rfl) (by kernel_rfl), ⟨OkA.z (by kernel_rfl) (by kernel_rfl), ⟨rfl, ⟨rfl, ⟨rfl, trivial⟩⟩⟩⟩⟩⟩⟩⟩, (fun _ => by kernel_rfl), by kernel_rfl⟩
theorem ty_43 : TyOk Tryz.prog 43 ⟨true, 6, [.one (Value.int .u8 0), .one (Value.int .u8 0), .one (Value.int .u8 0), .one (Value.int .u8 0), .one (Value.int .u8 0), .one (Value.int .u8 0)], [(0, 1), (1, 1), (2, 1), (3, 1), (4, 1), (5, 1)]⟩ := ⟨by kernel_rfl, by kernel_rfl, by kernel_rfl, by kernel_rfl, ⟨rfl, ⟨rfl, ⟨rfl, ⟨rfl, ⟨rfl, ⟨rfl, trivial⟩⟩⟩⟩⟩⟩, (fun _ => by kernel_rfl), by kernel_rfl⟩
theorem ty_44 : TyOk Tryz.prog 44 ⟨true, 6, [.one (Value.int .u8 0), .one (Value.int .u8 0), .one (Value.int .u8 0), .one (Value.int .u8 0), .one (Value.int .u8 0), .one (Value.int .u8 0)], [(0, 1), (1, 1), (2, 1), (3, 1), (4, 1), (5, 1)]⟩ := ⟨by kernel_rfl, by kernel_rfl, by kernel_rfl, by kernel_rfl, ⟨rfl, ⟨rfl, ⟨rfl, ⟨rfl, ⟨rfl, ⟨rfl, trivial⟩⟩⟩⟩⟩⟩, (fun _ => by kernel_rfl), by kernel_rfl⟩
theorem ty_49 : TyOk Tryz.prog 49 ⟨true, 19, [.one (Value.int .i64 0), .many (zeroL Tryz.prog 24) 17, .one (Value.slice none 0 0)], [(0, 1), (1, 17), (18, 1)]⟩ := ⟨by kernel_rfl, by kernel_rfl, by kernel_rfl, by kernel_rfl, ⟨rfl, ⟨OkA.z (by kernel_rfl) (by kernel_rfl), ⟨rfl, trivial⟩⟩⟩, (fun _ => by kernel_rfl), by kernel_rfl⟩
theorem ty_50 : TyOk Tryz.prog 50 ⟨true, 19, [.one (Value.int .i64 0), .many (zeroL Tryz.prog 24) 17, .one (Value.slice none 0 0)], [(0, 1), (1, 17), (18, 1)]⟩ := ⟨by kernel_rfl, by kernel_rfl, by kernel_rfl, by kernel_rfl, ⟨rfl, ⟨OkA.z (by kernel_rfl) (by kernel_rfl), ⟨rfl, trivial⟩⟩⟩, (fun _ => by kernel_rfl), by kernel_rfl⟩
theorem ty_58 : TyOk Tryz.prog 58 ⟨true, 17, [.many (zeroL Tryz.prog 44) 6, .many (zeroL Tryz.prog 44) 6, .one (Value.bool false), .one (Value.int .i64 0), .one (Value.int .i64 0), .one (Value.int .i64 0), .one (Value.string ⟨#[]⟩)], [(0, 6), (6, 6), (12, 1), (13, 1), (14, 1), (15, 1), (16, 1)]⟩ := ⟨by kernel_rfl, by kernel_rfl, by kernel_rfl, by kernel_rfl, ⟨OkA.z (by kernel_rfl) (by kernel_rfl), ⟨OkA.z (by kernel_rfl) (by kernel_rfl), ⟨rfl, ⟨rfl, ⟨rfl, ⟨rfl, ⟨rfl, trivial⟩⟩⟩⟩⟩⟩⟩, (fun _ => by kernel_rfl), by kernel_rfl⟩
theorem ty_59 : TyOk Tryz.prog 59 ⟨true, 17, [.many (zeroL Tryz.prog 44) 6, .many (zeroL Tryz.prog 44) 6, .one (Value.bool false), .one (Value.int .i64 0), .one (Value.int .i64 0), .one (Value.int .i64 0), .one (Value.string ⟨#[]⟩)], [(0, 6), (6, 6), (12, 1), (13, 1), (14, 1), (15, 1), (16, 1)]⟩ := ⟨by kernel_rfl, by kernel_rfl, by kernel_rfl, by kernel_rfl, ⟨OkA.z (by kernel_rfl) (by kernel_rfl), ⟨OkA.z (by kernel_rfl) (by kernel_rfl), ⟨rfl, ⟨rfl, ⟨rfl, ⟨rfl, ⟨rfl, trivial⟩⟩⟩⟩⟩⟩⟩, (fun _ => by kernel_rfl), by kernel_rfl⟩
theorem ty_64 : TyOk Tryz.prog 64 ⟨true, 66, [.many (zeroL Tryz.prog 41) 65, .one (Value.bool false)], [(0, 65), (65, 1)]⟩ := ⟨by kernel_rfl, by kernel_rfl, by kernel_rfl, by kernel_rfl, ⟨OkA.z (by kernel_rfl) (by kernel_rfl), ⟨rfl, trivial⟩⟩, (fun _ => by kernel_rfl), by kernel_rfl⟩
theorem ty_65 : TyOk Tryz.prog 65 ⟨true, 66, [.many (zeroL Tryz.prog 41) 65, .one (Value.bool false)], [(0, 65), (65, 1)]⟩ := ⟨by kernel_rfl, by kernel_rfl, by kernel_rfl, by kernel_rfl, ⟨OkA.z (by kernel_rfl) (by kernel_rfl), ⟨rfl, trivial⟩⟩, (fun _ => by kernel_rfl), by kernel_rfl⟩
theorem ty_73 : TyOk Tryz.prog 73 ⟨true, 40, [.one (Value.int .i64 0), .one (Value.int .i64 0), .one (Value.int .i64 0), .one (Value.int .i64 0), .many (zeroL Tryz.prog 24) 17, .many (zeroL Tryz.prog 24) 17, .one (Value.bool false), .one (Value.string ⟨#[]⟩)], [(0, 1), (1, 1), (2, 1), (3, 1), (4, 17), (21, 17), (38, 1), (39, 1)]⟩ := ⟨by kernel_rfl, by kernel_rfl, by kernel_rfl, by kernel_rfl, ⟨rfl, ⟨rfl, ⟨rfl, ⟨rfl, ⟨OkA.z (by kernel_rfl) (by kernel_rfl), ⟨OkA.z (by kernel_rfl) (by kernel_rfl), ⟨rfl, ⟨rfl, trivial⟩⟩⟩⟩⟩⟩⟩⟩, (fun _ => by kernel_rfl), by kernel_rfl⟩
theorem ty_74 : TyOk Tryz.prog 74 ⟨true, 40, [.one (Value.int .i64 0), .one (Value.int .i64 0), .one (Value.int .i64 0), .one (Value.int .i64 0), .many (zeroL Tryz.prog 24) 17, .many (zeroL Tryz.prog 24) 17, .one (Value.bool false), .one (Value.string ⟨#[]⟩)], [(0, 1), (1, 1), (2, 1), (3, 1), (4, 17), (21, 17), (38, 1), (39, 1)]⟩ := ⟨by kernel_rfl, by kernel_rfl, by kernel_rfl, by kernel_rfl, ⟨rfl, ⟨rfl, ⟨rfl, ⟨rfl, ⟨OkA.z (by kernel_rfl) (by kernel_rfl), ⟨OkA.z (by kernel_rfl) (by kernel_rfl), ⟨rfl, ⟨rfl, trivial⟩⟩⟩⟩⟩⟩⟩⟩, (fun _ => by kernel_rfl), by kernel_rfl⟩
theorem ty_77 : TyOk Tryz.prog 77 ⟨true, 40, [.one (Value.int .i64 0), .one (Value.int .i64 0), .one (Value.int .i64 0), .one (Value.int .i64 0), .many (zeroL Tryz.prog 24) 17, .many (zeroL Tryz.prog 24) 17, .one (Value.bool false), .one (Value.string ⟨#[]⟩)], [(0, 1), (1, 1), (2, 1), (3, 1), (4, 17), (21, 17), (38, 1), (39, 1)]⟩ := ⟨by kernel_rfl, by kernel_rfl, by kernel_rfl, by kernel_rfl, ⟨rfl, ⟨rfl, ⟨rfl, ⟨rfl, ⟨OkA.z (by kernel_rfl) (by kernel_rfl), ⟨OkA.z (by kernel_rfl) (by kernel_rfl), ⟨rfl, ⟨rfl, trivial⟩⟩⟩⟩⟩⟩⟩⟩, (fun _ => by kernel_rfl), by kernel_rfl⟩
theorem ty_78 : TyOk Tryz.prog 78 ⟨true, 40, [.one (Value.int .i64 0), .one (Value.int .i64 0), .one (Value.int .i64 0), .one (Value.int .i64 0), .many (zeroL Tryz.prog 24) 17, .many (zeroL Tryz.prog 24) 17, .one (Value.bool false), .one (Value.string ⟨#[]⟩)], [(0, 1), (1, 1), (2, 1), (3, 1), (4, 17), (21, 17), (38, 1), (39, 1)]⟩ := ⟨by kernel_rfl, by kernel_rfl, by kernel_rfl, by kernel_rfl, ⟨rfl, ⟨rfl, ⟨rfl, ⟨rfl, ⟨OkA.z (by kernel_rfl) (by kernel_rfl), ⟨OkA.z (by kernel_rfl) (by kernel_rfl), ⟨rfl, ⟨rfl, trivial⟩⟩⟩⟩⟩⟩⟩⟩, (fun _ => by kernel_rfl), by kernel_rfl⟩
theorem ty_82 : TyOk Tryz.prog 82 ⟨false, 1, [.one (Value.slice none 0 0)], []⟩ := ⟨by kernel_rfl, by kernel_rfl, by kernel_rfl, by kernel_rfl, ⟨rfl, trivial⟩, (fun h => by cases h), by kernel_rfl⟩
theorem ty_84 : TyOk Tryz.prog 84 ⟨false, 1, [.one (Value.int .u64 0)], []⟩ := ⟨by kernel_rfl, by kernel_rfl, by kernel_rfl, by kernel_rfl, ⟨rfl, trivial⟩, (fun h => by cases h), by kernel_rfl⟩
theorem ty_85 : TyOk Tryz.prog 85 ⟨false, 1, [.one (Value.pointer none)], []⟩ := ⟨by kernel_rfl, by kernel_rfl, by kernel_rfl, by kernel_rfl, ⟨rfl, trivial⟩, (fun h => by cases h), by kernel_rfl⟩
theorem ty_88 : TyOk Tryz.prog 88 ⟨false, 1, [.one (Value.int .u64 0)], []⟩ := ⟨by kernel_rfl, by kernel_rfl, by kernel_rfl, by kernel_rfl, ⟨rfl, trivial⟩, (fun h => by cases h), by kernel_rfl⟩
theorem ty_96 : TyOk Tryz.prog 96 ⟨false, 1, [.one (Value.pointer none)], []⟩ := ⟨by kernel_rfl, by kernel_rfl, by kernel_rfl, by kernel_rfl, ⟨rfl, trivial⟩, (fun h => by cases h), by kernel_rfl⟩
theorem ty_116 : TyOk Tryz.prog 116 ⟨true, 3, [.one (Value.string ⟨#[]⟩), .one (Value.int .i64 0), .one (Value.bool false)], [(0, 1), (1, 1), (2, 1)]⟩ := ⟨by kernel_rfl, by kernel_rfl, by kernel_rfl, by kernel_rfl, ⟨rfl, ⟨rfl, ⟨rfl, trivial⟩⟩⟩, (fun _ => by kernel_rfl), by kernel_rfl⟩
theorem ty_117 : TyOk Tryz.prog 117 ⟨true, 3, [.one (Value.string ⟨#[]⟩), .one (Value.int .i64 0), .one (Value.bool false)], [(0, 1), (1, 1), (2, 1)]⟩ := ⟨by kernel_rfl, by kernel_rfl, by kernel_rfl, by kernel_rfl, ⟨rfl, ⟨rfl, ⟨rfl, trivial⟩⟩⟩, (fun _ => by kernel_rfl), by kernel_rfl⟩
theorem ty_132 : TyOk Tryz.prog 132 ⟨false, 1, [.one (Value.slice none 0 0)], []⟩ := ⟨by kernel_rfl, by kernel_rfl, by kernel_rfl, by kernel_rfl, ⟨rfl, trivial⟩, (fun h => by cases h), by kernel_rfl⟩
theorem ty_143 : TyOk Tryz.prog 143 ⟨false, 1, [.one (Value.pointer none)], []⟩ := ⟨by kernel_rfl, by kernel_rfl, by kernel_rfl, by kernel_rfl, ⟨rfl, trivial⟩, (fun h => by cases h), by kernel_rfl⟩
theorem ty_144 : TyOk Tryz.prog 144 ⟨true, 28, [.one (Value.pointer none), .many (zeroL Tryz.prog 28) 26, .one (Value.int .i64 0)], [(0, 1), (1, 26), (27, 1)]⟩ := ⟨by kernel_rfl, by kernel_rfl, by kernel_rfl, by kernel_rfl, ⟨rfl, ⟨OkA.z (by kernel_rfl) (by kernel_rfl), ⟨rfl, trivial⟩⟩⟩, (fun _ => by kernel_rfl), by kernel_rfl⟩
theorem ty_145 : TyOk Tryz.prog 145 ⟨true, 28, [.one (Value.pointer none), .many (zeroL Tryz.prog 28) 26, .one (Value.int .i64 0)], [(0, 1), (1, 26), (27, 1)]⟩ := ⟨by kernel_rfl, by kernel_rfl, by kernel_rfl, by kernel_rfl, ⟨rfl, ⟨OkA.z (by kernel_rfl) (by kernel_rfl), ⟨rfl, trivial⟩⟩⟩, (fun _ => by kernel_rfl), by kernel_rfl⟩
theorem ty_147 : TyOk Tryz.prog 147 ⟨false, 1, [.one (Value.pointer none)], []⟩ := ⟨by kernel_rfl, by kernel_rfl, by kernel_rfl, by kernel_rfl, ⟨rfl, trivial⟩, (fun h => by cases h), by kernel_rfl⟩
theorem ty_148 : TyOk Tryz.prog 148 ⟨true, 2, [.one (Value.pointer none), .one (Value.int .i64 0)], [(0, 1), (1, 1)]⟩ := ⟨by kernel_rfl, by kernel_rfl, by kernel_rfl, by kernel_rfl, ⟨rfl, ⟨rfl, trivial⟩⟩, (fun _ => by kernel_rfl), by kernel_rfl⟩
theorem ty_149 : TyOk Tryz.prog 149 ⟨true, 2, [.one (Value.pointer none), .one (Value.int .i64 0)], [(0, 1), (1, 1)]⟩ := ⟨by kernel_rfl, by kernel_rfl, by kernel_rfl, by kernel_rfl, ⟨rfl, ⟨rfl, trivial⟩⟩, (fun _ => by kernel_rfl), by kernel_rfl⟩
theorem ty_152 : TyOk Tryz.prog 152 ⟨false, 1, [.one (Value.pointer none)], []⟩ := ⟨by kernel_rfl, by kernel_rfl, by kernel_rfl, by kernel_rfl, ⟨rfl, trivial⟩, (fun h => by cases h), by kernel_rfl⟩
theorem ty_155 : TyOk Tryz.prog 155 ⟨true, 2, [.one (Value.int .u64 0), .one (Value.int .i64 0)], [(0, 1), (1, 1)]⟩ := ⟨by kernel_rfl, by kernel_rfl, by kernel_rfl, by kernel_rfl, ⟨rfl, ⟨rfl, trivial⟩⟩, (fun _ => by kernel_rfl), by kernel_rfl⟩
theorem ty_156 : TyOk Tryz.prog 156 ⟨true, 2, [.one (Value.int .u64 0), .one (Value.int .i64 0)], [(0, 1), (1, 1)]⟩ := ⟨by kernel_rfl, by kernel_rfl, by kernel_rfl, by kernel_rfl, ⟨rfl, ⟨rfl, trivial⟩⟩, (fun _ => by kernel_rfl), by kernel_rfl⟩
theorem ty_161 : TyOk Tryz.prog 161 ⟨false, 1, [.one (Value.slice none 0 0)], []⟩ := ⟨by kernel_rfl, by kernel_rfl, by kernel_rfl, by kernel_rfl, ⟨rfl, trivial⟩, (fun h => by cases h), by kernel_rfl⟩
theorem ty_168 : TyOk Tryz.prog 168 ⟨false, 1, [.one (Value.int .u32 0)], []⟩ := ⟨by kernel_rfl, by kernel_rfl, by kernel_rfl, by kernel_rfl, ⟨rfl, trivial⟩, (fun h => by cases h), by kernel_rfl⟩
theorem ty_170 : TyOk Tryz.prog 170 ⟨true, 4, [.one (Value.pointer none), .one (Value.pointer none), .one (Value.pointer none), .one (Value.string ⟨#[]⟩)], [(0, 1), (1, 1), (2, 1), (3, 1)]⟩ := ⟨by kernel_rfl, by kernel_rfl, by kernel_rfl, by kernel_rfl, ⟨rfl, ⟨rfl, ⟨rfl, ⟨rfl, trivial⟩⟩⟩⟩, (fun _ => by kernel_rfl), by kernel_rfl⟩
theorem ty_171 : TyOk Tryz.prog 171 ⟨true, 4, [.one (Value.pointer none), .one (Value.pointer none), .one (Value.pointer none), .one (Value.string ⟨#[]⟩)], [(0, 1), (1, 1), (2, 1), (3, 1)]⟩ := ⟨by kernel_rfl, by kernel_rfl, by kernel_rfl, by kernel_rfl, ⟨rfl, ⟨rfl, ⟨rfl, ⟨rfl, trivial⟩⟩⟩⟩, (fun _ => by kernel_rfl), by kernel_rfl⟩
theorem ty_175 : TyOk Tryz.prog 175 ⟨false, 1, [.one (Value.int .u8 0)], []⟩ := ⟨by kernel_rfl, by kernel_rfl, by kernel_rfl, by kernel_rfl, ⟨rfl, trivial⟩, (fun h => by cases h), by kernel_rfl⟩
theorem ty_176 : TyOk Tryz.prog 176 ⟨false, 1, [.one (Value.int .u8 0)], []⟩ := ⟨by kernel_rfl, by kernel_rfl, by kernel_rfl, by kernel_rfl, ⟨rfl, trivial⟩, (fun h => by cases h), by kernel_rfl⟩
theorem ty_178 : TyOk Tryz.prog 178 ⟨false, 1, [.one (Value.pointer none)], []⟩ := ⟨by kernel_rfl, by kernel_rfl, by kernel_rfl, by kernel_rfl, ⟨rfl, trivial⟩, (fun h => by cases h), by kernel_rfl⟩
def tab (P : Program) : Tab := [(2, ⟨false, 1, [.one (Value.int .i64 0)], []⟩),
  (3, ⟨false, 1, [.one (Value.int .i64 0)], []⟩),
  (4, ⟨false, 1, [.one (Value.bool false)], []⟩),
  (5, ⟨false, 1, [.one (Value.int .u8 0)], []⟩),
  (6, ⟨false, 1, [.one (Value.int .u8 0)], []⟩),
  (7, ⟨true, 4, [.one (Value.int .i64 0), .one (Value.int .i64 0), .one (Value.bool false), .one (Value.int .u8 0)], [(0, 1), (1, 1), (2, 1), (3, 1)]⟩),
  (8, ⟨true, 4, [.one (Value.int .i64 0), .one (Value.int .i64 0), .one (Value.bool false), .one (Value.int .u8 0)], [(0, 1), (1, 1), (2, 1), (3, 1)]⟩),
  (9, ⟨false, 1, [.one (Value.string ⟨#[]⟩)], []⟩),
  (10, ⟨false, 1, [.one (Value.string ⟨#[]⟩)], []⟩),
  (11, ⟨false, 1, [.one (Value.string ⟨#[]⟩)], []⟩),
  (12, ⟨false, 1, [.one (Value.int .u64 0)], []⟩),
  (13, ⟨true, 2, [.one (Value.string ⟨#[]⟩), .one (Value.int .u64 0)], [(0, 1), (1, 1)]⟩),
  (14, ⟨true, 2, [.one (Value.string ⟨#[]⟩), .one (Value.int .u64 0)], [(0, 1), (1, 1)]⟩),
  (15, ⟨false, 1, [.one (Value.pointer none)], []⟩),
  (16, ⟨false, 1, [.one (Value.pointer none)], []⟩),
  (17, ⟨false, 1, [.one (Value.pointer none)], []⟩),
  (18, ⟨true, 1, [.one (Value.pointer none)], [(0, 1)]⟩),
  (19, ⟨true, 1, [.one (Value.pointer none)], [(0, 1)]⟩),
  (22, ⟨true, 16, [.one (Value.int .u8 0), .one (Value.int .u8 0), .one (Value.int .u8 0), .one (Value.int .u8 0), .one (Value.int .u8 0), .one (Value.int .u8 0), .one (Value.int .u8 0), .one (Value.int .u8 0), .one (Value.int .u8 0), .one (Value.int .u8 0), .one (Value.int .u8 0), .one (Value.int .u8 0), .one (Value.int .u8 0), .one (Value.int .u8 0), .one (Value.int .u8 0), .one (Value.int .u8 0)], [(0, 1), (1, 1), (2, 1), (3, 1), (4, 1), (5, 1), (6, 1), (7, 1), (8, 1), (9, 1), (10, 1), (11, 1), (12, 1), (13, 1), (14, 1), (15, 1)]⟩),
  (23, ⟨true, 17, [.one (Value.bool false), .many (zeroL P 22) 16], [(0, 1), (1, 16)]⟩),
  (24, ⟨true, 17, [.one (Value.bool false), .many (zeroL P 22) 16], [(0, 1), (1, 16)]⟩),
  (25, ⟨false, 1, [.one (Value.slice none 0 0)], []⟩),
  (26, ⟨false, 1, [.one (Value.slice none 0 0)], []⟩),
  (27, ⟨true, 26, [.one (Value.bool false), .one (Value.int .i64 0), .one (Value.int .i64 0), .one (Value.int .i64 0), .many (zeroL P 24) 17, .one (Value.bool false), .one (Value.int .i64 0), .one (Value.int .i64 0), .one (Value.slice none 0 0), .one (Value.slice none 0 0)], [(0, 1), (1, 1), (2, 1), (3, 1), (4, 17), (21, 1), (22, 1), (23, 1), (24, 1), (25, 1)]⟩),
  (28, ⟨true, 26, [.one (Value.bool false), .one (Value.int .i64 0), .one (Value.int .i64 0), .one (Value.int .i64 0), .many (zeroL P 24) 17, .one (Value.bool false), .one (Value.int .i64 0), .one (Value.int .i64 0), .one (Value.slice none 0 0), .one (Value.slice none 0 0)], [(0, 1), (1, 1), (2, 1), (3, 1), (4, 17), (21, 1), (22, 1), (23, 1), (24, 1), (25, 1)]⟩),
  (37, ⟨false, 1, [.one (Value.int .i64 0)], []⟩),
  (40, ⟨true, 65, [.one (Value.int .i64 0), .one (Value.int .i64 0), .many (zeroL P 24) 17, .many (zeroL P 24) 17, .many (zeroL P 28) 26, .one (Value.int .i64 0), .one (Value.int .i64 0), .one (Value.string ⟨#[]⟩)], [(0, 1), (1, 1), (2, 17), (19, 17), (36, 26), (62, 1), (63, 1), (64, 1)]⟩),
  (41, ⟨true, 65, [.one (Value.int .i64 0), .one (Value.int .i64 0), .many (zeroL P 24) 17, .many (zeroL P 24) 17, .many (zeroL P 28) 26, .one (Value.int .i64 0), .one (Value.int .i64 0), .one (Value.string ⟨#[]⟩)], [(0, 1), (1, 1), (2, 17), (19, 17), (36, 26), (62, 1), (63, 1), (64, 1)]⟩),
  (43, ⟨true, 6, [.one (Value.int .u8 0), .one (Value.int .u8 0), .one (Value.int .u8 0), .one (Value.int .u8 0), .one (Value.int .u8 0), .one (Value.int .u8 0)], [(0, 1), (1, 1), (2, 1), (3, 1), (4, 1), (5, 1)]⟩),
  (44, ⟨true, 6, [.one (Value.int .u8 0), .one (Value.int .u8 0), .one (Value.int .u8 0), .one (Value.int .u8 0), .one (Value.int .u8 0), .one (Value.int .u8 0)], [(0, 1), (1, 1), (2, 1), (3, 1), (4, 1), (5, 1)]⟩),
  (49, ⟨true, 19, [.one (Value.int .i64 0), .many (zeroL P 24) 17, .one (Value.slice none 0 0)], [(0, 1), (1, 17), (18, 1)]⟩),
  (50, ⟨true, 19, [.one (Value.int .i64 0), .many (zeroL P 24) 17, .one (Value.slice none 0 0)], [(0, 1), (1, 17), (18, 1)]⟩),
  (58, ⟨true, 17, [.many (zeroL P 44) 6, .many (zeroL P 44) 6, .one (Value.bool false), .one (Value.int .i64 0), .one (Value.int .i64 0), .one (Value.int .i64 0), .one (Value.string ⟨#[]⟩)], [(0, 6), (6, 6), (12, 1), (13, 1), (14, 1), (15, 1), (16, 1)]⟩),
  (59, ⟨true, 17, [.many (zeroL P 44) 6, .many (zeroL P 44) 6, .one (Value.bool false), .one (Value.int .i64 0), .one (Value.int .i64 0), .one (Value.int .i64 0), .one (Value.string ⟨#[]⟩)], [(0, 6), (6, 6), (12, 1), (13, 1), (14, 1), (15, 1), (16, 1)]⟩),
  (64, ⟨true, 66, [.many (zeroL P 41) 65, .one (Value.bool false)], [(0, 65), (65, 1)]⟩),
  (65, ⟨true, 66, [.many (zeroL P 41) 65, .one (Value.bool false)], [(0, 65), (65, 1)]⟩),
  (73, ⟨true, 40, [.one (Value.int .i64 0), .one (Value.int .i64 0), .one (Value.int .i64 0), .one (Value.int .i64 0), .many (zeroL P 24) 17, .many (zeroL P 24) 17, .one (Value.bool false), .one (Value.string ⟨#[]⟩)], [(0, 1), (1, 1), (2, 1), (3, 1), (4, 17), (21, 17), (38, 1), (39, 1)]⟩),
  (74, ⟨true, 40, [.one (Value.int .i64 0), .one (Value.int .i64 0), .one (Value.int .i64 0), .one (Value.int .i64 0), .many (zeroL P 24) 17, .many (zeroL P 24) 17, .one (Value.bool false), .one (Value.string ⟨#[]⟩)], [(0, 1), (1, 1), (2, 1), (3, 1), (4, 17), (21, 17), (38, 1), (39, 1)]⟩),
  (77, ⟨true, 40, [.one (Value.int .i64 0), .one (Value.int .i64 0), .one (Value.int .i64 0), .one (Value.int .i64 0), .many (zeroL P 24) 17, .many (zeroL P 24) 17, .one (Value.bool false), .one (Value.string ⟨#[]⟩)], [(0, 1), (1, 1), (2, 1), (3, 1), (4, 17), (21, 17), (38, 1), (39, 1)]⟩),
  (78, ⟨true, 40, [.one (Value.int .i64 0), .one (Value.int .i64 0), .one (Value.int .i64 0), .one (Value.int .i64 0), .many (zeroL P 24) 17, .many (zeroL P 24) 17, .one (Value.bool false), .one (Value.string ⟨#[]⟩)], [(0, 1), (1, 1), (2, 1), (3, 1), (4, 17), (21, 17), (38, 1), (39, 1)]⟩),
  (82, ⟨false, 1, [.one (Value.slice none 0 0)], []⟩),
  (84, ⟨false, 1, [.one (Value.int .u64 0)], []⟩),
  (85, ⟨false, 1, [.one (Value.pointer none)], []⟩),
  (88, ⟨false, 1, [.one (Value.int .u64 0)], []⟩),
  (96, ⟨false, 1, [.one (Value.pointer none)], []⟩),
  (116, ⟨true, 3, [.one (Value.string ⟨#[]⟩), .one (Value.int .i64 0), .one (Value.bool false)], [(0, 1), (1, 1), (2, 1)]⟩),
  (117, ⟨true, 3, [.one (Value.string ⟨#[]⟩), .one (Value.int .i64 0), .one (Value.bool false)], [(0, 1), (1, 1), (2, 1)]⟩),
  (132, ⟨false, 1, [.one (Value.slice none 0 0)], []⟩),
  (143, ⟨false, 1, [.one (Value.pointer none)], []⟩),
  (144, ⟨true, 28, [.one (Value.pointer none), .many (zeroL P 28) 26, .one (Value.int .i64 0)], [(0, 1), (1, 26), (27, 1)]⟩),
  (145, ⟨true, 28, [.one (Value.pointer none), .many (zeroL P 28) 26, .one (Value.int .i64 0)], [(0, 1), (1, 26), (27, 1)]⟩),
  (147, ⟨false, 1, [.one (Value.pointer none)], []⟩),
  (148, ⟨true, 2, [.one (Value.pointer none), .one (Value.int .i64 0)], [(0, 1), (1, 1)]⟩),
  (149, ⟨true, 2, [.one (Value.pointer none), .one (Value.int .i64 0)], [(0, 1), (1, 1)]⟩),
  (152, ⟨false, 1, [.one (Value.pointer none)], []⟩),
  (155, ⟨true, 2, [.one (Value.int .u64 0), .one (Value.int .i64 0)], [(0, 1), (1, 1)]⟩),
  (156, ⟨true, 2, [.one (Value.int .u64 0), .one (Value.int .i64 0)], [(0, 1), (1, 1)]⟩),
  (161, ⟨false, 1, [.one (Value.slice none 0 0)], []⟩),
  (168, ⟨false, 1, [.one (Value.int .u32 0)], []⟩),
  (170, ⟨true, 4, [.one (Value.pointer none), .one (Value.pointer none), .one (Value.pointer none), .one (Value.string ⟨#[]⟩)], [(0, 1), (1, 1), (2, 1), (3, 1)]⟩),
  (171, ⟨true, 4, [.one (Value.pointer none), .one (Value.pointer none), .one (Value.pointer none), .one (Value.string ⟨#[]⟩)], [(0, 1), (1, 1), (2, 1), (3, 1)]⟩),
  (175, ⟨false, 1, [.one (Value.int .u8 0)], []⟩),
  (176, ⟨false, 1, [.one (Value.int .u8 0)], []⟩),
  (178, ⟨false, 1, [.one (Value.pointer none)], []⟩)]
theorem tab_ok : TabOk Tryz.prog (tab Tryz.prog) := by
  intro p hp
  unfold tab at hp
  rcases List.mem_cons.1 hp with rfl | hp
  · exact ty_2
  rcases List.mem_cons.1 hp with rfl | hp
  · exact ty_3
  rcases List.mem_cons.1 hp with rfl | hp
  · exact ty_4
  rcases List.mem_cons.1 hp with rfl | hp
  · exact ty_5
  rcases List.mem_cons.1 hp with rfl | hp
  · exact ty_6
  rcases List.mem_cons.1 hp with rfl | hp
  · exact ty_7
  rcases List.mem_cons.1 hp with rfl | hp
  · exact ty_8
  rcases List.mem_cons.1 hp with rfl | hp
  · exact ty_9
  rcases List.mem_cons.1 hp with rfl | hp
  · exact ty_10
  rcases List.mem_cons.1 hp with rfl | hp
  · exact ty_11
  rcases List.mem_cons.1 hp with rfl | hp
  · exact ty_12
  rcases List.mem_cons.1 hp with rfl | hp
  · exact ty_13
  rcases List.mem_cons.1 hp with rfl | hp
  · exact ty_14
  rcases List.mem_cons.1 hp with rfl | hp
  · exact ty_15
  rcases List.mem_cons.1 hp with rfl | hp
  · exact ty_16
  rcases List.mem_cons.1 hp with rfl | hp
  · exact ty_17
  rcases List.mem_cons.1 hp with rfl | hp
  · exact ty_18
  rcases List.mem_cons.1 hp with rfl | hp
  · exact ty_19
  rcases List.mem_cons.1 hp with rfl | hp
  · exact ty_22
  rcases List.mem_cons.1 hp with rfl | hp
  · exact ty_23
  rcases List.mem_cons.1 hp with rfl | hp
  · exact ty_24
  rcases List.mem_cons.1 hp with rfl | hp
  · exact ty_25
  rcases List.mem_cons.1 hp with rfl | hp
  · exact ty_26
  rcases List.mem_cons.1 hp with rfl | hp
  · exact ty_27
  rcases List.mem_cons.1 hp with rfl | hp
  · exact ty_28
  rcases List.mem_cons.1 hp with rfl | hp
  · exact ty_37
  rcases List.mem_cons.1 hp with rfl | hp
  · exact ty_40
  rcases List.mem_cons.1 hp with rfl | hp
  · exact ty_41
  rcases List.mem_cons.1 hp with rfl | hp
  · exact ty_43
  rcases List.mem_cons.1 hp with rfl | hp
  · exact ty_44
  rcases List.mem_cons.1 hp with rfl | hp
  · exact ty_49
  rcases List.mem_cons.1 hp with rfl | hp
  · exact ty_50
  rcases List.mem_cons.1 hp with rfl | hp
  · exact ty_58
  rcases List.mem_cons.1 hp with rfl | hp
  · exact ty_59
  rcases List.mem_cons.1 hp with rfl | hp
  · exact ty_64
  rcases List.mem_cons.1 hp with rfl | hp
  · exact ty_65
  rcases List.mem_cons.1 hp with rfl | hp
  · exact ty_73
  rcases List.mem_cons.1 hp with rfl | hp
  · exact ty_74
  rcases List.mem_cons.1 hp with rfl | hp
  · exact ty_77
  rcases List.mem_cons.1 hp with rfl | hp
  · exact ty_78
  rcases List.mem_cons.1 hp with rfl | hp
  · exact ty_82
  rcases List.mem_cons.1 hp with rfl | hp
  · exact ty_84
  rcases List.mem_cons.1 hp with rfl | hp
  · exact ty_85
  rcases List.mem_cons.1 hp with rfl | hp
  · exact ty_88
  rcases List.mem_cons.1 hp with rfl | hp
  · exact ty_96
  rcases List.mem_cons.1 hp with rfl | hp
  · exact ty_116
  rcases List.mem_cons.1 hp with rfl | hp
  · exact ty_117
  rcases List.mem_cons.1 hp with rfl | hp
  · exact ty_132
  rcases List.mem_cons.1 hp with rfl | hp
  · exact ty_143
  rcases List.mem_cons.1 hp with rfl | hp
  · exact ty_144
  rcases List.mem_cons.1 hp with rfl | hp
  · exact ty_145
  rcases List.mem_cons.1 hp with rfl | hp
  · exact ty_147
  rcases List.mem_cons.1 hp with rfl | hp
  · exact ty_148
  rcases List.mem_cons.1 hp with rfl | hp
  · exact ty_149
  rcases List.mem_cons.1 hp with rfl | hp
  · exact ty_152
  rcases List.mem_cons.1 hp with rfl | hp
  · exact ty_155
  rcases List.mem_cons.1 hp with rfl | hp
  · exact ty_156
  rcases List.mem_cons.1 hp with rfl | hp
  · exact ty_161
  rcases List.mem_cons.1 hp with rfl | hp
  · exact ty_168
  rcases List.mem_cons.1 hp with rfl | hp
  · exact ty_170
  rcases List.mem_cons.1 hp with rfl | hp
  · exact ty_171
  rcases List.mem_cons.1 hp with rfl | hp
  · exact ty_175
  rcases List.mem_cons.1 hp with rfl | hp
  · exact ty_176
  rcases List.mem_cons.1 hp with rfl | hp
  · exact ty_178
  exact absurd hp (by simp)
end Go.Proofs.YtnobencogihbnaaGreat

/-
  The types of the seat's program, as a table: kinds, sizes, zeros, places.
-/
import Derived.Test.YtdjbpamigkpbeaaSg
import Derived.Test.YtdjbpamigkpbeaaRows
namespace Go.Proofs.Ytdjbpamigkpbeaa
set_option linter.unusedVariables false

theorem ty_2 : TyOk Try.prog 2 ⟨false, 1, [.one (Value.int .i64 0)], []⟩ := ⟨by kernel_rfl, by kernel_rfl, by kernel_rfl, by kernel_rfl, ⟨rfl, trivial⟩, (fun h => by cases h), by kernel_rfl⟩
theorem ty_3 : TyOk Try.prog 3 ⟨false, 1, [.one (Value.int .i64 0)], []⟩ := ⟨by kernel_rfl, by kernel_rfl, by kernel_rfl, by kernel_rfl, ⟨rfl, trivial⟩, (fun h => by cases h), by kernel_rfl⟩
theorem ty_4 : TyOk Try.prog 4 ⟨false, 1, [.one (Value.bool false)], []⟩ := ⟨by kernel_rfl, by kernel_rfl, by kernel_rfl, by kernel_rfl, ⟨rfl, trivial⟩, (fun h => by cases h), by kernel_rfl⟩
theorem ty_5 : TyOk Try.prog 5 ⟨false, 1, [.one (Value.int .u8 0)], []⟩ := ⟨by kernel_rfl, by kernel_rfl, by kernel_rfl, by kernel_rfl, ⟨rfl, trivial⟩, (fun h => by cases h), by kernel_rfl⟩
theorem ty_6 : TyOk Try.prog 6 ⟨false, 1, [.one (Value.int .u8 0)], []⟩ := ⟨by kernel_rfl, by kernel_rfl, by kernel_rfl, by kernel_rfl, ⟨rfl, trivial⟩, (fun h => by cases h), by kernel_rfl⟩
theorem ty_7 : TyOk Try.prog 7 ⟨true, 4, [.one (Value.int .i64 0), .one (Value.int .i64 0), .one (Value.bool false), .one (Value.int .u8 0)], [(0, 1), (1, 1), (2, 1), (3, 1)]⟩ := ⟨by kernel_rfl, by kernel_rfl, by kernel_rfl, by kernel_rfl, ⟨rfl, ⟨rfl, ⟨rfl, ⟨rfl, trivial⟩⟩⟩⟩, (fun _ => by kernel_rfl), by kernel_rfl⟩
theorem ty_8 : TyOk Try.prog 8 ⟨true, 4, [.one (Value.int .i64 0), .one (Value.int .i64 0), .one (Value.bool false), .one (Value.int .u8 0)], [(0, 1), (1, 1), (2, 1), (3, 1)]⟩ := ⟨by kernel_rfl, by kernel_rfl, by kernel_rfl, by kernel_rfl, ⟨rfl, ⟨rfl, ⟨rfl, ⟨rfl, trivial⟩⟩⟩⟩, (fun _ => by kernel_rfl), by kernel_rfl⟩
theorem ty_9 : TyOk Try.prog 9 ⟨false, 1, [.one (Value.string ⟨#[]⟩)], []⟩ := ⟨by kernel_rfl, by kernel_rfl, by kernel_rfl, by kernel_rfl, ⟨rfl, trivial⟩, (fun h => by cases h), by kernel_rfl⟩
theorem ty_10 : TyOk Try.prog 10 ⟨false, 1, [.one (Value.string ⟨#[]⟩)], []⟩ := ⟨by kernel_rfl, by kernel_rfl, by kernel_rfl, by kernel_rfl, ⟨rfl, trivial⟩, (fun h => by cases h), by kernel_rfl⟩
theorem ty_11 : TyOk Try.prog 11 ⟨false, 1, [.one (Value.string ⟨#[]⟩)], []⟩ := ⟨by kernel_rfl, by kernel_rfl, by kernel_rfl, by kernel_rfl, ⟨rfl, trivial⟩, (fun h => by cases h), by kernel_rfl⟩
theorem ty_12 : TyOk Try.prog 12 ⟨false, 1, [.one (Value.int .u64 0)], []⟩ := ⟨by kernel_rfl, by kernel_rfl, by kernel_rfl, by kernel_rfl, ⟨rfl, trivial⟩, (fun h => by cases h), by kernel_rfl⟩
theorem ty_13 : TyOk Try.prog 13 ⟨true, 2, [.one (Value.string ⟨#[]⟩), .one (Value.int .u64 0)], [(0, 1), (1, 1)]⟩ := ⟨by kernel_rfl, by kernel_rfl, by kernel_rfl, by kernel_rfl, ⟨rfl, ⟨rfl, trivial⟩⟩, (fun _ => by kernel_rfl), by kernel_rfl⟩
theorem ty_14 : TyOk Try.prog 14 ⟨true, 2, [.one (Value.string ⟨#[]⟩), .one (Value.int .u64 0)], [(0, 1), (1, 1)]⟩ := ⟨by kernel_rfl, by kernel_rfl, by kernel_rfl, by kernel_rfl, ⟨rfl, ⟨rfl, trivial⟩⟩, (fun _ => by kernel_rfl), by kernel_rfl⟩
theorem ty_15 : TyOk Try.prog 15 ⟨false, 1, [.one (Value.pointer none)], []⟩ := ⟨by kernel_rfl, by kernel_rfl, by kernel_rfl, by kernel_rfl, ⟨rfl, trivial⟩, (fun h => by cases h), by kernel_rfl⟩
theorem ty_16 : TyOk Try.prog 16 ⟨false, 1, [.one (Value.pointer none)], []⟩ := ⟨by kernel_rfl, by kernel_rfl, by kernel_rfl, by kernel_rfl, ⟨rfl, trivial⟩, (fun h => by cases h), by kernel_rfl⟩
theorem ty_17 : TyOk Try.prog 17 ⟨false, 1, [.one (Value.pointer none)], []⟩ := ⟨by kernel_rfl, by kernel_rfl, by kernel_rfl, by kernel_rfl, ⟨rfl, trivial⟩, (fun h => by cases h), by kernel_rfl⟩
theorem ty_18 : TyOk Try.prog 18 ⟨true, 1, [.one (Value.pointer none)], [(0, 1)]⟩ := ⟨by kernel_rfl, by kernel_rfl, by kernel_rfl, by kernel_rfl, ⟨rfl, trivial⟩, (fun _ => by kernel_rfl), by kernel_rfl⟩
theorem ty_19 : TyOk Try.prog 19 ⟨true, 1, [.one (Value.pointer none)], [(0, 1)]⟩ := ⟨by kernel_rfl, by kernel_rfl, by kernel_rfl, by kernel_rfl, ⟨rfl, trivial⟩, (fun _ => by kernel_rfl), by kernel_rfl⟩
theorem ty_22 : TyOk Try.prog 22 ⟨true, 5, [.one (Value.int .i64 0), .one (Value.int .i64 0), .one (Value.int .i64 0), .one (Value.int .i64 0), .one (Value.int .i64 0)], [(0, 1), (1, 1), (2, 1), (3, 1), (4, 1)]⟩ := ⟨by kernel_rfl, by kernel_rfl, by kernel_rfl, by kernel_rfl, ⟨rfl, ⟨rfl, ⟨rfl, ⟨rfl, ⟨rfl, trivial⟩⟩⟩⟩⟩, (fun _ => by kernel_rfl), by kernel_rfl⟩
theorem ty_23 : TyOk Try.prog 23 ⟨true, 5, [.one (Value.int .i64 0), .one (Value.int .i64 0), .one (Value.int .i64 0), .one (Value.int .i64 0), .one (Value.int .i64 0)], [(0, 1), (1, 1), (2, 1), (3, 1), (4, 1)]⟩ := ⟨by kernel_rfl, by kernel_rfl, by kernel_rfl, by kernel_rfl, ⟨rfl, ⟨rfl, ⟨rfl, ⟨rfl, ⟨rfl, trivial⟩⟩⟩⟩⟩, (fun _ => by kernel_rfl), by kernel_rfl⟩
theorem ty_29 : TyOk Try.prog 29 ⟨true, 16, [.one (Value.int .u8 0), .one (Value.int .u8 0), .one (Value.int .u8 0), .one (Value.int .u8 0), .one (Value.int .u8 0), .one (Value.int .u8 0), .one (Value.int .u8 0), .one (Value.int .u8 0), .one (Value.int .u8 0), .one (Value.int .u8 0), .one (Value.int .u8 0), .one (Value.int .u8 0), .one (Value.int .u8 0), .one (Value.int .u8 0), .one (Value.int .u8 0), .one (Value.int .u8 0)], [(0, 1), (1, 1), (2, 1), (3, 1), (4, 1), (5, 1), (6, 1), (7, 1), (8, 1), (9, 1), (10, 1), (11, 1), (12, 1), (13, 1), (14, 1), (15, 1)]⟩ := ⟨by kernel_rfl, by kernel_rfl, by kernel_rfl, by kernel_rfl, ⟨rfl, ⟨rfl, ⟨rfl, ⟨rfl, ⟨rfl, ⟨rfl, ⟨rfl, ⟨rfl, ⟨rfl, ⟨rfl, ⟨rfl, ⟨rfl, ⟨rfl, ⟨rfl, ⟨rfl, ⟨rfl, trivial⟩⟩⟩⟩⟩⟩⟩⟩⟩⟩⟩⟩⟩⟩⟩⟩, (fun _ => by kernel_rfl), by kernel_rfl⟩
theorem ty_30 : TyOk Try.prog 30 ⟨true, 17, [.one (Value.bool false), .many (zeroL Try.prog 29) 16], [(0, 1), (1, 16)]⟩ := ⟨by kernel_rfl, by kernel_rfl, by kernel_rfl, by kernel_rfl, ⟨rfl, ⟨OkA.z (by kernel_rfl) (by kernel_rfl), trivial⟩⟩, (fun _ => by kernel_rfl), by kernel_rfl⟩
theorem ty_31 : TyOk Try.prog 31 ⟨true, 17, [.one (Value.bool false), .many (zeroL Try.prog 29) 16], [(0, 1), (1, 16)]⟩ := ⟨by kernel_rfl, by kernel_rfl, by kernel_rfl, by kernel_rfl, ⟨rfl, ⟨OkA.z (by kernel_rfl) (by kernel_rfl), trivial⟩⟩, (fun _ => by kernel_rfl), by kernel_rfl⟩
theorem ty_32 : TyOk Try.prog 32 ⟨false, 1, [.one (Value.slice none 0 0)], []⟩ := ⟨by kernel_rfl, by kernel_rfl, by kernel_rfl, by kernel_rfl, ⟨rfl, trivial⟩, (fun h => by cases h), by kernel_rfl⟩
theorem ty_33 : TyOk Try.prog 33 ⟨false, 1, [.one (Value.slice none 0 0)], []⟩ := ⟨by kernel_rfl, by kernel_rfl, by kernel_rfl, by kernel_rfl, ⟨rfl, trivial⟩, (fun h => by cases h), by kernel_rfl⟩
theorem ty_34 : TyOk Try.prog 34 ⟨true, 26, [.one (Value.bool false), .one (Value.int .i64 0), .one (Value.int .i64 0), .one (Value.int .i64 0), .many (zeroL Try.prog 31) 17, .one (Value.bool false), .one (Value.int .i64 0), .one (Value.int .i64 0), .one (Value.slice none 0 0), .one (Value.slice none 0 0)], [(0, 1), (1, 1), (2, 1), (3, 1), (4, 17), (21, 1), (22, 1), (23, 1), (24, 1), (25, 1)]⟩ := ⟨by kernel_rfl, by kernel_rfl, by kernel_rfl, by kernel_rfl, ⟨rfl, ⟨rfl, ⟨rfl, ⟨rfl, ⟨OkA.z (by kernel_rfl) (by kernel_rfl), ⟨rfl, ⟨rfl, ⟨rfl, ⟨rfl, ⟨rfl, trivial⟩⟩⟩⟩⟩⟩⟩⟩⟩⟩, (fun _ => by kernel_rfl), by kernel_rfl⟩
theorem ty_35 : TyOk Try.prog 35 ⟨true, 26, [.one (Value.bool false), .one (Value.int .i64 0), .one (Value.int .i64 0), .one (Value.int .i64 0), .many (zeroL Try.prog 31) 17, .one (Value.bool false), .one (Value.int .i64 0), .one (Value.int .i64 0), .one (Value.slice none 0 0), .one (Value.slice none 0 0)], [(0, 1), (1, 1), (2, 1), (3, 1), (4, 17), (21, 1), (22, 1), (23, 1), (24, 1), (25, 1)]⟩ := ⟨by kernel_rfl, by kernel_rfl, by kernel_rfl, by kernel_rfl, ⟨rfl, ⟨rfl, ⟨rfl, ⟨rfl, ⟨OkA.z (by kernel_rfl) (by kernel_rfl), ⟨rfl, ⟨rfl, ⟨rfl, ⟨rfl, ⟨rfl, trivial⟩⟩⟩⟩⟩⟩⟩⟩⟩⟩, (fun _ => by kernel_rfl), by kernel_rfl⟩
theorem ty_50 : TyOk Try.prog 50 ⟨true, 19, [.one (Value.int .i64 0), .many (zeroL Try.prog 31) 17, .one (Value.slice none 0 0)], [(0, 1), (1, 17), (18, 1)]⟩ := ⟨by kernel_rfl, by kernel_rfl, by kernel_rfl, by kernel_rfl, ⟨rfl, ⟨OkA.z (by kernel_rfl) (by kernel_rfl), ⟨rfl, trivial⟩⟩⟩, (fun _ => by kernel_rfl), by kernel_rfl⟩
theorem ty_51 : TyOk Try.prog 51 ⟨true, 19, [.one (Value.int .i64 0), .many (zeroL Try.prog 31) 17, .one (Value.slice none 0 0)], [(0, 1), (1, 17), (18, 1)]⟩ := ⟨by kernel_rfl, by kernel_rfl, by kernel_rfl, by kernel_rfl, ⟨rfl, ⟨OkA.z (by kernel_rfl) (by kernel_rfl), ⟨rfl, trivial⟩⟩⟩, (fun _ => by kernel_rfl), by kernel_rfl⟩
theorem ty_55 : TyOk Try.prog 55 ⟨false, 1, [.one (Value.int .u64 0)], []⟩ := ⟨by kernel_rfl, by kernel_rfl, by kernel_rfl, by kernel_rfl, ⟨rfl, trivial⟩, (fun h => by cases h), by kernel_rfl⟩
theorem ty_56 : TyOk Try.prog 56 ⟨true, 2, [.one (Value.int .u64 0), .one (Value.int .i64 0)], [(0, 1), (1, 1)]⟩ := ⟨by kernel_rfl, by kernel_rfl, by kernel_rfl, by kernel_rfl, ⟨rfl, ⟨rfl, trivial⟩⟩, (fun _ => by kernel_rfl), by kernel_rfl⟩
theorem ty_57 : TyOk Try.prog 57 ⟨true, 2, [.one (Value.int .u64 0), .one (Value.int .i64 0)], [(0, 1), (1, 1)]⟩ := ⟨by kernel_rfl, by kernel_rfl, by kernel_rfl, by kernel_rfl, ⟨rfl, ⟨rfl, trivial⟩⟩, (fun _ => by kernel_rfl), by kernel_rfl⟩
theorem ty_63 : TyOk Try.prog 63 ⟨false, 1, [.one (Value.int .u32 0)], []⟩ := ⟨by kernel_rfl, by kernel_rfl, by kernel_rfl, by kernel_rfl, ⟨rfl, trivial⟩, (fun h => by cases h), by kernel_rfl⟩
theorem ty_65 : TyOk Try.prog 65 ⟨false, 1, [.one (Value.int .u64 0)], []⟩ := ⟨by kernel_rfl, by kernel_rfl, by kernel_rfl, by kernel_rfl, ⟨rfl, trivial⟩, (fun h => by cases h), by kernel_rfl⟩
theorem ty_67 : TyOk Try.prog 67 ⟨true, 4, [.one (Value.pointer none), .one (Value.pointer none), .one (Value.pointer none), .one (Value.string ⟨#[]⟩)], [(0, 1), (1, 1), (2, 1), (3, 1)]⟩ := ⟨by kernel_rfl, by kernel_rfl, by kernel_rfl, by kernel_rfl, ⟨rfl, ⟨rfl, ⟨rfl, ⟨rfl, trivial⟩⟩⟩⟩, (fun _ => by kernel_rfl), by kernel_rfl⟩
theorem ty_68 : TyOk Try.prog 68 ⟨true, 4, [.one (Value.pointer none), .one (Value.pointer none), .one (Value.pointer none), .one (Value.string ⟨#[]⟩)], [(0, 1), (1, 1), (2, 1), (3, 1)]⟩ := ⟨by kernel_rfl, by kernel_rfl, by kernel_rfl, by kernel_rfl, ⟨rfl, ⟨rfl, ⟨rfl, ⟨rfl, trivial⟩⟩⟩⟩, (fun _ => by kernel_rfl), by kernel_rfl⟩
theorem ty_72 : TyOk Try.prog 72 ⟨false, 1, [.one (Value.int .u8 0)], []⟩ := ⟨by kernel_rfl, by kernel_rfl, by kernel_rfl, by kernel_rfl, ⟨rfl, trivial⟩, (fun h => by cases h), by kernel_rfl⟩
theorem ty_73 : TyOk Try.prog 73 ⟨false, 1, [.one (Value.int .u8 0)], []⟩ := ⟨by kernel_rfl, by kernel_rfl, by kernel_rfl, by kernel_rfl, ⟨rfl, trivial⟩, (fun h => by cases h), by kernel_rfl⟩
theorem ty_75 : TyOk Try.prog 75 ⟨false, 1, [.one (Value.pointer none)], []⟩ := ⟨by kernel_rfl, by kernel_rfl, by kernel_rfl, by kernel_rfl, ⟨rfl, trivial⟩, (fun h => by cases h), by kernel_rfl⟩
def tab (P : Program) : Tab := [(2, ⟨false, 1, [.one (Value.int .i64 0)], []⟩),
  (3, ⟨false, 1, [.one (Value.int .i64 0)], []⟩),
  (4, ⟨false, 1, [.one (Value.bool false)], []⟩),
  (5, ⟨false, 1, [.one (Value.int .u8 0)], []⟩),
  (6, ⟨false, 1, [.one (Value.int .u8 0)], []⟩),
  (7, ⟨true, 4, [.one (Value.int .i64 0), .one (Value.int .i64 0), .one (Value.bool false), .one (Value.int .u8 0)], [(0, 1), (1, 1), (2, 1), (3, 1)]⟩),
  (8, ⟨true, 4, [.one (Value.int .i64 0), .one (Value.int .i64 0), .one (Value.bool false), .one (Value.int .u8 0)], [(0, 1), (1, 1), (2, 1), (3, 1)]⟩),
  (9, ⟨false, 1, [.one (Value.string ⟨#[]⟩)], []⟩),
  (10, ⟨false, 1, [.one (Value.string ⟨#[]⟩)], []⟩),
  (11, ⟨false, 1, [.one (Value.string ⟨#[]⟩)], []⟩),
  (12, ⟨false, 1, [.one (Value.int .u64 0)], []⟩),
  (13, ⟨true, 2, [.one (Value.string ⟨#[]⟩), .one (Value.int .u64 0)], [(0, 1), (1, 1)]⟩),
  (14, ⟨true, 2, [.one (Value.string ⟨#[]⟩), .one (Value.int .u64 0)], [(0, 1), (1, 1)]⟩),
  (15, ⟨false, 1, [.one (Value.pointer none)], []⟩),
  (16, ⟨false, 1, [.one (Value.pointer none)], []⟩),
  (17, ⟨false, 1, [.one (Value.pointer none)], []⟩),
  (18, ⟨true, 1, [.one (Value.pointer none)], [(0, 1)]⟩),
  (19, ⟨true, 1, [.one (Value.pointer none)], [(0, 1)]⟩),
  (22, ⟨true, 5, [.one (Value.int .i64 0), .one (Value.int .i64 0), .one (Value.int .i64 0), .one (Value.int .i64 0), .one (Value.int .i64 0)], [(0, 1), (1, 1), (2, 1), (3, 1), (4, 1)]⟩),
  (23, ⟨true, 5, [.one (Value.int .i64 0), .one (Value.int .i64 0), .one (Value.int .i64 0), .one (Value.int .i64 0), .one (Value.int .i64 0)], [(0, 1), (1, 1), (2, 1), (3, 1), (4, 1)]⟩),
  (29, ⟨true, 16, [.one (Value.int .u8 0), .one (Value.int .u8 0), .one (Value.int .u8 0), .one (Value.int .u8 0), .one (Value.int .u8 0), .one (Value.int .u8 0), .one (Value.int .u8 0), .one (Value.int .u8 0), .one (Value.int .u8 0), .one (Value.int .u8 0), .one (Value.int .u8 0), .one (Value.int .u8 0), .one (Value.int .u8 0), .one (Value.int .u8 0), .one (Value.int .u8 0), .one (Value.int .u8 0)], [(0, 1), (1, 1), (2, 1), (3, 1), (4, 1), (5, 1), (6, 1), (7, 1), (8, 1), (9, 1), (10, 1), (11, 1), (12, 1), (13, 1), (14, 1), (15, 1)]⟩),
  (30, ⟨true, 17, [.one (Value.bool false), .many (zeroL P 29) 16], [(0, 1), (1, 16)]⟩),
  (31, ⟨true, 17, [.one (Value.bool false), .many (zeroL P 29) 16], [(0, 1), (1, 16)]⟩),
  (32, ⟨false, 1, [.one (Value.slice none 0 0)], []⟩),
  (33, ⟨false, 1, [.one (Value.slice none 0 0)], []⟩),
  (34, ⟨true, 26, [.one (Value.bool false), .one (Value.int .i64 0), .one (Value.int .i64 0), .one (Value.int .i64 0), .many (zeroL P 31) 17, .one (Value.bool false), .one (Value.int .i64 0), .one (Value.int .i64 0), .one (Value.slice none 0 0), .one (Value.slice none 0 0)], [(0, 1), (1, 1), (2, 1), (3, 1), (4, 17), (21, 1), (22, 1), (23, 1), (24, 1), (25, 1)]⟩),
  (35, ⟨true, 26, [.one (Value.bool false), .one (Value.int .i64 0), .one (Value.int .i64 0), .one (Value.int .i64 0), .many (zeroL P 31) 17, .one (Value.bool false), .one (Value.int .i64 0), .one (Value.int .i64 0), .one (Value.slice none 0 0), .one (Value.slice none 0 0)], [(0, 1), (1, 1), (2, 1), (3, 1), (4, 17), (21, 1), (22, 1), (23, 1), (24, 1), (25, 1)]⟩),
  (50, ⟨true, 19, [.one (Value.int .i64 0), .many (zeroL P 31) 17, .one (Value.slice none 0 0)], [(0, 1), (1, 17), (18, 1)]⟩),
  (51, ⟨true, 19, [.one (Value.int .i64 0), .many (zeroL P 31) 17, .one (Value.slice none 0 0)], [(0, 1), (1, 17), (18, 1)]⟩),
  (55, ⟨false, 1, [.one (Value.int .u64 0)], []⟩),
  (56, ⟨true, 2, [.one (Value.int .u64 0), .one (Value.int .i64 0)], [(0, 1), (1, 1)]⟩),
  (57, ⟨true, 2, [.one (Value.int .u64 0), .one (Value.int .i64 0)], [(0, 1), (1, 1)]⟩),
  (63, ⟨false, 1, [.one (Value.int .u32 0)], []⟩),
  (65, ⟨false, 1, [.one (Value.int .u64 0)], []⟩),
  (67, ⟨true, 4, [.one (Value.pointer none), .one (Value.pointer none), .one (Value.pointer none), .one (Value.string ⟨#[]⟩)], [(0, 1), (1, 1), (2, 1), (3, 1)]⟩),
  (68, ⟨true, 4, [.one (Value.pointer none), .one (Value.pointer none), .one (Value.pointer none), .one (Value.string ⟨#[]⟩)], [(0, 1), (1, 1), (2, 1), (3, 1)]⟩),
  (72, ⟨false, 1, [.one (Value.int .u8 0)], []⟩),
  (73, ⟨false, 1, [.one (Value.int .u8 0)], []⟩),
  (75, ⟨false, 1, [.one (Value.pointer none)], []⟩)]
theorem tab_ok : TabOk Try.prog (tab Try.prog) := by
  intro p hp
  unfold tab at hp
  rcases List.mem_cons.1 hp with rfl | hp
  · exact ty_2
  rcases List.mem_cons.1 hp with rfl | hp
  · exact ty_3
  rcases List.mem_cons.1 hp with rfl | hp
  · exact ty_4
  rcases List.mem_cons.1 hp with rfl | hp
  · exact ty_5
  rcases List.mem_cons.1 hp with rfl | hp
  · exact ty_6
  rcases List.mem_cons.1 hp with rfl | hp
  · exact ty_7
  rcases List.mem_cons.1 hp with rfl | hp
  · exact ty_8
  rcases List.mem_cons.1 hp with rfl | hp
  · exact ty_9
  rcases List.mem_cons.1 hp with rfl | hp
  · exact ty_10
  rcases List.mem_cons.1 hp with rfl | hp
  · exact ty_11
  rcases List.mem_cons.1 hp with rfl | hp
  · exact ty_12
  rcases List.mem_cons.1 hp with rfl | hp
  · exact ty_13
  rcases List.mem_cons.1 hp with rfl | hp
  · exact ty_14
  rcases List.mem_cons.1 hp with rfl | hp
  · exact ty_15
  rcases List.mem_cons.1 hp with rfl | hp
  · exact ty_16
  rcases List.mem_cons.1 hp with rfl | hp
  · exact ty_17
  rcases List.mem_cons.1 hp with rfl | hp
  · exact ty_18
  rcases List.mem_cons.1 hp with rfl | hp
  · exact ty_19
  rcases List.mem_cons.1 hp with rfl | hp
  · exact ty_22
  rcases List.mem_cons.1 hp with rfl | hp
  · exact ty_23
  rcases List.mem_cons.1 hp with rfl | hp
  · exact ty_29
  rcases List.mem_cons.1 hp with rfl | hp
  · exact ty_30
  rcases List.mem_cons.1 hp with rfl | hp
  · exact ty_31
  rcases List.mem_cons.1 hp with rfl | hp
  · exact ty_32
  rcases List.mem_cons.1 hp with rfl | hp
  · exact ty_33
  rcases List.mem_cons.1 hp with rfl | hp
  · exact ty_34
  rcases List.mem_cons.1 hp with rfl | hp
  · exact ty_35
  rcases List.mem_cons.1 hp with rfl | hp
  · exact ty_50
  rcases List.mem_cons.1 hp with rfl | hp
  · exact ty_51
  rcases List.mem_cons.1 hp with rfl | hp
  · exact ty_55
  rcases List.mem_cons.1 hp with rfl | hp
  · exact ty_56
  rcases List.mem_cons.1 hp with rfl | hp
  · exact ty_57
  rcases List.mem_cons.1 hp with rfl | hp
  · exact ty_63
  rcases List.mem_cons.1 hp with rfl | hp
  · exact ty_65
  rcases List.mem_cons.1 hp with rfl | hp
  · exact ty_67
  rcases List.mem_cons.1 hp with rfl | hp
  · exact ty_68
  rcases List.mem_cons.1 hp with rfl | hp
  · exact ty_72
  rcases List.mem_cons.1 hp with rfl | hp
  · exact ty_73
  rcases List.mem_cons.1 hp with rfl | hp
  · exact ty_75
  exact absurd hp (by simp)
end Go.Proofs.Ytdjbpamigkpbeaa

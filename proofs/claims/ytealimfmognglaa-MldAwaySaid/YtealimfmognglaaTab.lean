/-
  The types of the seat's program, as a table: kinds, sizes, zeros, places.
-/
import Derived.Test.YtealimfmognglaaSg
import Derived.Test.YtealimfmognglaaRows
namespace Go.Proofs.Ytealimfmognglaa
set_option linter.unusedVariables false

theorem ty_2 : TyOk Try.prog 2 ⟨false, 1, [.one (Value.int .i64 0)], []⟩ := ⟨by kernel_rfl, by kernel_rfl, by kernel_rfl, by kernel_rfl, ⟨rfl, trivial⟩, (fun h => by cases h), by kernel_rfl⟩
theorem ty_3 : TyOk Try.prog 3 ⟨false, 1, [.one (Value.int .i64 0)], []⟩ := ⟨by kernel_rfl, by kernel_rfl, by kernel_rfl, by kernel_rfl, ⟨rfl, trivial⟩, (fun h => by cases h), by kernel_rfl⟩
theorem ty_4 : TyOk Try.prog 4 ⟨false, 1, [.one (Value.bool false)], []⟩ := ⟨by kernel_rfl, by kernel_rfl, by kernel_rfl, by kernel_rfl, ⟨rfl, trivial⟩, (fun h => by cases h), by kernel_rfl⟩
theorem ty_5 : TyOk Try.prog 5 ⟨false, 1, [.one (Value.int .u8 0)], []⟩ := ⟨by kernel_rfl, by kernel_rfl, by kernel_rfl, by kernel_rfl, ⟨rfl, trivial⟩, (fun h => by cases h), by kernel_rfl⟩
theorem ty_6 : TyOk Try.prog 6 ⟨false, 1, [.one (Value.int .u8 0)], []⟩ := ⟨by kernel_rfl, by kernel_rfl, by kernel_rfl, by kernel_rfl, ⟨rfl, trivial⟩, (fun h => by cases h), by kernel_rfl⟩
theorem ty_7 : TyOk Try.prog 7 ⟨true, 4, [.one (Value.int .i64 0), .one (Value.int .i64 0), .one (Value.bool false), .one (Value.int .u8 0)], [(0, 1), (1, 1), (2, 1), (3, 1)]⟩ := ⟨by kernel_rfl, by kernel_rfl, by kernel_rfl, by kernel_rfl, ⟨rfl, ⟨rfl, ⟨rfl, ⟨rfl, trivial⟩⟩⟩⟩, (fun _ => by kernel_rfl), by kernel_rfl⟩
theorem ty_8 : TyOk Try.prog 8 ⟨true, 4, [.one (Value.int .i64 0), .one (Value.int .i64 0), .one (Value.bool false), .one (Value.int .u8 0)], [(0, 1), (1, 1), (2, 1), (3, 1)]⟩ := ⟨by kernel_rfl, by kernel_rfl, by kernel_rfl, by kernel_rfl, ⟨rfl, ⟨rfl, ⟨rfl, ⟨rfl, trivial⟩⟩⟩⟩, (fun _ => by kernel_rfl), by kernel_rfl⟩
theorem ty_9 : TyOk Try.prog 9 ⟨false, 1, [.one (Value.string ⟨#[]⟩)], []⟩ := ⟨by kernel_rfl, by kernel_rfl, by kernel_rfl, by kernel_rfl, ⟨rfl, trivial⟩, (fun h => by cases h), by kernel_rfl⟩
theorem ty_10 : TyOk Try.prog 10 ⟨false, 1, [.one (Value.string ⟨#[]⟩)], []⟩ := ⟨by kernel_rfl, by kernel_rfl, by kernel_rfl, by kernel_rfl, ⟨rfl, trivial⟩, (fun h => by cases h), by kernel_rfl⟩
theorem ty_11 : TyOk Try.prog 11 ⟨false, 1, [.one (Value.string ⟨#[]⟩)], []⟩ := ⟨by kernel_rfl, by kernel_rfl, by kernel_rfl, by kernel_rfl, ⟨rfl, trivial⟩, (fun h => by cases h), by kernel_rfl⟩
theorem ty_12 : TyOk Try.prog 12 ⟨false, 1, [.one (Value.int .u64 0)], []⟩ := ⟨by kernel_rfl, by kernel_rfl, by kernel_rfl, by kernel_rfl, ⟨rfl, trivial⟩, (fun h => by cases h), by kernel_rfl⟩
theorem ty_13 : TyOk Try.prog 13 ⟨true, 2, [.one (Value.string ⟨#[]⟩), .one (Value.int .u64 0)], [(0, 1), (1, 1)]⟩ := ⟨by kernel_rfl, by kernel_rfl, by kernel_rfl, by kernel_rfl, ⟨rfl, ⟨rfl, trivial⟩⟩, (fun _ => by kernel_rfl), by kernel_rfl⟩
theorem ty_14 : TyOk Try.prog 14 ⟨true, 2, [.one (Value.string ⟨#[]⟩), .one (Value.int .u64 0)], [(0, 1), (1, 1)]⟩ := ⟨by kernel_rfl, by kernel_rfl, by kernel_rfl, by kernel_rfl, ⟨rfl, ⟨rfl, trivial⟩⟩, (fun _ => by kernel_rfl), by kernel_rfl⟩
theorem ty_15 : TyOk Try.prog 15 ⟨false, 1, [.one (Value.pointer none)], []⟩ := ⟨by kernel_rfl, by kernel_rfl, by kernel_rfl, by kernel_rfl, ⟨rfl, trivial⟩, (fun h => by cases h), by kernel_rfl⟩
theorem ty_16 : TyOk Try.prog 16 ⟨false, 1, [.one (Value.pointer none)], []⟩ := ⟨by kernel_rfl, by kernel_rfl, by kernel_rfl, by kernel_rfl, ⟨rfl, trivial⟩, (fun h => by cases h), by kernel_rfl⟩
theorem ty_17 : TyOk Try.prog 17 ⟨false, 1, [.one (Value.pointer none)], []⟩ := ⟨by kernel_rfl, by kernel_rfl, by kernel_rfl, by kernel_rfl, ⟨rfl, trivial⟩, (fun h => by cases h), by kernel_rfl⟩
theorem ty_18 : TyOk Try.prog 18 ⟨true, 1, [.one (Value.pointer none)], [(0, 1)]⟩ := ⟨by kernel_rfl, by kernel_rfl, by kernel_rfl, by kernel_rfl, ⟨rfl, trivial⟩, (fun _ => by kernel_rfl), by kernel_rfl⟩
theorem ty_19 : TyOk Try.prog 19 ⟨true, 1, [.one (Value.pointer none)], [(0, 1)]⟩ := ⟨by kernel_rfl, by kernel_rfl, by kernel_rfl, by kernel_rfl, ⟨rfl, trivial⟩, (fun _ => by kernel_rfl), by kernel_rfl⟩
theorem ty_22 : TyOk Try.prog 22 ⟨true, 16, [.one (Value.int .u8 0), .one (Value.int .u8 0), .one (Value.int .u8 0), .one (Value.int .u8 0), .one (Value.int .u8 0), .one (Value.int .u8 0), .one (Value.int .u8 0), .one (Value.int .u8 0), .one (Value.int .u8 0), .one (Value.int .u8 0), .one (Value.int .u8 0), .one (Value.int .u8 0), .one (Value.int .u8 0), .one (Value.int .u8 0), .one (Value.int .u8 0), .one (Value.int .u8 0)], [(0, 1), (1, 1), (2, 1), (3, 1), (4, 1), (5, 1), (6, 1), (7, 1), (8, 1), (9, 1), (10, 1), (11, 1), (12, 1), (13, 1), (14, 1), (15, 1)]⟩ := ⟨by kernel_rfl, by kernel_rfl, by kernel_rfl, by kernel_rfl, ⟨rfl, ⟨rfl, ⟨rfl, ⟨rfl, ⟨rfl, ⟨rfl, ⟨rfl, ⟨rfl, ⟨rfl, ⟨rfl, ⟨rfl, ⟨rfl, ⟨rfl, ⟨rfl, ⟨rfl, ⟨rfl, trivial⟩⟩⟩⟩⟩⟩⟩⟩⟩⟩⟩⟩⟩⟩⟩⟩, (fun _ => by kernel_rfl), by kernel_rfl⟩
theorem ty_23 : TyOk Try.prog 23 ⟨true, 17, [.one (Value.bool false), .many (zeroL Try.prog 22) 16], [(0, 1), (1, 16)]⟩ := ⟨by kernel_rfl, by kernel_rfl, by kernel_rfl, by kernel_rfl, ⟨rfl, ⟨OkA.z (by kernel_rfl) (by kernel_rfl), trivial⟩⟩, (fun _ => by kernel_rfl), by kernel_rfl⟩
theorem ty_24 : TyOk Try.prog 24 ⟨true, 17, [.one (Value.bool false), .many (zeroL Try.prog 22) 16], [(0, 1), (1, 16)]⟩ := ⟨by kernel_rfl, by kernel_rfl, by kernel_rfl, by kernel_rfl, ⟨rfl, ⟨OkA.z (by kernel_rfl) (by kernel_rfl), trivial⟩⟩, (fun _ => by kernel_rfl), by kernel_rfl⟩
theorem ty_25 : TyOk Try.prog 25 ⟨false, 1, [.one (Value.slice none 0 0)], []⟩ := ⟨by kernel_rfl, by kernel_rfl, by kernel_rfl, by kernel_rfl, ⟨rfl, trivial⟩, (fun h => by cases h), by kernel_rfl⟩
theorem ty_26 : TyOk Try.prog 26 ⟨false, 1, [.one (Value.slice none 0 0)], []⟩ := ⟨by kernel_rfl, by kernel_rfl, by kernel_rfl, by kernel_rfl, ⟨rfl, trivial⟩, (fun h => by cases h), by kernel_rfl⟩
theorem ty_27 : TyOk Try.prog 27 ⟨true, 26, [.one (Value.bool false), .one (Value.int .i64 0), .one (Value.int .i64 0), .one (Value.int .i64 0), .many (zeroL Try.prog 24) 17, .one (Value.bool false), .one (Value.int .i64 0), .one (Value.int .i64 0), .one (Value.slice none 0 0), .one (Value.slice none 0 0)], [(0, 1), (1, 1), (2, 1), (3, 1), (4, 17), (21, 1), (22, 1), (23, 1), (24, 1), (25, 1)]⟩ := ⟨by kernel_rfl, by kernel_rfl, by kernel_rfl, by kernel_rfl, ⟨rfl, ⟨rfl, ⟨rfl, ⟨rfl, ⟨OkA.z (by kernel_rfl) (by kernel_rfl), ⟨rfl, ⟨rfl, ⟨rfl, ⟨rfl, ⟨rfl, trivial⟩⟩⟩⟩⟩⟩⟩⟩⟩⟩, (fun _ => by kernel_rfl), by kernel_rfl⟩
theorem ty_28 : TyOk Try.prog 28 ⟨true, 26, [.one (Value.bool false), .one (Value.int .i64 0), .one (Value.int .i64 0), .one (Value.int .i64 0), .many (zeroL Try.prog 24) 17, .one (Value.bool false), .one (Value.int .i64 0), .one (Value.int .i64 0), .one (Value.slice none 0 0), .one (Value.slice none 0 0)], [(0, 1), (1, 1), (2, 1), (3, 1), (4, 17), (21, 1), (22, 1), (23, 1), (24, 1), (25, 1)]⟩ := ⟨by kernel_rfl, by kernel_rfl, by kernel_rfl, by kernel_rfl, ⟨rfl, ⟨rfl, ⟨rfl, ⟨rfl, ⟨OkA.z (by kernel_rfl) (by kernel_rfl), ⟨rfl, ⟨rfl, ⟨rfl, ⟨rfl, ⟨rfl, trivial⟩⟩⟩⟩⟩⟩⟩⟩⟩⟩, (fun _ => by kernel_rfl), by kernel_rfl⟩
theorem ty_29 : TyOk Try.prog 29 ⟨true, 77, [.many (zeroL Try.prog 28) 26, .many (zeroL Try.prog 24) 17, .many (zeroL Try.prog 24) 17, .many (zeroL Try.prog 24) 17], [(0, 26), (26, 17), (43, 17), (60, 17)]⟩ := ⟨by kernel_rfl, by kernel_rfl, by kernel_rfl, by kernel_rfl, ⟨OkA.z (by kernel_rfl) (by kernel_rfl), ⟨OkA.z (by kernel_rfl) (by kernel_rfl), ⟨OkA.z (by kernel_rfl) (by kernel_rfl), ⟨OkA.z (by kernel_rfl) (by kernel_rfl), trivial⟩⟩⟩⟩, (fun _ => by kernel_rfl), by kernel_rfl⟩
theorem ty_30 : TyOk Try.prog 30 ⟨true, 77, [.many (zeroL Try.prog 28) 26, .many (zeroL Try.prog 24) 17, .many (zeroL Try.prog 24) 17, .many (zeroL Try.prog 24) 17], [(0, 26), (26, 17), (43, 17), (60, 17)]⟩ := ⟨by kernel_rfl, by kernel_rfl, by kernel_rfl, by kernel_rfl, ⟨OkA.z (by kernel_rfl) (by kernel_rfl), ⟨OkA.z (by kernel_rfl) (by kernel_rfl), ⟨OkA.z (by kernel_rfl) (by kernel_rfl), ⟨OkA.z (by kernel_rfl) (by kernel_rfl), trivial⟩⟩⟩⟩, (fun _ => by kernel_rfl), by kernel_rfl⟩
theorem ty_35 : TyOk Try.prog 35 ⟨false, 1, [.one (Value.int .i64 0)], []⟩ := ⟨by kernel_rfl, by kernel_rfl, by kernel_rfl, by kernel_rfl, ⟨rfl, trivial⟩, (fun h => by cases h), by kernel_rfl⟩
theorem ty_51 : TyOk Try.prog 51 ⟨true, 19, [.one (Value.int .i64 0), .many (zeroL Try.prog 24) 17, .one (Value.slice none 0 0)], [(0, 1), (1, 17), (18, 1)]⟩ := ⟨by kernel_rfl, by kernel_rfl, by kernel_rfl, by kernel_rfl, ⟨rfl, ⟨OkA.z (by kernel_rfl) (by kernel_rfl), ⟨rfl, trivial⟩⟩⟩, (fun _ => by kernel_rfl), by kernel_rfl⟩
theorem ty_52 : TyOk Try.prog 52 ⟨true, 19, [.one (Value.int .i64 0), .many (zeroL Try.prog 24) 17, .one (Value.slice none 0 0)], [(0, 1), (1, 17), (18, 1)]⟩ := ⟨by kernel_rfl, by kernel_rfl, by kernel_rfl, by kernel_rfl, ⟨rfl, ⟨OkA.z (by kernel_rfl) (by kernel_rfl), ⟨rfl, trivial⟩⟩⟩, (fun _ => by kernel_rfl), by kernel_rfl⟩
theorem ty_64 : TyOk Try.prog 64 ⟨false, 1, [.one (Value.pointer none)], []⟩ := ⟨by kernel_rfl, by kernel_rfl, by kernel_rfl, by kernel_rfl, ⟨rfl, trivial⟩, (fun h => by cases h), by kernel_rfl⟩
theorem ty_65 : TyOk Try.prog 65 ⟨false, 1, [.one (Value.pointer none)], []⟩ := ⟨by kernel_rfl, by kernel_rfl, by kernel_rfl, by kernel_rfl, ⟨rfl, trivial⟩, (fun h => by cases h), by kernel_rfl⟩
theorem ty_67 : TyOk Try.prog 67 ⟨true, 28, [.one (Value.pointer none), .many (zeroL Try.prog 28) 26, .one (Value.int .i64 0)], [(0, 1), (1, 26), (27, 1)]⟩ := ⟨by kernel_rfl, by kernel_rfl, by kernel_rfl, by kernel_rfl, ⟨rfl, ⟨OkA.z (by kernel_rfl) (by kernel_rfl), ⟨rfl, trivial⟩⟩⟩, (fun _ => by kernel_rfl), by kernel_rfl⟩
theorem ty_68 : TyOk Try.prog 68 ⟨true, 28, [.one (Value.pointer none), .many (zeroL Try.prog 28) 26, .one (Value.int .i64 0)], [(0, 1), (1, 26), (27, 1)]⟩ := ⟨by kernel_rfl, by kernel_rfl, by kernel_rfl, by kernel_rfl, ⟨rfl, ⟨OkA.z (by kernel_rfl) (by kernel_rfl), ⟨rfl, trivial⟩⟩⟩, (fun _ => by kernel_rfl), by kernel_rfl⟩
theorem ty_79 : TyOk Try.prog 79 ⟨false, 1, [.one (Value.slice none 0 0)], []⟩ := ⟨by kernel_rfl, by kernel_rfl, by kernel_rfl, by kernel_rfl, ⟨rfl, trivial⟩, (fun h => by cases h), by kernel_rfl⟩
theorem ty_83 : TyOk Try.prog 83 ⟨false, 1, [.one (Value.int .u64 0)], []⟩ := ⟨by kernel_rfl, by kernel_rfl, by kernel_rfl, by kernel_rfl, ⟨rfl, trivial⟩, (fun h => by cases h), by kernel_rfl⟩
theorem ty_87 : TyOk Try.prog 87 ⟨false, 1, [.one (Value.slice none 0 0)], []⟩ := ⟨by kernel_rfl, by kernel_rfl, by kernel_rfl, by kernel_rfl, ⟨rfl, trivial⟩, (fun h => by cases h), by kernel_rfl⟩
theorem ty_89 : TyOk Try.prog 89 ⟨true, 3, [.one (Value.string ⟨#[]⟩), .one (Value.int .i64 0), .one (Value.bool false)], [(0, 1), (1, 1), (2, 1)]⟩ := ⟨by kernel_rfl, by kernel_rfl, by kernel_rfl, by kernel_rfl, ⟨rfl, ⟨rfl, ⟨rfl, trivial⟩⟩⟩, (fun _ => by kernel_rfl), by kernel_rfl⟩
theorem ty_90 : TyOk Try.prog 90 ⟨true, 3, [.one (Value.string ⟨#[]⟩), .one (Value.int .i64 0), .one (Value.bool false)], [(0, 1), (1, 1), (2, 1)]⟩ := ⟨by kernel_rfl, by kernel_rfl, by kernel_rfl, by kernel_rfl, ⟨rfl, ⟨rfl, ⟨rfl, trivial⟩⟩⟩, (fun _ => by kernel_rfl), by kernel_rfl⟩
theorem ty_105 : TyOk Try.prog 105 ⟨false, 1, [.one (Value.int .u64 0)], []⟩ := ⟨by kernel_rfl, by kernel_rfl, by kernel_rfl, by kernel_rfl, ⟨rfl, trivial⟩, (fun h => by cases h), by kernel_rfl⟩
theorem ty_109 : TyOk Try.prog 109 ⟨true, 2, [.one (Value.int .u64 0), .one (Value.int .i64 0)], [(0, 1), (1, 1)]⟩ := ⟨by kernel_rfl, by kernel_rfl, by kernel_rfl, by kernel_rfl, ⟨rfl, ⟨rfl, trivial⟩⟩, (fun _ => by kernel_rfl), by kernel_rfl⟩
theorem ty_110 : TyOk Try.prog 110 ⟨true, 2, [.one (Value.int .u64 0), .one (Value.int .i64 0)], [(0, 1), (1, 1)]⟩ := ⟨by kernel_rfl, by kernel_rfl, by kernel_rfl, by kernel_rfl, ⟨rfl, ⟨rfl, trivial⟩⟩, (fun _ => by kernel_rfl), by kernel_rfl⟩
theorem ty_118 : TyOk Try.prog 118 ⟨false, 1, [.one (Value.int .u32 0)], []⟩ := ⟨by kernel_rfl, by kernel_rfl, by kernel_rfl, by kernel_rfl, ⟨rfl, trivial⟩, (fun h => by cases h), by kernel_rfl⟩
theorem ty_120 : TyOk Try.prog 120 ⟨true, 4, [.one (Value.pointer none), .one (Value.pointer none), .one (Value.pointer none), .one (Value.string ⟨#[]⟩)], [(0, 1), (1, 1), (2, 1), (3, 1)]⟩ := ⟨by kernel_rfl, by kernel_rfl, by kernel_rfl, by kernel_rfl, ⟨rfl, ⟨rfl, ⟨rfl, ⟨rfl, trivial⟩⟩⟩⟩, (fun _ => by kernel_rfl), by kernel_rfl⟩
theorem ty_121 : TyOk Try.prog 121 ⟨true, 4, [.one (Value.pointer none), .one (Value.pointer none), .one (Value.pointer none), .one (Value.string ⟨#[]⟩)], [(0, 1), (1, 1), (2, 1), (3, 1)]⟩ := ⟨by kernel_rfl, by kernel_rfl, by kernel_rfl, by kernel_rfl, ⟨rfl, ⟨rfl, ⟨rfl, ⟨rfl, trivial⟩⟩⟩⟩, (fun _ => by kernel_rfl), by kernel_rfl⟩
theorem ty_125 : TyOk Try.prog 125 ⟨false, 1, [.one (Value.int .u8 0)], []⟩ := ⟨by kernel_rfl, by kernel_rfl, by kernel_rfl, by kernel_rfl, ⟨rfl, trivial⟩, (fun h => by cases h), by kernel_rfl⟩
theorem ty_126 : TyOk Try.prog 126 ⟨false, 1, [.one (Value.int .u8 0)], []⟩ := ⟨by kernel_rfl, by kernel_rfl, by kernel_rfl, by kernel_rfl, ⟨rfl, trivial⟩, (fun h => by cases h), by kernel_rfl⟩
theorem ty_128 : TyOk Try.prog 128 ⟨false, 1, [.one (Value.pointer none)], []⟩ := ⟨by kernel_rfl, by kernel_rfl, by kernel_rfl, by kernel_rfl, ⟨rfl, trivial⟩, (fun h => by cases h), by kernel_rfl⟩
def tab (P : Program) : Tab := [(2, ⟨false, 1, [.one (Value.int .i64 0)], []⟩),
  (3, ⟨false, 1, [.one (Value.int .i64 0)], []⟩),
  (4, ⟨false, 1, [.one (Value.bool false)], []⟩),
  (5, ⟨false, 1, [.one (Value.int .u8 0)], []⟩),
  (6, ⟨false, 1, [.one (Value.int .u8 0)], []⟩),
  (7, ⟨true, 4, [.one (Value.int .i64 0), .one (Value.int .i64 0), .one (Value.bool false), .one (Value.int .u8 0)], [(0, 1), (1, 1), (2, 1), (3, 1)]⟩),
  (8, ⟨true, 4, [.one (Value.int .i64 0), .one (Value.int .i64 0), .one (Value.bool false), .one (Value.int .u8 0)], [(0, 1), (1, 1), (2, 1), (3, 1)]⟩),
  (9, ⟨false, 1, [.one (Value.string ⟨#[]⟩)], []⟩),
  (10, ⟨false, 1, [.one (Value.string ⟨#[]⟩)], []⟩),
  (11, ⟨false, 1, [.one (Value.string ⟨#[]⟩)], []⟩),
  (12, ⟨false, 1, [.one (Value.int .u64 0)], []⟩),
  (13, ⟨true, 2, [.one (Value.string ⟨#[]⟩), .one (Value.int .u64 0)], [(0, 1), (1, 1)]⟩),
  (14, ⟨true, 2, [.one (Value.string ⟨#[]⟩), .one (Value.int .u64 0)], [(0, 1), (1, 1)]⟩),
  (15, ⟨false, 1, [.one (Value.pointer none)], []⟩),
  (16, ⟨false, 1, [.one (Value.pointer none)], []⟩),
  (17, ⟨false, 1, [.one (Value.pointer none)], []⟩),
  (18, ⟨true, 1, [.one (Value.pointer none)], [(0, 1)]⟩),
  (19, ⟨true, 1, [.one (Value.pointer none)], [(0, 1)]⟩),
  (22, ⟨true, 16, [.one (Value.int .u8 0), .one (Value.int .u8 0), .one (Value.int .u8 0), .one (Value.int .u8 0), .one (Value.int .u8 0), .one (Value.int .u8 0), .one (Value.int .u8 0), .one (Value.int .u8 0), .one (Value.int .u8 0), .one (Value.int .u8 0), .one (Value.int .u8 0), .one (Value.int .u8 0), .one (Value.int .u8 0), .one (Value.int .u8 0), .one (Value.int .u8 0), .one (Value.int .u8 0)], [(0, 1), (1, 1), (2, 1), (3, 1), (4, 1), (5, 1), (6, 1), (7, 1), (8, 1), (9, 1), (10, 1), (11, 1), (12, 1), (13, 1), (14, 1), (15, 1)]⟩),
  (23, ⟨true, 17, [.one (Value.bool false), .many (zeroL P 22) 16], [(0, 1), (1, 16)]⟩),
  (24, ⟨true, 17, [.one (Value.bool false), .many (zeroL P 22) 16], [(0, 1), (1, 16)]⟩),
  (25, ⟨false, 1, [.one (Value.slice none 0 0)], []⟩),
  (26, ⟨false, 1, [.one (Value.slice none 0 0)], []⟩),
  (27, ⟨true, 26, [.one (Value.bool false), .one (Value.int .i64 0), .one (Value.int .i64 0), .one (Value.int .i64 0), .many (zeroL P 24) 17, .one (Value.bool false), .one (Value.int .i64 0), .one (Value.int .i64 0), .one (Value.slice none 0 0), .one (Value.slice none 0 0)], [(0, 1), (1, 1), (2, 1), (3, 1), (4, 17), (21, 1), (22, 1), (23, 1), (24, 1), (25, 1)]⟩),
  (28, ⟨true, 26, [.one (Value.bool false), .one (Value.int .i64 0), .one (Value.int .i64 0), .one (Value.int .i64 0), .many (zeroL P 24) 17, .one (Value.bool false), .one (Value.int .i64 0), .one (Value.int .i64 0), .one (Value.slice none 0 0), .one (Value.slice none 0 0)], [(0, 1), (1, 1), (2, 1), (3, 1), (4, 17), (21, 1), (22, 1), (23, 1), (24, 1), (25, 1)]⟩),
  (29, ⟨true, 77, [.many (zeroL P 28) 26, .many (zeroL P 24) 17, .many (zeroL P 24) 17, .many (zeroL P 24) 17], [(0, 26), (26, 17), (43, 17), (60, 17)]⟩),
  (30, ⟨true, 77, [.many (zeroL P 28) 26, .many (zeroL P 24) 17, .many (zeroL P 24) 17, .many (zeroL P 24) 17], [(0, 26), (26, 17), (43, 17), (60, 17)]⟩),
  (35, ⟨false, 1, [.one (Value.int .i64 0)], []⟩),
  (51, ⟨true, 19, [.one (Value.int .i64 0), .many (zeroL P 24) 17, .one (Value.slice none 0 0)], [(0, 1), (1, 17), (18, 1)]⟩),
  (52, ⟨true, 19, [.one (Value.int .i64 0), .many (zeroL P 24) 17, .one (Value.slice none 0 0)], [(0, 1), (1, 17), (18, 1)]⟩),
  (64, ⟨false, 1, [.one (Value.pointer none)], []⟩),
  (65, ⟨false, 1, [.one (Value.pointer none)], []⟩),
  (67, ⟨true, 28, [.one (Value.pointer none), .many (zeroL P 28) 26, .one (Value.int .i64 0)], [(0, 1), (1, 26), (27, 1)]⟩),
  (68, ⟨true, 28, [.one (Value.pointer none), .many (zeroL P 28) 26, .one (Value.int .i64 0)], [(0, 1), (1, 26), (27, 1)]⟩),
  (79, ⟨false, 1, [.one (Value.slice none 0 0)], []⟩),
  (83, ⟨false, 1, [.one (Value.int .u64 0)], []⟩),
  (87, ⟨false, 1, [.one (Value.slice none 0 0)], []⟩),
  (89, ⟨true, 3, [.one (Value.string ⟨#[]⟩), .one (Value.int .i64 0), .one (Value.bool false)], [(0, 1), (1, 1), (2, 1)]⟩),
  (90, ⟨true, 3, [.one (Value.string ⟨#[]⟩), .one (Value.int .i64 0), .one (Value.bool false)], [(0, 1), (1, 1), (2, 1)]⟩),
  (105, ⟨false, 1, [.one (Value.int .u64 0)], []⟩),
  (109, ⟨true, 2, [.one (Value.int .u64 0), .one (Value.int .i64 0)], [(0, 1), (1, 1)]⟩),
  (110, ⟨true, 2, [.one (Value.int .u64 0), .one (Value.int .i64 0)], [(0, 1), (1, 1)]⟩),
  (118, ⟨false, 1, [.one (Value.int .u32 0)], []⟩),
  (120, ⟨true, 4, [.one (Value.pointer none), .one (Value.pointer none), .one (Value.pointer none), .one (Value.string ⟨#[]⟩)], [(0, 1), (1, 1), (2, 1), (3, 1)]⟩),
  (121, ⟨true, 4, [.one (Value.pointer none), .one (Value.pointer none), .one (Value.pointer none), .one (Value.string ⟨#[]⟩)], [(0, 1), (1, 1), (2, 1), (3, 1)]⟩),
  (125, ⟨false, 1, [.one (Value.int .u8 0)], []⟩),
  (126, ⟨false, 1, [.one (Value.int .u8 0)], []⟩),
  (128, ⟨false, 1, [.one (Value.pointer none)], []⟩)]
theorem tab_ok : TabOk Try.prog (tab Try.prog) := by
  intro p hp
  unfold tab at hp
  rcases List.mem_cons.1 hp with rfl | hp
  · exact ty_2
  rcases List.mem_cons.1 hp with rfl | hp
  · exact ty_3
  rcases List.mem_cons.1 hp with rfl | hp
  · exact ty_4
  rcases List.mem_cons.1 hp with rfl | hp
  · exact ty_5
  rcases List.mem_cons.1 hp with rfl | hp
  · exact ty_6
  rcases List.mem_cons.1 hp with rfl | hp
  · exact ty_7
  rcases List.mem_cons.1 hp with rfl | hp
  · exact ty_8
  rcases List.mem_cons.1 hp with rfl | hp
  · exact ty_9
  rcases List.mem_cons.1 hp with rfl | hp
  · exact ty_10
  rcases List.mem_cons.1 hp with rfl | hp
  · exact ty_11
  rcases List.mem_cons.1 hp with rfl | hp
  · exact ty_12
  rcases List.mem_cons.1 hp with rfl | hp
  · exact ty_13
  rcases List.mem_cons.1 hp with rfl | hp
  · exact ty_14
  rcases List.mem_cons.1 hp with rfl | hp
  · exact ty_15
  rcases List.mem_cons.1 hp with rfl | hp
  · exact ty_16
  rcases List.mem_cons.1 hp with rfl | hp
  · exact ty_17
  rcases List.mem_cons.1 hp with rfl | hp
  · exact ty_18
  rcases List.mem_cons.1 hp with rfl | hp
  · exact ty_19
  rcases List.mem_cons.1 hp with rfl | hp
  · exact ty_22
  rcases List.mem_cons.1 hp with rfl | hp
  · exact ty_23
  rcases List.mem_cons.1 hp with rfl | hp
  · exact ty_24
  rcases List.mem_cons.1 hp with rfl | hp
  · exact ty_25
  rcases List.mem_cons.1 hp with rfl | hp
  · exact ty_26
  rcases List.mem_cons.1 hp with rfl | hp
  · exact ty_27
  rcases List.mem_cons.1 hp with rfl | hp
  · exact ty_28
  rcases List.mem_cons.1 hp with rfl | hp
  · exact ty_29
  rcases List.mem_cons.1 hp with rfl | hp
  · exact ty_30
  rcases List.mem_cons.1 hp with rfl | hp
  · exact ty_35
  rcases List.mem_cons.1 hp with rfl | hp
  · exact ty_51
  rcases List.mem_cons.1 hp with rfl | hp
  · exact ty_52
  rcases List.mem_cons.1 hp with rfl | hp
  · exact ty_64
  rcases List.mem_cons.1 hp with rfl | hp
  · exact ty_65
  rcases List.mem_cons.1 hp with rfl | hp
  · exact ty_67
  rcases List.mem_cons.1 hp with rfl | hp
  · exact ty_68
  rcases List.mem_cons.1 hp with rfl | hp
  · exact ty_79
  rcases List.mem_cons.1 hp with rfl | hp
  · exact ty_83
  rcases List.mem_cons.1 hp with rfl | hp
  · exact ty_87
  rcases List.mem_cons.1 hp with rfl | hp
  · exact ty_89
  rcases List.mem_cons.1 hp with rfl | hp
  · exact ty_90
  rcases List.mem_cons.1 hp with rfl | hp
  · exact ty_105
  rcases List.mem_cons.1 hp with rfl | hp
  · exact ty_109
  rcases List.mem_cons.1 hp with rfl | hp
  · exact ty_110
  rcases List.mem_cons.1 hp with rfl | hp
  · exact ty_118
  rcases List.mem_cons.1 hp with rfl | hp
  · exact ty_120
  rcases List.mem_cons.1 hp with rfl | hp
  · exact ty_121
  rcases List.mem_cons.1 hp with rfl | hp
  · exact ty_125
  rcases List.mem_cons.1 hp with rfl | hp
  · exact ty_126
  rcases List.mem_cons.1 hp with rfl | hp
  · exact ty_128
  exact absurd hp (by simp)
end Go.Proofs.Ytealimfmognglaa

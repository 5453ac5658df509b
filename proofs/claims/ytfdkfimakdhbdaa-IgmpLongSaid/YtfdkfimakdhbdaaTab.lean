/-
  The types of the seat's program, as a table: kinds, sizes, zeros, places.
-/
import Derived.Test.YtfdkfimakdhbdaaSg
import Derived.Test.YtfdkfimakdhbdaaRows
namespace Go.Proofs.Ytfdkfimakdhbdaa
set_option linter.unusedVariables false

theorem ty_2 : TyOk Try.prog 2 ⟨false, 1, [.one (Value.int .i64 0)], []⟩ := ⟨by kernel_rfl, by kernel_rfl, by kernel_rfl, by kernel_rfl, ⟨rfl, trivial⟩, (fun h => by cases h), by kernel_rfl⟩
theorem ty_3 : TyOk Try.prog 3 ⟨false, 1, [.one (Value.int .i64 0)], []⟩ := ⟨by kernel_rfl, by kernel_rfl, by kernel_rfl, by kernel_rfl, ⟨rfl, trivial⟩, (fun h => by cases h), by kernel_rfl⟩
theorem ty_4 : TyOk Try.prog 4 ⟨false, 1, [.one (Value.bool false)], []⟩ := ⟨by kernel_rfl, by kernel_rfl, by kernel_rfl, by kernel_rfl, ⟨rfl, trivial⟩, (fun h => by cases h), by kernel_rfl⟩
theorem ty_5 : TyOk Try.prog 5 ⟨false, 1, [.one (Value.int .u8 0)], []⟩ := ⟨by kernel_rfl, by kernel_rfl, by kernel_rfl, by kernel_rfl, ⟨rfl, trivial⟩, (fun h => by cases h), by kernel_rfl⟩
theorem ty_6 : TyOk Try.prog 6 ⟨false, 1, [.one (Value.int .u8 0)], []⟩ := ⟨by kernel_rfl, by kernel_rfl, by kernel_rfl, by kernel_rfl, ⟨rfl, trivial⟩, (fun h => by cases h), by kernel_rfl⟩
theorem ty_7 : TyOk Try.prog 7 ⟨true, 4, [.one (Value.int .i64 0), .one (Value.int .i64 0), .one (Value.bool false), .one (Value.int .u8 0)], [(0, 1), (1, 1), (2, 1), (3, 1)]⟩ := ⟨by kernel_rfl, by kernel_rfl, by kernel_rfl, by kernel_rfl, ⟨rfl, ⟨rfl, ⟨rfl, ⟨rfl, trivial⟩⟩⟩⟩, (fun _ => by kernel_rfl), by kernel_rfl⟩
theorem ty_8 : TyOk Try.prog 8 ⟨true, 4, [.one (Value.int .i64 0), .one (Value.int .i64 0), .one (Value.bool false), .one (Value.int .u8 0)], [(0, 1), (1, 1), (2, 1), (3, 1)]⟩ := ⟨by kernel_rfl, by kernel_rfl, by kernel_rfl, by kernel_rfl, ⟨rfl, ⟨rfl, ⟨rfl, ⟨rfl, trivial⟩⟩⟩⟩, (fun _ => by kernel_rfl), by kernel_rfl⟩
theorem ty_9 : TyOk Try.prog 9 ⟨false, 1, [.one (Value.string ⟨#[]⟩)], []⟩ := ⟨by kernel_rfl, by kernel_rfl, by kernel_rfl, by kernel_rfl, ⟨rfl, trivial⟩, (fun h => by cases h), by kernel_rfl⟩
theorem ty_10 : TyOk Try.prog 10 ⟨false, 1, [.one (Value.string ⟨#[]⟩)], []⟩ := ⟨by kernel_rfl, by kernel_rfl, by kernel_rfl, by kernel_rfl, ⟨rfl, trivial⟩, (fun h => by cases h), by kernel_rfl⟩
theorem ty_11 : TyOk Try.prog 11 ⟨false, 1, [.one (Value.string ⟨#[]⟩)], []⟩ := ⟨by kernel_rfl, by kernel_rfl, by kernel_rfl, by kernel_rfl, ⟨rfl, trivial⟩, (fun h => by cases h), by kernel_rfl⟩
theorem ty_12 : TyOk Try.prog 12 ⟨false, 1, [.one (Value.int .u64 0)], []⟩ := ⟨by kernel_rfl, by kernel_rfl, by kernel_rfl, by kernel_rfl, ⟨rfl, trivial⟩, (fun h => by cases h), by kernel_rfl⟩
theorem ty_13 : TyOk Try.prog 13 ⟨true, 2, [.one (Value.string ⟨#[]⟩), .one (Value.int .u64 0)], [(0, 1), (1, 1)]⟩ := ⟨by kernel_rfl, by kernel_rfl, by kernel_rfl, by kernel_rfl, ⟨rfl, ⟨rfl, trivial⟩⟩, (fun _ => by kernel_rfl), by kernel_rfl⟩
theorem ty_14 : TyOk Try.prog 14 ⟨true, 2, [.one (Value.string ⟨#[]⟩), .one (Value.int .u64 0)], [(0, 1), (1, 1)]⟩ := ⟨by kernel_rfl, by kernel_rfl, by kernel_rfl, by kernel_rfl, ⟨rfl, ⟨rfl, trivial⟩⟩, (fun _ => by kernel_rfl), by kernel_rfl⟩
theorem ty_15 : TyOk Try.prog 15 ⟨false, 1, [.one (Value.pointer none)], []⟩ := ⟨by kernel_rfl, by kernel_rfl, by kernel_rfl, by kernel_rfl, ⟨rfl, trivial⟩, (fun h => by cases h), by kernel_rfl⟩
theorem ty_16 : TyOk Try.prog 16 ⟨false, 1, [.one (Value.pointer none)], []⟩ := ⟨by kernel_rfl, by kernel_rfl, by kernel_rfl, by kernel_rfl, ⟨rfl, trivial⟩, (fun h => by cases h), by kernel_rfl⟩
theorem ty_17 : TyOk Try.prog 17 ⟨false, 1, [.one (Value.pointer none)], []⟩ := ⟨by kernel_rfl, by kernel_rfl, by kernel_rfl, by kernel_rfl, ⟨rfl, trivial⟩, (fun h => by cases h), by kernel_rfl⟩
theorem ty_18 : TyOk Try.prog 18 ⟨true, 1, [.one (Value.pointer none)], [(0, 1)]⟩ := ⟨by kernel_rfl, by kernel_rfl, by kernel_rfl, by kernel_rfl, ⟨rfl, trivial⟩, (fun _ => by kernel_rfl), by kernel_rfl⟩
theorem ty_19 : TyOk Try.prog 19 ⟨true, 1, [.one (Value.pointer none)], [(0, 1)]⟩ := ⟨by kernel_rfl, by kernel_rfl, by kernel_rfl, by kernel_rfl, ⟨rfl, trivial⟩, (fun _ => by kernel_rfl), by kernel_rfl⟩
theorem ty_23 : TyOk Try.prog 23 ⟨true, 16, [.one (Value.int .u8 0), .one (Value.int .u8 0), .one (Value.int .u8 0), .one (Value.int .u8 0), .one (Value.int .u8 0), .one (Value.int .u8 0), .one (Value.int .u8 0), .one (Value.int .u8 0), .one (Value.int .u8 0), .one (Value.int .u8 0), .one (Value.int .u8 0), .one (Value.int .u8 0), .one (Value.int .u8 0), .one (Value.int .u8 0), .one (Value.int .u8 0), .one (Value.int .u8 0)], [(0, 1), (1, 1), (2, 1), (3, 1), (4, 1), (5, 1), (6, 1), (7, 1), (8, 1), (9, 1), (10, 1), (11, 1), (12, 1), (13, 1), (14, 1), (15, 1)]⟩ := ⟨by kernel_rfl, by kernel_rfl, by kernel_rfl, by kernel_rfl, ⟨rfl, ⟨rfl, ⟨rfl, ⟨rfl, ⟨rfl, ⟨rfl, ⟨rfl, ⟨rfl, ⟨rfl, ⟨rfl, ⟨rfl, ⟨rfl, ⟨rfl, ⟨rfl, ⟨rfl, ⟨rfl, trivial⟩⟩⟩⟩⟩⟩⟩⟩⟩⟩⟩⟩⟩⟩⟩⟩, (fun _ => by kernel_rfl), by kernel_rfl⟩
theorem ty_24 : TyOk Try.prog 24 ⟨true, 17, [.one (Value.bool false), .many (zeroL Try.prog 23) 16], [(0, 1), (1, 16)]⟩ := ⟨by kernel_rfl, by kernel_rfl, by kernel_rfl, by kernel_rfl, ⟨rfl, ⟨OkA.z (by kernel_rfl) (by kernel_rfl), trivial⟩⟩, (fun _ => by kernel_rfl), by kernel_rfl⟩
theorem ty_25 : TyOk Try.prog 25 ⟨true, 17, [.one (Value.bool false), .many (zeroL Try.prog 23) 16], [(0, 1), (1, 16)]⟩ := ⟨by kernel_rfl, by kernel_rfl, by kernel_rfl, by kernel_rfl, ⟨rfl, ⟨OkA.z (by kernel_rfl) (by kernel_rfl), trivial⟩⟩, (fun _ => by kernel_rfl), by kernel_rfl⟩
theorem ty_26 : TyOk Try.prog 26 ⟨false, 1, [.one (Value.slice none 0 0)], []⟩ := ⟨by kernel_rfl, by kernel_rfl, by kernel_rfl, by kernel_rfl, ⟨rfl, trivial⟩, (fun h => by cases h), by kernel_rfl⟩
theorem ty_27 : TyOk Try.prog 27 ⟨false, 1, [.one (Value.slice none 0 0)], []⟩ := ⟨by kernel_rfl, by kernel_rfl, by kernel_rfl, by kernel_rfl, ⟨rfl, trivial⟩, (fun h => by cases h), by kernel_rfl⟩
theorem ty_28 : TyOk Try.prog 28 ⟨true, 26, [.one (Value.bool false), .one (Value.int .i64 0), .one (Value.int .i64 0), .one (Value.int .i64 0), .many (zeroL Try.prog 25) 17, .one (Value.bool false), .one (Value.int .i64 0), .one (Value.int .i64 0), .one (Value.slice none 0 0), .one (Value.slice none 0 0)], [(0, 1), (1, 1), (2, 1), (3, 1), (4, 17), (21, 1), (22, 1), (23, 1), (24, 1), (25, 1)]⟩ := ⟨by kernel_rfl, by kernel_rfl, by kernel_rfl, by kernel_rfl, ⟨rfl, ⟨rfl, ⟨rfl, ⟨rfl, ⟨OkA.z (by kernel_rfl) (by kernel_rfl), ⟨rfl, ⟨rfl, ⟨rfl, ⟨rfl, ⟨rfl, trivial⟩⟩⟩⟩⟩⟩⟩⟩⟩⟩, (fun _ => by kernel_rfl), by kernel_rfl⟩
theorem ty_29 : TyOk Try.prog 29 ⟨true, 26, [.one (Value.bool false), .one (Value.int .i64 0), .one (Value.int .i64 0), .one (Value.int .i64 0), .many (zeroL Try.prog 25) 17, .one (Value.bool false), .one (Value.int .i64 0), .one (Value.int .i64 0), .one (Value.slice none 0 0), .one (Value.slice none 0 0)], [(0, 1), (1, 1), (2, 1), (3, 1), (4, 17), (21, 1), (22, 1), (23, 1), (24, 1), (25, 1)]⟩ := ⟨by kernel_rfl, by kernel_rfl, by kernel_rfl, by kernel_rfl, ⟨rfl, ⟨rfl, ⟨rfl, ⟨rfl, ⟨OkA.z (by kernel_rfl) (by kernel_rfl), ⟨rfl, ⟨rfl, ⟨rfl, ⟨rfl, ⟨rfl, trivial⟩⟩⟩⟩⟩⟩⟩⟩⟩⟩, (fun _ => by kernel_rfl), by kernel_rfl⟩
theorem ty_30 : TyOk Try.prog 30 ⟨false, 1, [.one (Value.int .i64 0)], []⟩ := ⟨by kernel_rfl, by kernel_rfl, by kernel_rfl, by kernel_rfl, ⟨rfl, trivial⟩, (fun h => by cases h), by kernel_rfl⟩
theorem ty_44 : TyOk Try.prog 44 ⟨false, 1, [.one (Value.pointer none)], []⟩ := ⟨by kernel_rfl, by kernel_rfl, by kernel_rfl, by kernel_rfl, ⟨rfl, trivial⟩, (fun h => by cases h), by kernel_rfl⟩
theorem ty_45 : TyOk Try.prog 45 ⟨false, 1, [.one (Value.pointer none)], []⟩ := ⟨by kernel_rfl, by kernel_rfl, by kernel_rfl, by kernel_rfl, ⟨rfl, trivial⟩, (fun h => by cases h), by kernel_rfl⟩
theorem ty_47 : TyOk Try.prog 47 ⟨true, 2, [.one (Value.pointer none), .one (Value.int .i64 0)], [(0, 1), (1, 1)]⟩ := ⟨by kernel_rfl, by kernel_rfl, by kernel_rfl, by kernel_rfl, ⟨rfl, ⟨rfl, trivial⟩⟩, (fun _ => by kernel_rfl), by kernel_rfl⟩
theorem ty_48 : TyOk Try.prog 48 ⟨true, 2, [.one (Value.pointer none), .one (Value.int .i64 0)], [(0, 1), (1, 1)]⟩ := ⟨by kernel_rfl, by kernel_rfl, by kernel_rfl, by kernel_rfl, ⟨rfl, ⟨rfl, trivial⟩⟩, (fun _ => by kernel_rfl), by kernel_rfl⟩
theorem ty_52 : TyOk Try.prog 52 ⟨false, 1, [.one (Value.pointer none)], []⟩ := ⟨by kernel_rfl, by kernel_rfl, by kernel_rfl, by kernel_rfl, ⟨rfl, trivial⟩, (fun h => by cases h), by kernel_rfl⟩
theorem ty_62 : TyOk Try.prog 62 ⟨true, 19, [.one (Value.int .i64 0), .many (zeroL Try.prog 25) 17, .one (Value.slice none 0 0)], [(0, 1), (1, 17), (18, 1)]⟩ := ⟨by kernel_rfl, by kernel_rfl, by kernel_rfl, by kernel_rfl, ⟨rfl, ⟨OkA.z (by kernel_rfl) (by kernel_rfl), ⟨rfl, trivial⟩⟩⟩, (fun _ => by kernel_rfl), by kernel_rfl⟩
theorem ty_63 : TyOk Try.prog 63 ⟨true, 19, [.one (Value.int .i64 0), .many (zeroL Try.prog 25) 17, .one (Value.slice none 0 0)], [(0, 1), (1, 17), (18, 1)]⟩ := ⟨by kernel_rfl, by kernel_rfl, by kernel_rfl, by kernel_rfl, ⟨rfl, ⟨OkA.z (by kernel_rfl) (by kernel_rfl), ⟨rfl, trivial⟩⟩⟩, (fun _ => by kernel_rfl), by kernel_rfl⟩
theorem ty_76 : TyOk Try.prog 76 ⟨false, 1, [.one (Value.slice none 0 0)], []⟩ := ⟨by kernel_rfl, by kernel_rfl, by kernel_rfl, by kernel_rfl, ⟨rfl, trivial⟩, (fun h => by cases h), by kernel_rfl⟩
theorem ty_77 : TyOk Try.prog 77 ⟨false, 1, [.one (Value.int .u64 0)], []⟩ := ⟨by kernel_rfl, by kernel_rfl, by kernel_rfl, by kernel_rfl, ⟨rfl, trivial⟩, (fun h => by cases h), by kernel_rfl⟩
theorem ty_79 : TyOk Try.prog 79 ⟨true, 3, [.one (Value.string ⟨#[]⟩), .one (Value.int .i64 0), .one (Value.bool false)], [(0, 1), (1, 1), (2, 1)]⟩ := ⟨by kernel_rfl, by kernel_rfl, by kernel_rfl, by kernel_rfl, ⟨rfl, ⟨rfl, ⟨rfl, trivial⟩⟩⟩, (fun _ => by kernel_rfl), by kernel_rfl⟩
theorem ty_80 : TyOk Try.prog 80 ⟨true, 3, [.one (Value.string ⟨#[]⟩), .one (Value.int .i64 0), .one (Value.bool false)], [(0, 1), (1, 1), (2, 1)]⟩ := ⟨by kernel_rfl, by kernel_rfl, by kernel_rfl, by kernel_rfl, ⟨rfl, ⟨rfl, ⟨rfl, trivial⟩⟩⟩, (fun _ => by kernel_rfl), by kernel_rfl⟩
theorem ty_100 : TyOk Try.prog 100 ⟨false, 1, [.one (Value.slice none 0 0)], []⟩ := ⟨by kernel_rfl, by kernel_rfl, by kernel_rfl, by kernel_rfl, ⟨rfl, trivial⟩, (fun h => by cases h), by kernel_rfl⟩
theorem ty_102 : TyOk Try.prog 102 ⟨false, 1, [.one (Value.int .u64 0)], []⟩ := ⟨by kernel_rfl, by kernel_rfl, by kernel_rfl, by kernel_rfl, ⟨rfl, trivial⟩, (fun h => by cases h), by kernel_rfl⟩
theorem ty_104 : TyOk Try.prog 104 ⟨true, 2, [.one (Value.int .u64 0), .one (Value.int .i64 0)], [(0, 1), (1, 1)]⟩ := ⟨by kernel_rfl, by kernel_rfl, by kernel_rfl, by kernel_rfl, ⟨rfl, ⟨rfl, trivial⟩⟩, (fun _ => by kernel_rfl), by kernel_rfl⟩
theorem ty_105 : TyOk Try.prog 105 ⟨true, 2, [.one (Value.int .u64 0), .one (Value.int .i64 0)], [(0, 1), (1, 1)]⟩ := ⟨by kernel_rfl, by kernel_rfl, by kernel_rfl, by kernel_rfl, ⟨rfl, ⟨rfl, trivial⟩⟩, (fun _ => by kernel_rfl), by kernel_rfl⟩
theorem ty_114 : TyOk Try.prog 114 ⟨false, 1, [.one (Value.int .u32 0)], []⟩ := ⟨by kernel_rfl, by kernel_rfl, by kernel_rfl, by kernel_rfl, ⟨rfl, trivial⟩, (fun h => by cases h), by kernel_rfl⟩
theorem ty_116 : TyOk Try.prog 116 ⟨true, 4, [.one (Value.pointer none), .one (Value.pointer none), .one (Value.pointer none), .one (Value.string ⟨#[]⟩)], [(0, 1), (1, 1), (2, 1), (3, 1)]⟩ := ⟨by kernel_rfl, by kernel_rfl, by kernel_rfl, by kernel_rfl, ⟨rfl, ⟨rfl, ⟨rfl, ⟨rfl, trivial⟩⟩⟩⟩, (fun _ => by kernel_rfl), by kernel_rfl⟩
theorem ty_117 : TyOk Try.prog 117 ⟨true, 4, [.one (Value.pointer none), .one (Value.pointer none), .one (Value.pointer none), .one (Value.string ⟨#[]⟩)], [(0, 1), (1, 1), (2, 1), (3, 1)]⟩ := ⟨by kernel_rfl, by kernel_rfl, by kernel_rfl, by kernel_rfl, ⟨rfl, ⟨rfl, ⟨rfl, ⟨rfl, trivial⟩⟩⟩⟩, (fun _ => by kernel_rfl), by kernel_rfl⟩
theorem ty_121 : TyOk Try.prog 121 ⟨false, 1, [.one (Value.int .u8 0)], []⟩ := ⟨by kernel_rfl, by kernel_rfl, by kernel_rfl, by kernel_rfl, ⟨rfl, trivial⟩, (fun h => by cases h), by kernel_rfl⟩
theorem ty_122 : TyOk Try.prog 122 ⟨false, 1, [.one (Value.int .u8 0)], []⟩ := ⟨by kernel_rfl, by kernel_rfl, by kernel_rfl, by kernel_rfl, ⟨rfl, trivial⟩, (fun h => by cases h), by kernel_rfl⟩
theorem ty_124 : TyOk Try.prog 124 ⟨false, 1, [.one (Value.pointer none)], []⟩ := ⟨by kernel_rfl, by kernel_rfl, by kernel_rfl, by kernel_rfl, ⟨rfl, trivial⟩, (fun h => by cases h), by kernel_rfl⟩
def tab (P : Program) : Tab := [(2, ⟨false, 1, [.one (Value.int .i64 0)], []⟩),
  (3, ⟨false, 1, [.one (Value.int .i64 0)], []⟩),
  (4, ⟨false, 1, [.one (Value.bool false)], []⟩),
  (5, ⟨false, 1, [.one (Value.int .u8 0)], []⟩),
  (6, ⟨false, 1, [.one (Value.int .u8 0)], []⟩),
  (7, ⟨true, 4, [.one (Value.int .i64 0), .one (Value.int .i64 0), .one (Value.bool false), .one (Value.int .u8 0)], [(0, 1), (1, 1), (2, 1), (3, 1)]⟩),
  (8, ⟨true, 4, [.one (Value.int .i64 0), .one (Value.int .i64 0), .one (Value.bool false), .one (Value.int .u8 0)], [(0, 1), (1, 1), (2, 1), (3, 1)]⟩),
  (9, ⟨false, 1, [.one (Value.string ⟨#[]⟩)], []⟩),
  (10, ⟨false, 1, [.one (Value.string ⟨#[]⟩)], []⟩),
  (11, ⟨false, 1, [.one (Value.string ⟨#[]⟩)], []⟩),
  (12, ⟨false, 1, [.one (Value.int .u64 0)], []⟩),
  (13, ⟨true, 2, [.one (Value.string ⟨#[]⟩), .one (Value.int .u64 0)], [(0, 1), (1, 1)]⟩),
  (14, ⟨true, 2, [.one (Value.string ⟨#[]⟩), .one (Value.int .u64 0)], [(0, 1), (1, 1)]⟩),
  (15, ⟨false, 1, [.one (Value.pointer none)], []⟩),
  (16, ⟨false, 1, [.one (Value.pointer none)], []⟩),
  (17, ⟨false, 1, [.one (Value.pointer none)], []⟩),
  (18, ⟨true, 1, [.one (Value.pointer none)], [(0, 1)]⟩),
  (19, ⟨true, 1, [.one (Value.pointer none)], [(0, 1)]⟩),
  (23, ⟨true, 16, [.one (Value.int .u8 0), .one (Value.int .u8 0), .one (Value.int .u8 0), .one (Value.int .u8 0), .one (Value.int .u8 0), .one (Value.int .u8 0), .one (Value.int .u8 0), .one (Value.int .u8 0), .one (Value.int .u8 0), .one (Value.int .u8 0), .one (Value.int .u8 0), .one (Value.int .u8 0), .one (Value.int .u8 0), .one (Value.int .u8 0), .one (Value.int .u8 0), .one (Value.int .u8 0)], [(0, 1), (1, 1), (2, 1), (3, 1), (4, 1), (5, 1), (6, 1), (7, 1), (8, 1), (9, 1), (10, 1), (11, 1), (12, 1), (13, 1), (14, 1), (15, 1)]⟩),
  (24, ⟨true, 17, [.one (Value.bool false), .many (zeroL P 23) 16], [(0, 1), (1, 16)]⟩),
  (25, ⟨true, 17, [.one (Value.bool false), .many (zeroL P 23) 16], [(0, 1), (1, 16)]⟩),
  (26, ⟨false, 1, [.one (Value.slice none 0 0)], []⟩),
  (27, ⟨false, 1, [.one (Value.slice none 0 0)], []⟩),
  (28, ⟨true, 26, [.one (Value.bool false), .one (Value.int .i64 0), .one (Value.int .i64 0), .one (Value.int .i64 0), .many (zeroL P 25) 17, .one (Value.bool false), .one (Value.int .i64 0), .one (Value.int .i64 0), .one (Value.slice none 0 0), .one (Value.slice none 0 0)], [(0, 1), (1, 1), (2, 1), (3, 1), (4, 17), (21, 1), (22, 1), (23, 1), (24, 1), (25, 1)]⟩),
  (29, ⟨true, 26, [.one (Value.bool false), .one (Value.int .i64 0), .one (Value.int .i64 0), .one (Value.int .i64 0), .many (zeroL P 25) 17, .one (Value.bool false), .one (Value.int .i64 0), .one (Value.int .i64 0), .one (Value.slice none 0 0), .one (Value.slice none 0 0)], [(0, 1), (1, 1), (2, 1), (3, 1), (4, 17), (21, 1), (22, 1), (23, 1), (24, 1), (25, 1)]⟩),
  (30, ⟨false, 1, [.one (Value.int .i64 0)], []⟩),
  (44, ⟨false, 1, [.one (Value.pointer none)], []⟩),
  (45, ⟨false, 1, [.one (Value.pointer none)], []⟩),
  (47, ⟨true, 2, [.one (Value.pointer none), .one (Value.int .i64 0)], [(0, 1), (1, 1)]⟩),
  (48, ⟨true, 2, [.one (Value.pointer none), .one (Value.int .i64 0)], [(0, 1), (1, 1)]⟩),
  (52, ⟨false, 1, [.one (Value.pointer none)], []⟩),
  (62, ⟨true, 19, [.one (Value.int .i64 0), .many (zeroL P 25) 17, .one (Value.slice none 0 0)], [(0, 1), (1, 17), (18, 1)]⟩),
  (63, ⟨true, 19, [.one (Value.int .i64 0), .many (zeroL P 25) 17, .one (Value.slice none 0 0)], [(0, 1), (1, 17), (18, 1)]⟩),
  (76, ⟨false, 1, [.one (Value.slice none 0 0)], []⟩),
  (77, ⟨false, 1, [.one (Value.int .u64 0)], []⟩),
  (79, ⟨true, 3, [.one (Value.string ⟨#[]⟩), .one (Value.int .i64 0), .one (Value.bool false)], [(0, 1), (1, 1), (2, 1)]⟩),
  (80, ⟨true, 3, [.one (Value.string ⟨#[]⟩), .one (Value.int .i64 0), .one (Value.bool false)], [(0, 1), (1, 1), (2, 1)]⟩),
  (100, ⟨false, 1, [.one (Value.slice none 0 0)], []⟩),
  (102, ⟨false, 1, [.one (Value.int .u64 0)], []⟩),
  (104, ⟨true, 2, [.one (Value.int .u64 0), .one (Value.int .i64 0)], [(0, 1), (1, 1)]⟩),
  (105, ⟨true, 2, [.one (Value.int .u64 0), .one (Value.int .i64 0)], [(0, 1), (1, 1)]⟩),
  (114, ⟨false, 1, [.one (Value.int .u32 0)], []⟩),
  (116, ⟨true, 4, [.one (Value.pointer none), .one (Value.pointer none), .one (Value.pointer none), .one (Value.string ⟨#[]⟩)], [(0, 1), (1, 1), (2, 1), (3, 1)]⟩),
  (117, ⟨true, 4, [.one (Value.pointer none), .one (Value.pointer none), .one (Value.pointer none), .one (Value.string ⟨#[]⟩)], [(0, 1), (1, 1), (2, 1), (3, 1)]⟩),
  (121, ⟨false, 1, [.one (Value.int .u8 0)], []⟩),
  (122, ⟨false, 1, [.one (Value.int .u8 0)], []⟩),
  (124, ⟨false, 1, [.one (Value.pointer none)], []⟩)]
theorem tab_ok : TabOk Try.prog (tab Try.prog) := by
  intro p hp
  unfold tab at hp
  rcases List.mem_cons.1 hp with rfl | hp
  · exact ty_2
  rcases List.mem_cons.1 hp with rfl | hp
  · exact ty_3
  rcases List.mem_cons.1 hp with rfl | hp
  · exact ty_4
  rcases List.mem_cons.1 hp with rfl | hp
  · exact ty_5
  rcases List.mem_cons.1 hp with rfl | hp
  · exact ty_6
  rcases List.mem_cons.1 hp with rfl | hp
  · exact ty_7
  rcases List.mem_cons.1 hp with rfl | hp
  · exact ty_8
  rcases List.mem_cons.1 hp with rfl | hp
  · exact ty_9
  rcases List.mem_cons.1 hp with rfl | hp
  · exact ty_10
  rcases List.mem_cons.1 hp with rfl | hp
  · exact ty_11
  rcases List.mem_cons.1 hp with rfl | hp
  · exact ty_12
  rcases List.mem_cons.1 hp with rfl | hp
  · exact ty_13
  rcases List.mem_cons.1 hp with rfl | hp
  · exact ty_14
  rcases List.mem_cons.1 hp with rfl | hp
  · exact ty_15
  rcases List.mem_cons.1 hp with rfl | hp
  · exact ty_16
  rcases List.mem_cons.1 hp with rfl | hp
  · exact ty_17
  rcases List.mem_cons.1 hp with rfl | hp
  · exact ty_18
  rcases List.mem_cons.1 hp with rfl | hp
  · exact ty_19
  rcases List.mem_cons.1 hp with rfl | hp
  · exact ty_23
  rcases List.mem_cons.1 hp with rfl | hp
  · exact ty_24
  rcases List.mem_cons.1 hp with rfl | hp
  · exact ty_25
  rcases List.mem_cons.1 hp with rfl | hp
  · exact ty_26
  rcases List.mem_cons.1 hp with rfl | hp
  · exact ty_27
  rcases List.mem_cons.1 hp with rfl | hp
  · exact ty_28
  rcases List.mem_cons.1 hp with rfl | hp
  · exact ty_29
  rcases List.mem_cons.1 hp with rfl | hp
  · exact ty_30
  rcases List.mem_cons.1 hp with rfl | hp
  · exact ty_44
  rcases List.mem_cons.1 hp with rfl | hp
  · exact ty_45
  rcases List.mem_cons.1 hp with rfl | hp
  · exact ty_47
  rcases List.mem_cons.1 hp with rfl | hp
  · exact ty_48
  rcases List.mem_cons.1 hp with rfl | hp
  · exact ty_52
  rcases List.mem_cons.1 hp with rfl | hp
  · exact ty_62
  rcases List.mem_cons.1 hp with rfl | hp
  · exact ty_63
  rcases List.mem_cons.1 hp with rfl | hp
  · exact ty_76
  rcases List.mem_cons.1 hp with rfl | hp
  · exact ty_77
  rcases List.mem_cons.1 hp with rfl | hp
  · exact ty_79
  rcases List.mem_cons.1 hp with rfl | hp
  · exact ty_80
  rcases List.mem_cons.1 hp with rfl | hp
  · exact ty_100
  rcases List.mem_cons.1 hp with rfl | hp
  · exact ty_102
  rcases List.mem_cons.1 hp with rfl | hp
  · exact ty_104
  rcases List.mem_cons.1 hp with rfl | hp
  · exact ty_105
  rcases List.mem_cons.1 hp with rfl | hp
  · exact ty_114
  rcases List.mem_cons.1 hp with rfl | hp
  · exact ty_116
  rcases List.mem_cons.1 hp with rfl | hp
  · exact ty_117
  rcases List.mem_cons.1 hp with rfl | hp
  · exact ty_121
  rcases List.mem_cons.1 hp with rfl | hp
  · exact ty_122
  rcases List.mem_cons.1 hp with rfl | hp
  · exact ty_124
  exact absurd hp (by simp)
end Go.Proofs.Ytfdkfimakdhbdaa

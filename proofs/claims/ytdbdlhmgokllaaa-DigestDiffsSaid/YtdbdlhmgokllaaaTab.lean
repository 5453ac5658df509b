/-
  The types of the seat's program, as a table: kinds, sizes, zeros, places.
-/
import Derived.Test.YtdbdlhmgokllaaaSg
import Derived.Test.YtdbdlhmgokllaaaRows
namespace Go.Proofs.Ytdbdlhmgokllaaa
set_option linter.unusedVariables false

theorem ty_2 : TyOk Try.prog 2 ⟨false, 1, [.one (Value.int .i64 0)], []⟩ := ⟨by kernel_rfl, by kernel_rfl, by kernel_rfl, by kernel_rfl, ⟨rfl, trivial⟩, (fun h => by cases h), by kernel_rfl⟩
theorem ty_3 : TyOk Try.prog 3 ⟨false, 1, [.one (Value.int .i64 0)], []⟩ := ⟨by kernel_rfl, by kernel_rfl, by kernel_rfl, by kernel_rfl, ⟨rfl, trivial⟩, (fun h => by cases h), by kernel_rfl⟩
theorem ty_4 : TyOk Try.prog 4 ⟨false, 1, [.one (Value.bool false)], []⟩ := ⟨by kernel_rfl, by kernel_rfl, by kernel_rfl, by kernel_rfl, ⟨rfl, trivial⟩, (fun h => by cases h), by kernel_rfl⟩
theorem ty_5 : TyOk Try.prog 5 ⟨false, 1, [.one (Value.int .u8 0)], []⟩ := ⟨by kernel_rfl, by kernel_rfl, by kernel_rfl, by kernel_rfl, ⟨rfl, trivial⟩, (fun h => by cases h), by kernel_rfl⟩
theorem ty_6 : TyOk Try.prog 6 ⟨false, 1, [.one (Value.int .u8 0)], []⟩ := ⟨by kernel_rfl, by kernel_rfl, by kernel_rfl, by kernel_rfl, ⟨rfl, trivial⟩, (fun h => by cases h), by kernel_rfl⟩
theorem ty_7 : TyOk Try.prog 7 ⟨true, 4, [.one (Value.int .i64 0), .one (Value.int .i64 0), .one (Value.bool false), .one (Value.int .u8 0)], [(0, 1), (1, 1), (2, 1), (3, 1)]⟩ := ⟨by kernel_rfl, by kernel_rfl, by kernel_rfl, by kernel_rfl, ⟨rfl, ⟨rfl, ⟨rfl, ⟨rfl, trivial⟩⟩⟩⟩, (fun _ => by kernel_rfl), by kernel_rfl⟩
theorem ty_8 : TyOk Try.prog 8 ⟨true, 4, [.one (Value.int .i64 0), .one (Value.int .i64 0), .one (Value.bool false), .one (Value.int .u8 0)], [(0, 1), (1, 1), (2, 1), (3, 1)]⟩ := ⟨by kernel_rfl, by kernel_rfl, by kernel_rfl, by kernel_rfl, ⟨rfl, ⟨rfl, ⟨rfl, ⟨rfl, trivial⟩⟩⟩⟩, (fun _ => by kernel_rfl), by kernel_rfl⟩
theorem ty_9 : TyOk Try.prog 9 ⟨false, 1, [.one (Value.string ⟨#[]⟩)], []⟩ := ⟨by kernel_rfl, by kernel_rfl, by kernel_rfl, by kernel_rfl, ⟨rfl, trivial⟩, (fun h => by cases h), by kernel_rfl⟩
theorem ty_10 : TyOk Try.prog 10 ⟨false, 1, [.one (Value.string ⟨#[]⟩)], []⟩ := ⟨by kernel_rfl, by kernel_rfl, by kernel_rfl, by kernel_rfl, ⟨rfl, trivial⟩, (fun h => by cases h), by kernel_rfl⟩
theorem ty_11 : TyOk Try.prog 11 ⟨false, 1, [.one (Value.string ⟨#[]⟩)], []⟩ := ⟨by kernel_rfl, by kernel_rfl, by kernel_rfl, by kernel_rfl, ⟨rfl, trivial⟩, (fun h => by cases h), by kernel_rfl⟩
theorem ty_12 : TyOk Try.prog 12 ⟨false, 1, [.one (Value.int .u64 0)], []⟩ := ⟨by kernel_rfl, by kernel_rfl, by kernel_rfl, by kernel_rfl, ⟨rfl, trivial⟩, (fun h => by cases h), by kernel_rfl⟩
theorem ty_13 : TyOk Try.prog 13 ⟨true, 2, [.one (Value.string ⟨#[]⟩), .one (Value.int .u64 0)], [(0, 1), (1, 1)]⟩ := ⟨by kernel_rfl, by kernel_rfl, by kernel_rfl, by kernel_rfl, ⟨rfl, ⟨rfl, trivial⟩⟩, (fun _ => by kernel_rfl), by kernel_rfl⟩
theorem ty_14 : TyOk Try.prog 14 ⟨true, 2, [.one (Value.string ⟨#[]⟩), .one (Value.int .u64 0)], [(0, 1), (1, 1)]⟩ := ⟨by kernel_rfl, by kernel_rfl, by kernel_rfl, by kernel_rfl, ⟨rfl, ⟨rfl, trivial⟩⟩, (fun _ => by kernel_rfl), by kernel_rfl⟩
theorem ty_15 : TyOk Try.prog 15 ⟨false, 1, [.one (Value.pointer none)], []⟩ := ⟨by kernel_rfl, by kernel_rfl, by kernel_rfl, by kernel_rfl, ⟨rfl, trivial⟩, (fun h => by cases h), by kernel_rfl⟩
theorem ty_16 : TyOk Try.prog 16 ⟨false, 1, [.one (Value.pointer none)], []⟩ := ⟨by kernel_rfl, by kernel_rfl, by kernel_rfl, by kernel_rfl, ⟨rfl, trivial⟩, (fun h => by cases h), by kernel_rfl⟩
theorem ty_17 : TyOk Try.prog 17 ⟨false, 1, [.one (Value.pointer none)], []⟩ := ⟨by kernel_rfl, by kernel_rfl, by kernel_rfl, by kernel_rfl, ⟨rfl, trivial⟩, (fun h => by cases h), by kernel_rfl⟩
theorem ty_18 : TyOk Try.prog 18 ⟨true, 1, [.one (Value.pointer none)], [(0, 1)]⟩ := ⟨by kernel_rfl, by kernel_rfl, by kernel_rfl, by kernel_rfl, ⟨rfl, trivial⟩, (fun _ => by kernel_rfl), by kernel_rfl⟩
theorem ty_19 : TyOk Try.prog 19 ⟨true, 1, [.one (Value.pointer none)], [(0, 1)]⟩ := ⟨by kernel_rfl, by kernel_rfl, by kernel_rfl, by kernel_rfl, ⟨rfl, trivial⟩, (fun _ => by kernel_rfl), by kernel_rfl⟩
theorem ty_22 : TyOk Try.prog 22 ⟨false, 1, [.one (Value.slice none 0 0)], []⟩ := ⟨by kernel_rfl, by kernel_rfl, by kernel_rfl, by kernel_rfl, ⟨rfl, trivial⟩, (fun h => by cases h), by kernel_rfl⟩
theorem ty_23 : TyOk Try.prog 23 ⟨true, 16, [.one (Value.int .u8 0), .one (Value.int .u8 0), .one (Value.int .u8 0), .one (Value.int .u8 0), .one (Value.int .u8 0), .one (Value.int .u8 0), .one (Value.int .u8 0), .one (Value.int .u8 0), .one (Value.int .u8 0), .one (Value.int .u8 0), .one (Value.int .u8 0), .one (Value.int .u8 0), .one (Value.int .u8 0), .one (Value.int .u8 0), .one (Value.int .u8 0), .one (Value.int .u8 0)], [(0, 1), (1, 1), (2, 1), (3, 1), (4, 1), (5, 1), (6, 1), (7, 1), (8, 1), (9, 1), (10, 1), (11, 1), (12, 1), (13, 1), (14, 1), (15, 1)]⟩ := ⟨by kernel_rfl, by kernel_rfl, by kernel_rfl, by kernel_rfl, ⟨rfl, ⟨rfl, ⟨rfl, ⟨rfl, ⟨rfl, ⟨rfl, ⟨rfl, ⟨rfl, ⟨rfl, ⟨rfl, ⟨rfl, ⟨rfl, ⟨rfl, ⟨rfl, ⟨rfl, ⟨rfl, trivial⟩⟩⟩⟩⟩⟩⟩⟩⟩⟩⟩⟩⟩⟩⟩⟩, (fun _ => by kernel_rfl), by kernel_rfl⟩
theorem ty_24 : TyOk Try.prog 24 ⟨true, 17, [.one (Value.bool false), .many (zeroL Try.prog 23) 16], [(0, 1), (1, 16)]⟩ := ⟨by kernel_rfl, by kernel_rfl, by kernel_rfl, by kernel_rfl, ⟨rfl, ⟨OkA.z (by kernel_rfl) (by kernel_rfl), trivial⟩⟩, (fun _ => by kernel_rfl), by kernel_rfl⟩
theorem ty_25 : TyOk Try.prog 25 ⟨true, 17, [.one (Value.bool false), .many (zeroL Try.prog 23) 16], [(0, 1), (1, 16)]⟩ := ⟨by kernel_rfl, by kernel_rfl, by kernel_rfl, by kernel_rfl, ⟨rfl, ⟨OkA.z (by kernel_rfl) (by kernel_rfl), trivial⟩⟩, (fun _ => by kernel_rfl), by kernel_rfl⟩
theorem ty_26 : TyOk Try.prog 26 ⟨false, 1, [.one (Value.slice none 0 0)], []⟩ := ⟨by kernel_rfl, by kernel_rfl, by kernel_rfl, by kernel_rfl, ⟨rfl, trivial⟩, (fun h => by cases h), by kernel_rfl⟩
theorem ty_27 : TyOk Try.prog 27 ⟨true, 2, [.one (Value.bool false), .one (Value.slice none 0 0)], [(0, 1), (1, 1)]⟩ := ⟨by kernel_rfl, by kernel_rfl, by kernel_rfl, by kernel_rfl, ⟨rfl, ⟨rfl, trivial⟩⟩, (fun _ => by kernel_rfl), by kernel_rfl⟩
theorem ty_28 : TyOk Try.prog 28 ⟨true, 2, [.one (Value.bool false), .one (Value.slice none 0 0)], [(0, 1), (1, 1)]⟩ := ⟨by kernel_rfl, by kernel_rfl, by kernel_rfl, by kernel_rfl, ⟨rfl, ⟨rfl, trivial⟩⟩, (fun _ => by kernel_rfl), by kernel_rfl⟩
theorem ty_29 : TyOk Try.prog 29 ⟨true, 20, [.one (Value.int .i64 0), .many (zeroL Try.prog 25) 17, .many (zeroL Try.prog 28) 2], [(0, 1), (1, 17), (18, 2)]⟩ := ⟨by kernel_rfl, by kernel_rfl, by kernel_rfl, by kernel_rfl, ⟨rfl, ⟨OkA.z (by kernel_rfl) (by kernel_rfl), ⟨OkA.z (by kernel_rfl) (by kernel_rfl), trivial⟩⟩⟩, (fun _ => by kernel_rfl), by kernel_rfl⟩
theorem ty_30 : TyOk Try.prog 30 ⟨true, 20, [.one (Value.int .i64 0), .many (zeroL Try.prog 25) 17, .many (zeroL Try.prog 28) 2], [(0, 1), (1, 17), (18, 2)]⟩ := ⟨by kernel_rfl, by kernel_rfl, by kernel_rfl, by kernel_rfl, ⟨rfl, ⟨OkA.z (by kernel_rfl) (by kernel_rfl), ⟨OkA.z (by kernel_rfl) (by kernel_rfl), trivial⟩⟩⟩, (fun _ => by kernel_rfl), by kernel_rfl⟩
theorem ty_36 : TyOk Try.prog 36 ⟨true, 21, [.many (zeroL Try.prog 30) 20, .one (Value.bool false)], [(0, 20), (20, 1)]⟩ := ⟨by kernel_rfl, by kernel_rfl, by kernel_rfl, by kernel_rfl, ⟨OkA.z (by kernel_rfl) (by kernel_rfl), ⟨rfl, trivial⟩⟩, (fun _ => by kernel_rfl), by kernel_rfl⟩
theorem ty_37 : TyOk Try.prog 37 ⟨true, 21, [.many (zeroL Try.prog 30) 20, .one (Value.bool false)], [(0, 20), (20, 1)]⟩ := ⟨by kernel_rfl, by kernel_rfl, by kernel_rfl, by kernel_rfl, ⟨OkA.z (by kernel_rfl) (by kernel_rfl), ⟨rfl, trivial⟩⟩, (fun _ => by kernel_rfl), by kernel_rfl⟩
theorem ty_38 : TyOk Try.prog 38 ⟨false, 1, [.one (Value.int .i64 0)], []⟩ := ⟨by kernel_rfl, by kernel_rfl, by kernel_rfl, by kernel_rfl, ⟨rfl, trivial⟩, (fun h => by cases h), by kernel_rfl⟩
theorem ty_42 : TyOk Try.prog 42 ⟨false, 1, [.one (Value.slice none 0 0)], []⟩ := ⟨by kernel_rfl, by kernel_rfl, by kernel_rfl, by kernel_rfl, ⟨rfl, trivial⟩, (fun h => by cases h), by kernel_rfl⟩
theorem ty_49 : TyOk Try.prog 49 ⟨true, 20, [.one (Value.slice none 0 0), .one (Value.slice none 0 0), .one (Value.int .i64 0), .many (zeroL Try.prog 25) 17], [(0, 1), (1, 1), (2, 1), (3, 17)]⟩ := ⟨by kernel_rfl, by kernel_rfl, by kernel_rfl, by kernel_rfl, ⟨rfl, ⟨rfl, ⟨rfl, ⟨OkA.z (by kernel_rfl) (by kernel_rfl), trivial⟩⟩⟩⟩, (fun _ => by kernel_rfl), by kernel_rfl⟩
theorem ty_50 : TyOk Try.prog 50 ⟨true, 20, [.one (Value.slice none 0 0), .one (Value.slice none 0 0), .one (Value.int .i64 0), .many (zeroL Try.prog 25) 17], [(0, 1), (1, 1), (2, 1), (3, 17)]⟩ := ⟨by kernel_rfl, by kernel_rfl, by kernel_rfl, by kernel_rfl, ⟨rfl, ⟨rfl, ⟨rfl, ⟨OkA.z (by kernel_rfl) (by kernel_rfl), trivial⟩⟩⟩⟩, (fun _ => by kernel_rfl), by kernel_rfl⟩
theorem ty_64 : TyOk Try.prog 64 ⟨false, 1, [.one (Value.int .u64 0)], []⟩ := ⟨by kernel_rfl, by kernel_rfl, by kernel_rfl, by kernel_rfl, ⟨rfl, trivial⟩, (fun h => by cases h), by kernel_rfl⟩
theorem ty_86 : TyOk Try.prog 86 ⟨false, 1, [.one (Value.pointer none)], []⟩ := ⟨by kernel_rfl, by kernel_rfl, by kernel_rfl, by kernel_rfl, ⟨rfl, trivial⟩, (fun h => by cases h), by kernel_rfl⟩
theorem ty_93 : TyOk Try.prog 93 ⟨false, 1, [.one (Value.int .u64 0)], []⟩ := ⟨by kernel_rfl, by kernel_rfl, by kernel_rfl, by kernel_rfl, ⟨rfl, trivial⟩, (fun h => by cases h), by kernel_rfl⟩
theorem ty_97 : TyOk Try.prog 97 ⟨false, 1, [.one (Value.slice none 0 0)], []⟩ := ⟨by kernel_rfl, by kernel_rfl, by kernel_rfl, by kernel_rfl, ⟨rfl, trivial⟩, (fun h => by cases h), by kernel_rfl⟩
theorem ty_103 : TyOk Try.prog 103 ⟨true, 3, [.one (Value.string ⟨#[]⟩), .one (Value.int .i64 0), .one (Value.bool false)], [(0, 1), (1, 1), (2, 1)]⟩ := ⟨by kernel_rfl, by kernel_rfl, by kernel_rfl, by kernel_rfl, ⟨rfl, ⟨rfl, ⟨rfl, trivial⟩⟩⟩, (fun _ => by kernel_rfl), by kernel_rfl⟩
theorem ty_104 : TyOk Try.prog 104 ⟨true, 3, [.one (Value.string ⟨#[]⟩), .one (Value.int .i64 0), .one (Value.bool false)], [(0, 1), (1, 1), (2, 1)]⟩ := ⟨by kernel_rfl, by kernel_rfl, by kernel_rfl, by kernel_rfl, ⟨rfl, ⟨rfl, ⟨rfl, trivial⟩⟩⟩, (fun _ => by kernel_rfl), by kernel_rfl⟩
theorem ty_106 : TyOk Try.prog 106 ⟨false, 1, [.one (Value.slice none 0 0)], []⟩ := ⟨by kernel_rfl, by kernel_rfl, by kernel_rfl, by kernel_rfl, ⟨rfl, trivial⟩, (fun h => by cases h), by kernel_rfl⟩
theorem ty_111 : TyOk Try.prog 111 ⟨true, 4, [.one (Value.pointer none), .one (Value.pointer none), .one (Value.pointer none), .one (Value.string ⟨#[]⟩)], [(0, 1), (1, 1), (2, 1), (3, 1)]⟩ := ⟨by kernel_rfl, by kernel_rfl, by kernel_rfl, by kernel_rfl, ⟨rfl, ⟨rfl, ⟨rfl, ⟨rfl, trivial⟩⟩⟩⟩, (fun _ => by kernel_rfl), by kernel_rfl⟩
theorem ty_112 : TyOk Try.prog 112 ⟨true, 4, [.one (Value.pointer none), .one (Value.pointer none), .one (Value.pointer none), .one (Value.string ⟨#[]⟩)], [(0, 1), (1, 1), (2, 1), (3, 1)]⟩ := ⟨by kernel_rfl, by kernel_rfl, by kernel_rfl, by kernel_rfl, ⟨rfl, ⟨rfl, ⟨rfl, ⟨rfl, trivial⟩⟩⟩⟩, (fun _ => by kernel_rfl), by kernel_rfl⟩
theorem ty_116 : TyOk Try.prog 116 ⟨false, 1, [.one (Value.int .u32 0)], []⟩ := ⟨by kernel_rfl, by kernel_rfl, by kernel_rfl, by kernel_rfl, ⟨rfl, trivial⟩, (fun h => by cases h), by kernel_rfl⟩
theorem ty_117 : TyOk Try.prog 117 ⟨false, 1, [.one (Value.int .u8 0)], []⟩ := ⟨by kernel_rfl, by kernel_rfl, by kernel_rfl, by kernel_rfl, ⟨rfl, trivial⟩, (fun h => by cases h), by kernel_rfl⟩
theorem ty_118 : TyOk Try.prog 118 ⟨false, 1, [.one (Value.int .u8 0)], []⟩ := ⟨by kernel_rfl, by kernel_rfl, by kernel_rfl, by kernel_rfl, ⟨rfl, trivial⟩, (fun h => by cases h), by kernel_rfl⟩
theorem ty_120 : TyOk Try.prog 120 ⟨false, 1, [.one (Value.pointer none)], []⟩ := ⟨by kernel_rfl, by kernel_rfl, by kernel_rfl, by kernel_rfl, ⟨rfl, trivial⟩, (fun h => by cases h), by kernel_rfl⟩
def tab (P : Program) : Tab := [(2, ⟨false, 1, [.one (Value.int .i64 0)], []⟩),
  (3, ⟨false, 1, [.one (Value.int .i64 0)], []⟩),
  (4, ⟨false, 1, [.one (Value.bool false)], []⟩),
  (5, ⟨false, 1, [.one (Value.int .u8 0)], []⟩),
  (6, ⟨false, 1, [.one (Value.int .u8 0)], []⟩),
  (7, ⟨true, 4, [.one (Value.int .i64 0), .one (Value.int .i64 0), .one (Value.bool false), .one (Value.int .u8 0)], [(0, 1), (1, 1), (2, 1), (3, 1)]⟩),
  (8, ⟨true, 4, [.one (Value.int .i64 0), .one (Value.int .i64 0), .one (Value.bool false), .one (Value.int .u8 0)], [(0, 1), (1, 1), (2, 1), (3, 1)]⟩),
  (9, ⟨false, 1, [.one (Value.string ⟨#[]⟩)], []⟩),
  (10, ⟨false, 1, [.one (Value.string ⟨#[]⟩)], []⟩),
  (11, ⟨false, 1, [.one (Value.string ⟨#[]⟩)], []⟩),
  (12, ⟨false, 1, [.one (Value.int .u64 0)], []⟩),
  (13, ⟨true, 2, [.one (Value.string ⟨#[]⟩), .one (Value.int .u64 0)], [(0, 1), (1, 1)]⟩),
  (14, ⟨true, 2, [.one (Value.string ⟨#[]⟩), .one (Value.int .u64 0)], [(0, 1), (1, 1)]⟩),
  (15, ⟨false, 1, [.one (Value.pointer none)], []⟩),
  (16, ⟨false, 1, [.one (Value.pointer none)], []⟩),
  (17, ⟨false, 1, [.one (Value.pointer none)], []⟩),
  (18, ⟨true, 1, [.one (Value.pointer none)], [(0, 1)]⟩),
  (19, ⟨true, 1, [.one (Value.pointer none)], [(0, 1)]⟩),
  (22, ⟨false, 1, [.one (Value.slice none 0 0)], []⟩),
  (23, ⟨true, 16, [.one (Value.int .u8 0), .one (Value.int .u8 0), .one (Value.int .u8 0), .one (Value.int .u8 0), .one (Value.int .u8 0), .one (Value.int .u8 0), .one (Value.int .u8 0), .one (Value.int .u8 0), .one (Value.int .u8 0), .one (Value.int .u8 0), .one (Value.int .u8 0), .one (Value.int .u8 0), .one (Value.int .u8 0), .one (Value.int .u8 0), .one (Value.int .u8 0), .one (Value.int .u8 0)], [(0, 1), (1, 1), (2, 1), (3, 1), (4, 1), (5, 1), (6, 1), (7, 1), (8, 1), (9, 1), (10, 1), (11, 1), (12, 1), (13, 1), (14, 1), (15, 1)]⟩),
  (24, ⟨true, 17, [.one (Value.bool false), .many (zeroL P 23) 16], [(0, 1), (1, 16)]⟩),
  (25, ⟨true, 17, [.one (Value.bool false), .many (zeroL P 23) 16], [(0, 1), (1, 16)]⟩),
  (26, ⟨false, 1, [.one (Value.slice none 0 0)], []⟩),
  (27, ⟨true, 2, [.one (Value.bool false), .one (Value.slice none 0 0)], [(0, 1), (1, 1)]⟩),
  (28, ⟨true, 2, [.one (Value.bool false), .one (Value.slice none 0 0)], [(0, 1), (1, 1)]⟩),
  (29, ⟨true, 20, [.one (Value.int .i64 0), .many (zeroL P 25) 17, .many (zeroL P 28) 2], [(0, 1), (1, 17), (18, 2)]⟩),
  (30, ⟨true, 20, [.one (Value.int .i64 0), .many (zeroL P 25) 17, .many (zeroL P 28) 2], [(0, 1), (1, 17), (18, 2)]⟩),
  (36, ⟨true, 21, [.many (zeroL P 30) 20, .one (Value.bool false)], [(0, 20), (20, 1)]⟩),
  (37, ⟨true, 21, [.many (zeroL P 30) 20, .one (Value.bool false)], [(0, 20), (20, 1)]⟩),
  (38, ⟨false, 1, [.one (Value.int .i64 0)], []⟩),
  (42, ⟨false, 1, [.one (Value.slice none 0 0)], []⟩),
  (49, ⟨true, 20, [.one (Value.slice none 0 0), .one (Value.slice none 0 0), .one (Value.int .i64 0), .many (zeroL P 25) 17], [(0, 1), (1, 1), (2, 1), (3, 17)]⟩),
  (50, ⟨true, 20, [.one (Value.slice none 0 0), .one (Value.slice none 0 0), .one (Value.int .i64 0), .many (zeroL P 25) 17], [(0, 1), (1, 1), (2, 1), (3, 17)]⟩),
  (64, ⟨false, 1, [.one (Value.int .u64 0)], []⟩),
  (86, ⟨false, 1, [.one (Value.pointer none)], []⟩),
  (93, ⟨false, 1, [.one (Value.int .u64 0)], []⟩),
  (97, ⟨false, 1, [.one (Value.slice none 0 0)], []⟩),
  (103, ⟨true, 3, [.one (Value.string ⟨#[]⟩), .one (Value.int .i64 0), .one (Value.bool false)], [(0, 1), (1, 1), (2, 1)]⟩),
  (104, ⟨true, 3, [.one (Value.string ⟨#[]⟩), .one (Value.int .i64 0), .one (Value.bool false)], [(0, 1), (1, 1), (2, 1)]⟩),
  (106, ⟨false, 1, [.one (Value.slice none 0 0)], []⟩),
  (111, ⟨true, 4, [.one (Value.pointer none), .one (Value.pointer none), .one (Value.pointer none), .one (Value.string ⟨#[]⟩)], [(0, 1), (1, 1), (2, 1), (3, 1)]⟩),
  (112, ⟨true, 4, [.one (Value.pointer none), .one (Value.pointer none), .one (Value.pointer none), .one (Value.string ⟨#[]⟩)], [(0, 1), (1, 1), (2, 1), (3, 1)]⟩),
  (116, ⟨false, 1, [.one (Value.int .u32 0)], []⟩),
  (117, ⟨false, 1, [.one (Value.int .u8 0)], []⟩),
  (118, ⟨false, 1, [.one (Value.int .u8 0)], []⟩),
  (120, ⟨false, 1, [.one (Value.pointer none)], []⟩)]
theorem tab_ok : TabOk Try.prog (tab Try.prog) := by
  intro p hp
  unfold tab at hp
  rcases List.mem_cons.1 hp with rfl | hp
  · exact ty_2
  rcases List.mem_cons.1 hp with rfl | hp
  · exact ty_3
  rcases List.mem_cons.1 hp with rfl | hp
  · exact ty_4
  rcases List.mem_cons.1 hp with rfl | hp
  · exact ty_5
  rcases List.mem_cons.1 hp with rfl | hp
  · exact ty_6
  rcases List.mem_cons.1 hp with rfl | hp
  · exact ty_7
  rcases List.mem_cons.1 hp with rfl | hp
  · exact ty_8
  rcases List.mem_cons.1 hp with rfl | hp
  · exact ty_9
  rcases List.mem_cons.1 hp with rfl | hp
  · exact ty_10
  rcases List.mem_cons.1 hp with rfl | hp
  · exact ty_11
  rcases List.mem_cons.1 hp with rfl | hp
  · exact ty_12
  rcases List.mem_cons.1 hp with rfl | hp
  · exact ty_13
  rcases List.mem_cons.1 hp with rfl | hp
  · exact ty_14
  rcases List.mem_cons.1 hp with rfl | hp
  · exact ty_15
  rcases List.mem_cons.1 hp with rfl | hp
  · exact ty_16
  rcases List.mem_cons.1 hp with rfl | hp
  · exact ty_17
  rcases List.mem_cons.1 hp with rfl | hp
  · exact ty_18
  rcases List.mem_cons.1 hp with rfl | hp
  · exact ty_19
  rcases List.mem_cons.1 hp with rfl | hp
  · exact ty_22
  rcases List.mem_cons.1 hp with rfl | hp
  · exact ty_23
  rcases List.mem_cons.1 hp with rfl | hp
  · exact ty_24
  rcases List.mem_cons.1 hp with rfl | hp
  · exact ty_25
  rcases List.mem_cons.1 hp with rfl | hp
  · exact ty_26
  rcases List.mem_cons.1 hp with rfl | hp
  · exact ty_27
  rcases List.mem_cons.1 hp with rfl | hp
  · exact ty_28
  rcases List.mem_cons.1 hp with rfl | hp
  · exact ty_29
  rcases List.mem_cons.1 hp with rfl | hp
  · exact ty_30
  rcases List.mem_cons.1 hp with rfl | hp
  · exact ty_36
  rcases List.mem_cons.1 hp with rfl | hp
  · exact ty_37
  rcases List.mem_cons.1 hp with rfl | hp
  · exact ty_38
  rcases List.mem_cons.1 hp with rfl | hp
  · exact ty_42
  rcases List.mem_cons.1 hp with rfl | hp
  · exact ty_49
  rcases List.mem_cons.1 hp with rfl | hp
  · exact ty_50
  rcases List.mem_cons.1 hp with rfl | hp
  · exact ty_64
  rcases List.mem_cons.1 hp with rfl | hp
  · exact ty_86
  rcases List.mem_cons.1 hp with rfl | hp
  · exact ty_93
  rcases List.mem_cons.1 hp with rfl | hp
  · exact ty_97
  rcases List.mem_cons.1 hp with rfl | hp
  · exact ty_103
  rcases List.mem_cons.1 hp with rfl | hp
  · exact ty_104
  rcases List.mem_cons.1 hp with rfl | hp
  · exact ty_106
  rcases List.mem_cons.1 hp with rfl | hp
  · exact ty_111
  rcases List.mem_cons.1 hp with rfl | hp
  · exact ty_112
  rcases List.mem_cons.1 hp with rfl | hp
  · exact ty_116
  rcases List.mem_cons.1 hp with rfl | hp
  · exact ty_117
  rcases List.mem_cons.1 hp with rfl | hp
  · exact ty_118
  rcases List.mem_cons.1 hp with rfl | hp
  · exact ty_120
  exact absurd hp (by simp)
end Go.Proofs.Ytdbdlhmgokllaaa

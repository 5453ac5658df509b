/-
  The types of the seat's program, as a table: kinds, sizes, zeros, places.
-/
import Derived.Test.YtknlhhmcidimaaaSg
import Derived.Test.YtknlhhmcidimaaaRows
namespace Go.Proofs.Ytknlhhmcidimaaa
set_option linter.unusedVariables false

theorem ty_2 : TyOk Try.prog 2 ⟨false, 1, [.one (Value.int .i64 0)], []⟩ := ⟨by kernel_rfl, by kernel_rfl, by kernel_rfl, by kernel_rfl, ⟨rfl, trivial⟩, (fun h => by cases h), by kernel_rfl⟩
theorem ty_3 : TyOk Try.prog 3 ⟨false, 1, [.one (Value.int .i64 0)], []⟩ := ⟨by kernel_rfl, by kernel_rfl, by kernel_rfl, by kernel_rfl, ⟨rfl, trivial⟩, (fun h => by cases h), by kernel_rfl⟩
theorem ty_4 : TyOk Try.prog 4 ⟨false, 1, [.one (Value.bool false)], []⟩ := ⟨by kernel_rfl, by kernel_rfl, by kernel_rfl, by kernel_rfl, ⟨rfl, trivial⟩, (fun h => by cases h), by kernel_rfl⟩
theorem ty_5 : TyOk Try.prog 5 ⟨false, 1, [.one (Value.int .u8 0)], []⟩ := ⟨by kernel_rfl, by kernel_rfl, by kernel_rfl, by kernel_rfl, ⟨rfl, trivial⟩, (fun h => by cases h), by kernel_rfl⟩
theorem ty_6 : TyOk Try.prog 6 ⟨false, 1, [.one (Value.int .u8 0)], []⟩ := ⟨by kernel_rfl, by kernel_rfl, by kernel_rfl, by kernel_rfl, ⟨rfl, trivial⟩, (fun h => by cases h), by kernel_rfl⟩
theorem ty_7 : TyOk Try.prog 7 ⟨true, 4, [.one (Value.int .i64 0), .one (Value.int .i64 0), .one (Value.bool false), .one (Value.int .u8 0)], [(0, 1), (1, 1), (2, 1), (3, 1)]⟩ := ⟨by kernel_rfl, by kernel_rfl, by kernel_rfl, by kernel_rfl, ⟨rfl, ⟨rfl, ⟨rfl, ⟨rfl, trivial⟩⟩⟩⟩, (fun _ => by kernel_rfl), by kernel_rfl⟩
theorem ty_8 : TyOk Try.prog 8 ⟨true, 4, [.one (Value.int .i64 0), .one (Value.int .i64 0), .one (Value.bool false), .one (Value.int .u8 0)], [(0, 1), (1, 1), (2, 1), (3, 1)]⟩ := ⟨by kernel_rfl, by kernel_rfl, by kernel_rfl, by kernel_rfl, ⟨rfl, ⟨rfl, ⟨rfl, ⟨rfl, trivial⟩⟩⟩⟩, (fun _ => by kernel_rfl), by kernel_rfl⟩
theorem ty_9 : TyOk Try.prog 9 ⟨false, 1, [.one (Value.string ⟨#[]⟩)], []⟩ := ⟨by kernel_rfl, by kernel_rfl, by kernel_rfl, by kernel_rfl, ⟨rfl, trivial⟩, (fun h => by cases h), by kernel_rfl⟩
theorem ty_10 : TyOk Try.prog 10 ⟨false, 1, [.one (Value.string ⟨#[]⟩)], []⟩ := ⟨by kernel_rfl, by kernel_rfl, by kernel_rfl, by kernel_rfl, ⟨rfl, trivial⟩, (fun h => by cases h), by kernel_rfl⟩
theorem ty_11 : TyOk Try.prog 11 ⟨false, 1, [.one (Value.string ⟨#[]⟩)], []⟩ := ⟨by kernel_rfl, by kernel_rfl, by kernel_rfl, by kernel_rfl, ⟨rfl, trivial⟩, (fun h => by cases h), by kernel_rfl⟩
theorem ty_12 : TyOk Try.prog 12 ⟨false, 1, [.one (Value.int .u64 0)], []⟩ := ⟨by kernel_rfl, by kernel_rfl, by kernel_rfl, by kernel_rfl, ⟨rfl, trivial⟩, (fun h => by cases h), by kernel_rfl⟩
theorem ty_13 : TyOk Try.prog 13 ⟨true, 2, [.one (Value.string ⟨#[]⟩), .one (Value.int .u64 0)], [(0, 1), (1, 1)]⟩ := ⟨by kernel_rfl, by kernel_rfl, by kernel_rfl, by kernel_rfl, ⟨rfl, ⟨rfl, trivial⟩⟩, (fun _ => by kernel_rfl), by kernel_rfl⟩
theorem ty_14 : TyOk Try.prog 14 ⟨true, 2, [.one (Value.string ⟨#[]⟩), .one (Value.int .u64 0)], [(0, 1), (1, 1)]⟩ := ⟨by kernel_rfl, by kernel_rfl, by kernel_rfl, by kernel_rfl, ⟨rfl, ⟨rfl, trivial⟩⟩, (fun _ => by kernel_rfl), by kernel_rfl⟩
theorem ty_15 : TyOk Try.prog 15 ⟨false, 1, [.one (Value.pointer none)], []⟩ := ⟨by kernel_rfl, by kernel_rfl, by kernel_rfl, by kernel_rfl, ⟨rfl, trivial⟩, (fun h => by cases h), by kernel_rfl⟩
theorem ty_16 : TyOk Try.prog 16 ⟨false, 1, [.one (Value.pointer none)], []⟩ := ⟨by kernel_rfl, by kernel_rfl, by kernel_rfl, by kernel_rfl, ⟨rfl, trivial⟩, (fun h => by cases h), by kernel_rfl⟩
theorem ty_17 : TyOk Try.prog 17 ⟨false, 1, [.one (Value.pointer none)], []⟩ := ⟨by kernel_rfl, by kernel_rfl, by kernel_rfl, by kernel_rfl, ⟨rfl, trivial⟩, (fun h => by cases h), by kernel_rfl⟩
theorem ty_18 : TyOk Try.prog 18 ⟨true, 1, [.one (Value.pointer none)], [(0, 1)]⟩ := ⟨by kernel_rfl, by kernel_rfl, by kernel_rfl, by kernel_rfl, ⟨rfl, trivial⟩, (fun _ => by kernel_rfl), by kernel_rfl⟩
theorem ty_19 : TyOk Try.prog 19 ⟨true, 1, [.one (Value.pointer none)], [(0, 1)]⟩ := ⟨by kernel_rfl, by kernel_rfl, by kernel_rfl, by kernel_rfl, ⟨rfl, trivial⟩, (fun _ => by kernel_rfl), by kernel_rfl⟩
theorem ty_22 : TyOk Try.prog 22 ⟨false, 1, [.one (Value.slice none 0 0)], []⟩ := ⟨by kernel_rfl, by kernel_rfl, by kernel_rfl, by kernel_rfl, ⟨rfl, trivial⟩, (fun h => by cases h), by kernel_rfl⟩
theorem ty_23 : TyOk Try.prog 23 ⟨false, 1, [.one (Value.pointer none)], []⟩ := ⟨by kernel_rfl, by kernel_rfl, by kernel_rfl, by kernel_rfl, ⟨rfl, trivial⟩, (fun h => by cases h), by kernel_rfl⟩
theorem ty_28 : TyOk Try.prog 28 ⟨false, 1, [.one (Value.int .u32 0)], []⟩ := ⟨by kernel_rfl, by kernel_rfl, by kernel_rfl, by kernel_rfl, ⟨rfl, trivial⟩, (fun h => by cases h), by kernel_rfl⟩
theorem ty_29 : TyOk Try.prog 29 ⟨true, 7, [.one (Value.int .i64 0), .one (Value.bool false), .one (Value.int .u32 0), .one (Value.int .i64 0), .one (Value.int .u32 0), .one (Value.int .u32 0), .one (Value.string ⟨#[]⟩)], [(0, 1), (1, 1), (2, 1), (3, 1), (4, 1), (5, 1), (6, 1)]⟩ := ⟨by kernel_rfl, by kernel_rfl, by kernel_rfl, by kernel_rfl, ⟨rfl, ⟨rfl, ⟨rfl, ⟨rfl, ⟨rfl, ⟨rfl, ⟨rfl, trivial⟩⟩⟩⟩⟩⟩⟩, (fun _ => by kernel_rfl), by kernel_rfl⟩
theorem ty_30 : TyOk Try.prog 30 ⟨true, 7, [.one (Value.int .i64 0), .one (Value.bool false), .one (Value.int .u32 0), .one (Value.int .i64 0), .one (Value.int .u32 0), .one (Value.int .u32 0), .one (Value.string ⟨#[]⟩)], [(0, 1), (1, 1), (2, 1), (3, 1), (4, 1), (5, 1), (6, 1)]⟩ := ⟨by kernel_rfl, by kernel_rfl, by kernel_rfl, by kernel_rfl, ⟨rfl, ⟨rfl, ⟨rfl, ⟨rfl, ⟨rfl, ⟨rfl, ⟨rfl, trivial⟩⟩⟩⟩⟩⟩⟩, (fun _ => by kernel_rfl), by kernel_rfl⟩
theorem ty_35 : TyOk Try.prog 35 ⟨false, 1, [.one (Value.slice none 0 0)], []⟩ := ⟨by kernel_rfl, by kernel_rfl, by kernel_rfl, by kernel_rfl, ⟨rfl, trivial⟩, (fun h => by cases h), by kernel_rfl⟩
theorem ty_36 : TyOk Try.prog 36 ⟨false, 1, [.one (Value.pointer none)], []⟩ := ⟨by kernel_rfl, by kernel_rfl, by kernel_rfl, by kernel_rfl, ⟨rfl, trivial⟩, (fun h => by cases h), by kernel_rfl⟩
theorem ty_38 : TyOk Try.prog 38 ⟨true, 4, [.one (Value.int .i64 0), .one (Value.int .i64 0), .one (Value.int .i64 0), .one (Value.slice none 0 0)], [(0, 1), (1, 1), (2, 1), (3, 1)]⟩ := ⟨by kernel_rfl, by kernel_rfl, by kernel_rfl, by kernel_rfl, ⟨rfl, ⟨rfl, ⟨rfl, ⟨rfl, trivial⟩⟩⟩⟩, (fun _ => by kernel_rfl), by kernel_rfl⟩
theorem ty_39 : TyOk Try.prog 39 ⟨true, 4, [.one (Value.int .i64 0), .one (Value.int .i64 0), .one (Value.int .i64 0), .one (Value.slice none 0 0)], [(0, 1), (1, 1), (2, 1), (3, 1)]⟩ := ⟨by kernel_rfl, by kernel_rfl, by kernel_rfl, by kernel_rfl, ⟨rfl, ⟨rfl, ⟨rfl, ⟨rfl, trivial⟩⟩⟩⟩, (fun _ => by kernel_rfl), by kernel_rfl⟩
theorem ty_45 : TyOk Try.prog 45 ⟨true, 5, [.one (Value.int .i64 0), .one (Value.slice none 0 0), .one (Value.int .i64 0), .one (Value.int .i64 0), .one (Value.int .i64 0)], [(0, 1), (1, 1), (2, 1), (3, 1), (4, 1)]⟩ := ⟨by kernel_rfl, by kernel_rfl, by kernel_rfl, by kernel_rfl, ⟨rfl, ⟨rfl, ⟨rfl, ⟨rfl, ⟨rfl, trivial⟩⟩⟩⟩⟩, (fun _ => by kernel_rfl), by kernel_rfl⟩
theorem ty_46 : TyOk Try.prog 46 ⟨true, 5, [.one (Value.int .i64 0), .one (Value.slice none 0 0), .one (Value.int .i64 0), .one (Value.int .i64 0), .one (Value.int .i64 0)], [(0, 1), (1, 1), (2, 1), (3, 1), (4, 1)]⟩ := ⟨by kernel_rfl, by kernel_rfl, by kernel_rfl, by kernel_rfl, ⟨rfl, ⟨rfl, ⟨rfl, ⟨rfl, ⟨rfl, trivial⟩⟩⟩⟩⟩, (fun _ => by kernel_rfl), by kernel_rfl⟩
theorem ty_57 : TyOk Try.prog 57 ⟨true, 2, [.many (zeroL Try.prog 54) 0, .many (zeroL Try.prog 56) 2], [(0, 0), (0, 2)]⟩ := ⟨by kernel_rfl, by kernel_rfl, by kernel_rfl, by kernel_rfl, ⟨OkA.z (by kernel_rfl) (by kernel_rfl), ⟨OkA.z (by kernel_rfl) (by kernel_rfl), trivial⟩⟩, (fun _ => by kernel_rfl), by kernel_rfl⟩
theorem ty_58 : TyOk Try.prog 58 ⟨true, 2, [.many (zeroL Try.prog 54) 0, .many (zeroL Try.prog 56) 2], [(0, 0), (0, 2)]⟩ := ⟨by kernel_rfl, by kernel_rfl, by kernel_rfl, by kernel_rfl, ⟨OkA.z (by kernel_rfl) (by kernel_rfl), ⟨OkA.z (by kernel_rfl) (by kernel_rfl), trivial⟩⟩, (fun _ => by kernel_rfl), by kernel_rfl⟩
theorem ty_59 : TyOk Try.prog 59 ⟨true, 7, [.many (zeroL Try.prog 58) 2, .one (Value.int .i64 0), .one (Value.slice none 0 0), .one (Value.int .i64 0), .one (Value.int .i64 0), .one (Value.int .i64 0)], [(0, 2), (2, 1), (3, 1), (4, 1), (5, 1), (6, 1)]⟩ := ⟨by kernel_rfl, by kernel_rfl, by kernel_rfl, by kernel_rfl, ⟨OkA.z (by kernel_rfl) (by kernel_rfl), ⟨rfl, ⟨rfl, ⟨rfl, ⟨rfl, ⟨rfl, trivial⟩⟩⟩⟩⟩⟩, (fun _ => by kernel_rfl), by kernel_rfl⟩
theorem ty_60 : TyOk Try.prog 60 ⟨true, 7, [.many (zeroL Try.prog 58) 2, .one (Value.int .i64 0), .one (Value.slice none 0 0), .one (Value.int .i64 0), .one (Value.int .i64 0), .one (Value.int .i64 0)], [(0, 2), (2, 1), (3, 1), (4, 1), (5, 1), (6, 1)]⟩ := ⟨by kernel_rfl, by kernel_rfl, by kernel_rfl, by kernel_rfl, ⟨OkA.z (by kernel_rfl) (by kernel_rfl), ⟨rfl, ⟨rfl, ⟨rfl, ⟨rfl, ⟨rfl, trivial⟩⟩⟩⟩⟩⟩, (fun _ => by kernel_rfl), by kernel_rfl⟩
theorem ty_65 : TyOk Try.prog 65 ⟨false, 1, [.one (Value.pointer none)], []⟩ := ⟨by kernel_rfl, by kernel_rfl, by kernel_rfl, by kernel_rfl, ⟨rfl, trivial⟩, (fun h => by cases h), by kernel_rfl⟩
theorem ty_68 : TyOk Try.prog 68 ⟨false, 1, [.one (Value.pointer none)], []⟩ := ⟨by kernel_rfl, by kernel_rfl, by kernel_rfl, by kernel_rfl, ⟨rfl, trivial⟩, (fun h => by cases h), by kernel_rfl⟩
theorem ty_70 : TyOk Try.prog 70 ⟨false, 1, [.one (Value.pointer none)], []⟩ := ⟨by kernel_rfl, by kernel_rfl, by kernel_rfl, by kernel_rfl, ⟨rfl, trivial⟩, (fun h => by cases h), by kernel_rfl⟩
theorem ty_75 : TyOk Try.prog 75 ⟨false, 1, [.one (Value.int .u64 0)], []⟩ := ⟨by kernel_rfl, by kernel_rfl, by kernel_rfl, by kernel_rfl, ⟨rfl, trivial⟩, (fun h => by cases h), by kernel_rfl⟩
theorem ty_79 : TyOk Try.prog 79 ⟨false, 1, [.one (Value.pointer none)], []⟩ := ⟨by kernel_rfl, by kernel_rfl, by kernel_rfl, by kernel_rfl, ⟨rfl, trivial⟩, (fun h => by cases h), by kernel_rfl⟩
theorem ty_81 : TyOk Try.prog 81 ⟨true, 4, [.one (Value.pointer none), .one (Value.pointer none), .one (Value.pointer none), .one (Value.string ⟨#[]⟩)], [(0, 1), (1, 1), (2, 1), (3, 1)]⟩ := ⟨by kernel_rfl, by kernel_rfl, by kernel_rfl, by kernel_rfl, ⟨rfl, ⟨rfl, ⟨rfl, ⟨rfl, trivial⟩⟩⟩⟩, (fun _ => by kernel_rfl), by kernel_rfl⟩
theorem ty_82 : TyOk Try.prog 82 ⟨true, 4, [.one (Value.pointer none), .one (Value.pointer none), .one (Value.pointer none), .one (Value.string ⟨#[]⟩)], [(0, 1), (1, 1), (2, 1), (3, 1)]⟩ := ⟨by kernel_rfl, by kernel_rfl, by kernel_rfl, by kernel_rfl, ⟨rfl, ⟨rfl, ⟨rfl, ⟨rfl, trivial⟩⟩⟩⟩, (fun _ => by kernel_rfl), by kernel_rfl⟩
theorem ty_86 : TyOk Try.prog 86 ⟨false, 1, [.one (Value.int .u8 0)], []⟩ := ⟨by kernel_rfl, by kernel_rfl, by kernel_rfl, by kernel_rfl, ⟨rfl, trivial⟩, (fun h => by cases h), by kernel_rfl⟩
theorem ty_87 : TyOk Try.prog 87 ⟨false, 1, [.one (Value.int .u8 0)], []⟩ := ⟨by kernel_rfl, by kernel_rfl, by kernel_rfl, by kernel_rfl, ⟨rfl, trivial⟩, (fun h => by cases h), by kernel_rfl⟩
theorem ty_89 : TyOk Try.prog 89 ⟨false, 1, [.one (Value.pointer none)], []⟩ := ⟨by kernel_rfl, by kernel_rfl, by kernel_rfl, by kernel_rfl, ⟨rfl, trivial⟩, (fun h => by cases h), by kernel_rfl⟩
def tab (P : Program) : Tab := [(2, ⟨false, 1, [.one (Value.int .i64 0)], []⟩),
  (3, ⟨false, 1, [.one (Value.int .i64 0)], []⟩),
  (4, ⟨false, 1, [.one (Value.bool false)], []⟩),
  (5, ⟨false, 1, [.one (Value.int .u8 0)], []⟩),
  (6, ⟨false, 1, [.one (Value.int .u8 0)], []⟩),
  (7, ⟨true, 4, [.one (Value.int .i64 0), .one (Value.int .i64 0), .one (Value.bool false), .one (Value.int .u8 0)], [(0, 1), (1, 1), (2, 1), (3, 1)]⟩),
  (8, ⟨true, 4, [.one (Value.int .i64 0), .one (Value.int .i64 0), .one (Value.bool false), .one (Value.int .u8 0)], [(0, 1), (1, 1), (2, 1), (3, 1)]⟩),
  (9, ⟨false, 1, [.one (Value.string ⟨#[]⟩)], []⟩),
  (10, ⟨false, 1, [.one (Value.string ⟨#[]⟩)], []⟩),
  (11, ⟨false, 1, [.one (Value.string ⟨#[]⟩)], []⟩),
  (12, ⟨false, 1, [.one (Value.int .u64 0)], []⟩),
  (13, ⟨true, 2, [.one (Value.string ⟨#[]⟩), .one (Value.int .u64 0)], [(0, 1), (1, 1)]⟩),
  (14, ⟨true, 2, [.one (Value.string ⟨#[]⟩), .one (Value.int .u64 0)], [(0, 1), (1, 1)]⟩),
  (15, ⟨false, 1, [.one (Value.pointer none)], []⟩),
  (16, ⟨false, 1, [.one (Value.pointer none)], []⟩),
  (17, ⟨false, 1, [.one (Value.pointer none)], []⟩),
  (18, ⟨true, 1, [.one (Value.pointer none)], [(0, 1)]⟩),
  (19, ⟨true, 1, [.one (Value.pointer none)], [(0, 1)]⟩),
  (22, ⟨false, 1, [.one (Value.slice none 0 0)], []⟩),
  (23, ⟨false, 1, [.one (Value.pointer none)], []⟩),
  (28, ⟨false, 1, [.one (Value.int .u32 0)], []⟩),
  (29, ⟨true, 7, [.one (Value.int .i64 0), .one (Value.bool false), .one (Value.int .u32 0), .one (Value.int .i64 0), .one (Value.int .u32 0), .one (Value.int .u32 0), .one (Value.string ⟨#[]⟩)], [(0, 1), (1, 1), (2, 1), (3, 1), (4, 1), (5, 1), (6, 1)]⟩),
  (30, ⟨true, 7, [.one (Value.int .i64 0), .one (Value.bool false), .one (Value.int .u32 0), .one (Value.int .i64 0), .one (Value.int .u32 0), .one (Value.int .u32 0), .one (Value.string ⟨#[]⟩)], [(0, 1), (1, 1), (2, 1), (3, 1), (4, 1), (5, 1), (6, 1)]⟩),
  (35, ⟨false, 1, [.one (Value.slice none 0 0)], []⟩),
  (36, ⟨false, 1, [.one (Value.pointer none)], []⟩),
  (38, ⟨true, 4, [.one (Value.int .i64 0), .one (Value.int .i64 0), .one (Value.int .i64 0), .one (Value.slice none 0 0)], [(0, 1), (1, 1), (2, 1), (3, 1)]⟩),
  (39, ⟨true, 4, [.one (Value.int .i64 0), .one (Value.int .i64 0), .one (Value.int .i64 0), .one (Value.slice none 0 0)], [(0, 1), (1, 1), (2, 1), (3, 1)]⟩),
  (45, ⟨true, 5, [.one (Value.int .i64 0), .one (Value.slice none 0 0), .one (Value.int .i64 0), .one (Value.int .i64 0), .one (Value.int .i64 0)], [(0, 1), (1, 1), (2, 1), (3, 1), (4, 1)]⟩),
  (46, ⟨true, 5, [.one (Value.int .i64 0), .one (Value.slice none 0 0), .one (Value.int .i64 0), .one (Value.int .i64 0), .one (Value.int .i64 0)], [(0, 1), (1, 1), (2, 1), (3, 1), (4, 1)]⟩),
  (57, ⟨true, 2, [.many (zeroL P 54) 0, .many (zeroL P 56) 2], [(0, 0), (0, 2)]⟩),
  (58, ⟨true, 2, [.many (zeroL P 54) 0, .many (zeroL P 56) 2], [(0, 0), (0, 2)]⟩),
  (59, ⟨true, 7, [.many (zeroL P 58) 2, .one (Value.int .i64 0), .one (Value.slice none 0 0), .one (Value.int .i64 0), .one (Value.int .i64 0), .one (Value.int .i64 0)], [(0, 2), (2, 1), (3, 1), (4, 1), (5, 1), (6, 1)]⟩),
  (60, ⟨true, 7, [.many (zeroL P 58) 2, .one (Value.int .i64 0), .one (Value.slice none 0 0), .one (Value.int .i64 0), .one (Value.int .i64 0), .one (Value.int .i64 0)], [(0, 2), (2, 1), (3, 1), (4, 1), (5, 1), (6, 1)]⟩),
  (65, ⟨false, 1, [.one (Value.pointer none)], []⟩),
  (68, ⟨false, 1, [.one (Value.pointer none)], []⟩),
  (70, ⟨false, 1, [.one (Value.pointer none)], []⟩),
  (75, ⟨false, 1, [.one (Value.int .u64 0)], []⟩),
  (79, ⟨false, 1, [.one (Value.pointer none)], []⟩),
  (81, ⟨true, 4, [.one (Value.pointer none), .one (Value.pointer none), .one (Value.pointer none), .one (Value.string ⟨#[]⟩)], [(0, 1), (1, 1), (2, 1), (3, 1)]⟩),
  (82, ⟨true, 4, [.one (Value.pointer none), .one (Value.pointer none), .one (Value.pointer none), .one (Value.string ⟨#[]⟩)], [(0, 1), (1, 1), (2, 1), (3, 1)]⟩),
  (86, ⟨false, 1, [.one (Value.int .u8 0)], []⟩),
  (87, ⟨false, 1, [.one (Value.int .u8 0)], []⟩),
  (89, ⟨false, 1, [.one (Value.pointer none)], []⟩)]
theorem tab_ok : TabOk Try.prog (tab Try.prog) := by
  intro p hp
  unfold tab at hp
  rcases List.mem_cons.1 hp with rfl | hp
  · exact ty_2
  rcases List.mem_cons.1 hp with rfl | hp
  · exact ty_3
  rcases List.mem_cons.1 hp with rfl | hp
  · exact ty_4
  rcases List.mem_cons.1 hp with rfl | hp
  · exact ty_5
  rcases List.mem_cons.1 hp with rfl | hp
  · exact ty_6
  rcases List.mem_cons.1 hp with rfl | hp
  · exact ty_7
  rcases List.mem_cons.1 hp with rfl | hp
  · exact ty_8
  rcases List.mem_cons.1 hp with rfl | hp
  · exact ty_9
  rcases List.mem_cons.1 hp with rfl | hp
  · exact ty_10
  rcases List.mem_cons.1 hp with rfl | hp
  · exact ty_11
  rcases List.mem_cons.1 hp with rfl | hp
  · exact ty_12
  rcases List.mem_cons.1 hp with rfl | hp
  · exact ty_13
  rcases List.mem_cons.1 hp with rfl | hp
  · exact ty_14
  rcases List.mem_cons.1 hp with rfl | hp
  · exact ty_15
  rcases List.mem_cons.1 hp with rfl | hp
  · exact ty_16
  rcases List.mem_cons.1 hp with rfl | hp
  · exact ty_17
  rcases List.mem_cons.1 hp with rfl | hp
  · exact ty_18
  rcases List.mem_cons.1 hp with rfl | hp
  · exact ty_19
  rcases List.mem_cons.1 hp with rfl | hp
  · exact ty_22
  rcases List.mem_cons.1 hp with rfl | hp
  · exact ty_23
  rcases List.mem_cons.1 hp with rfl | hp
  · exact ty_28
  rcases List.mem_cons.1 hp with rfl | hp
  · exact ty_29
  rcases List.mem_cons.1 hp with rfl | hp
  · exact ty_30
  rcases List.mem_cons.1 hp with rfl | hp
  · exact ty_35
  rcases List.mem_cons.1 hp with rfl | hp
  · exact ty_36
  rcases List.mem_cons.1 hp with rfl | hp
  · exact ty_38
  rcases List.mem_cons.1 hp with rfl | hp
  · exact ty_39
  rcases List.mem_cons.1 hp with rfl | hp
  · exact ty_45
  rcases List.mem_cons.1 hp with rfl | hp
  · exact ty_46
  rcases List.mem_cons.1 hp with rfl | hp
  · exact ty_57
  rcases List.mem_cons.1 hp with rfl | hp
  · exact ty_58
  rcases List.mem_cons.1 hp with rfl | hp
  · exact ty_59
  rcases List.mem_cons.1 hp with rfl | hp
  · exact ty_60
  rcases List.mem_cons.1 hp with rfl | hp
  · exact ty_65
  rcases List.mem_cons.1 hp with rfl | hp
  · exact ty_68
  rcases List.mem_cons.1 hp with rfl | hp
  · exact ty_70
  rcases List.mem_cons.1 hp with rfl | hp
  · exact ty_75
  rcases List.mem_cons.1 hp with rfl | hp
  · exact ty_79
  rcases List.mem_cons.1 hp with rfl | hp
  · exact ty_81
  rcases List.mem_cons.1 hp with rfl | hp
  · exact ty_82
  rcases List.mem_cons.1 hp with rfl | hp
  · exact ty_86
  rcases List.mem_cons.1 hp with rfl | hp
  · exact ty_87
  rcases List.mem_cons.1 hp with rfl | hp
  · exact ty_89
  exact absurd hp (by simp)
end Go.Proofs.Ytknlhhmcidimaaa

/-
  The types of the seat's program: kinds, sizes, zeros, places.
-/
import Derived.Test.YtcijplfamodjaaaHp
import Derived.Test.YtcijplfamodjaaaRows
namespace Go.Proofs.Ytcijplfamodjaaa
set_option linter.unusedVariables false

@[simp] theorem rowT_2 : rowT Try.prog 2 = some false := by kernel_rfl
@[simp] theorem sizeT_2 : sizeT Try.prog 2 = some 1 := by kernel_rfl
@[simp] theorem zeroOk_2 : zeroOk Try.prog 2 = true := by kernel_rfl
@[simp] theorem zoneOk_2 : zoneOk Try.prog 2 = true := by kernel_rfl
@[simp] theorem zlenOk_2 : zlenOk Try.prog 2 = true := by kernel_rfl
@[simp] theorem rowT_3 : rowT Try.prog 3 = some false := by kernel_rfl
@[simp] theorem sizeT_3 : sizeT Try.prog 3 = some 1 := by kernel_rfl
@[simp] theorem zeroOk_3 : zeroOk Try.prog 3 = true := by kernel_rfl
@[simp] theorem zoneOk_3 : zoneOk Try.prog 3 = true := by kernel_rfl
@[simp] theorem zlenOk_3 : zlenOk Try.prog 3 = true := by kernel_rfl
@[simp] theorem rowT_4 : rowT Try.prog 4 = some false := by kernel_rfl
@[simp] theorem sizeT_4 : sizeT Try.prog 4 = some 1 := by kernel_rfl
@[simp] theorem zeroOk_4 : zeroOk Try.prog 4 = true := by kernel_rfl
@[simp] theorem zoneOk_4 : zoneOk Try.prog 4 = true := by kernel_rfl
@[simp] theorem zlenOk_4 : zlenOk Try.prog 4 = true := by kernel_rfl
@[simp] theorem rowT_5 : rowT Try.prog 5 = some false := by kernel_rfl
@[simp] theorem sizeT_5 : sizeT Try.prog 5 = some 1 := by kernel_rfl
@[simp] theorem zeroOk_5 : zeroOk Try.prog 5 = true := by kernel_rfl
@[simp] theorem zoneOk_5 : zoneOk Try.prog 5 = true := by kernel_rfl
@[simp] theorem zlenOk_5 : zlenOk Try.prog 5 = true := by kernel_rfl
@[simp] theorem rowT_6 : rowT Try.prog 6 = some false := by kernel_rfl
@[simp] theorem sizeT_6 : sizeT Try.prog 6 = some 1 := by kernel_rfl
@[simp] theorem zeroOk_6 : zeroOk Try.prog 6 = true := by kernel_rfl
@[simp] theorem zoneOk_6 : zoneOk Try.prog 6 = true := by kernel_rfl
@[simp] theorem zlenOk_6 : zlenOk Try.prog 6 = true := by kernel_rfl
@[simp] theorem rowT_7 : rowT Try.prog 7 = some true := by kernel_rfl
@[simp] theorem sizeT_7 : sizeT Try.prog 7 = some 4 := by kernel_rfl
@[simp] theorem zeroOk_7 : zeroOk Try.prog 7 = true := by kernel_rfl
@[simp] theorem zoneOk_7 : zoneOk Try.prog 7 = true := by kernel_rfl
@[simp] theorem zlenOk_7 : zlenOk Try.prog 7 = true := by kernel_rfl
@[simp] theorem builtOk_7 : builtOk Try.prog 7 = true := by kernel_rfl
theorem lenZ_7 : Len (zeroL Try.prog 7) 4 := (by kernel_rfl : (zeroL Try.prog 7).length = 4)
theorem zeroT_7 : zeroL Try.prog 7 = Value.int .i64 0 :: (Value.int .i64 0 :: (Value.bool false :: ([Value.int .u8 0]))) := by kernel_rfl
@[simp] theorem placeT_7_0 : placeT Try.prog 7 0 = some (0, 1) := by kernel_rfl
@[simp] theorem placeT_7_1 : placeT Try.prog 7 1 = some (1, 1) := by kernel_rfl
@[simp] theorem placeT_7_2 : placeT Try.prog 7 2 = some (2, 1) := by kernel_rfl
@[simp] theorem placeT_7_3 : placeT Try.prog 7 3 = some (3, 1) := by kernel_rfl
@[simp] theorem rowT_8 : rowT Try.prog 8 = some true := by kernel_rfl
@[simp] theorem sizeT_8 : sizeT Try.prog 8 = some 4 := by kernel_rfl
@[simp] theorem zeroOk_8 : zeroOk Try.prog 8 = true := by kernel_rfl
@[simp] theorem zoneOk_8 : zoneOk Try.prog 8 = true := by kernel_rfl
@[simp] theorem zlenOk_8 : zlenOk Try.prog 8 = true := by kernel_rfl
@[simp] theorem builtOk_8 : builtOk Try.prog 8 = true := by kernel_rfl
theorem lenZ_8 : Len (zeroL Try.prog 8) 4 := (by kernel_rfl : (zeroL Try.prog 8).length = 4)
theorem zeroT_8 : zeroL Try.prog 8 = Value.int .i64 0 :: (Value.int .i64 0 :: (Value.bool false :: ([Value.int .u8 0]))) := by kernel_rfl
@[simp] theorem placeT_8_0 : placeT Try.prog 8 0 = some (0, 1) := by kernel_rfl
@[simp] theorem placeT_8_1 : placeT Try.prog 8 1 = some (1, 1) := by kernel_rfl
@[simp] theorem placeT_8_2 : placeT Try.prog 8 2 = some (2, 1) := by kernel_rfl
@[simp] theorem placeT_8_3 : placeT Try.prog 8 3 = some (3, 1) := by kernel_rfl
@[simp] theorem rowT_9 : rowT Try.prog 9 = some false := by kernel_rfl
@[simp] theorem sizeT_9 : sizeT Try.prog 9 = some 1 := by kernel_rfl
@[simp] theorem zeroOk_9 : zeroOk Try.prog 9 = true := by kernel_rfl
@[simp] theorem zoneOk_9 : zoneOk Try.prog 9 = true := by kernel_rfl
@[simp] theorem zlenOk_9 : zlenOk Try.prog 9 = true := by kernel_rfl
@[simp] theorem rowT_10 : rowT Try.prog 10 = some false := by kernel_rfl
@[simp] theorem sizeT_10 : sizeT Try.prog 10 = some 1 := by kernel_rfl
@[simp] theorem zeroOk_10 : zeroOk Try.prog 10 = true := by kernel_rfl
@[simp] theorem zoneOk_10 : zoneOk Try.prog 10 = true := by kernel_rfl
@[simp] theorem zlenOk_10 : zlenOk Try.prog 10 = true := by kernel_rfl
@[simp] theorem rowT_11 : rowT Try.prog 11 = some false := by kernel_rfl
@[simp] theorem sizeT_11 : sizeT Try.prog 11 = some 1 := by kernel_rfl
@[simp] theorem zeroOk_11 : zeroOk Try.prog 11 = true := by kernel_rfl
@[simp] theorem zoneOk_11 : zoneOk Try.prog 11 = true := by kernel_rfl
@[simp] theorem zlenOk_11 : zlenOk Try.prog 11 = true := by kernel_rfl
@[simp] theorem rowT_12 : rowT Try.prog 12 = some false := by kernel_rfl
@[simp] theorem sizeT_12 : sizeT Try.prog 12 = some 1 := by kernel_rfl
@[simp] theorem zeroOk_12 : zeroOk Try.prog 12 = true := by kernel_rfl
@[simp] theorem zoneOk_12 : zoneOk Try.prog 12 = true := by kernel_rfl
@[simp] theorem zlenOk_12 : zlenOk Try.prog 12 = true := by kernel_rfl
@[simp] theorem rowT_13 : rowT Try.prog 13 = some true := by kernel_rfl
@[simp] theorem sizeT_13 : sizeT Try.prog 13 = some 2 := by kernel_rfl
@[simp] theorem zeroOk_13 : zeroOk Try.prog 13 = true := by kernel_rfl
@[simp] theorem zoneOk_13 : zoneOk Try.prog 13 = true := by kernel_rfl
@[simp] theorem zlenOk_13 : zlenOk Try.prog 13 = true := by kernel_rfl
@[simp] theorem builtOk_13 : builtOk Try.prog 13 = true := by kernel_rfl
theorem lenZ_13 : Len (zeroL Try.prog 13) 2 := (by kernel_rfl : (zeroL Try.prog 13).length = 2)
theorem zeroT_13 : zeroL Try.prog 13 = Value.string ⟨#[]⟩ :: ([Value.int .u64 0]) := by kernel_rfl
@[simp] theorem placeT_13_0 : placeT Try.prog 13 0 = some (0, 1) := by kernel_rfl
@[simp] theorem placeT_13_1 : placeT Try.prog 13 1 = some (1, 1) := by kernel_rfl
@[simp] theorem rowT_14 : rowT Try.prog 14 = some true := by kernel_rfl
@[simp] theorem sizeT_14 : sizeT Try.prog 14 = some 2 := by kernel_rfl
@[simp] theorem zeroOk_14 : zeroOk Try.prog 14 = true := by kernel_rfl
@[simp] theorem zoneOk_14 : zoneOk Try.prog 14 = true := by kernel_rfl
@[simp] theorem zlenOk_14 : zlenOk Try.prog 14 = true := by kernel_rfl
@[simp] theorem builtOk_14 : builtOk Try.prog 14 = true := by kernel_rfl
theorem lenZ_14 : Len (zeroL Try.prog 14) 2 := (by kernel_rfl : (zeroL Try.prog 14).length = 2)
theorem zeroT_14 : zeroL Try.prog 14 = Value.string ⟨#[]⟩ :: ([Value.int .u64 0]) := by kernel_rfl
@[simp] theorem placeT_14_0 : placeT Try.prog 14 0 = some (0, 1) := by kernel_rfl
@[simp] theorem placeT_14_1 : placeT Try.prog 14 1 = some (1, 1) := by kernel_rfl
@[simp] theorem rowT_15 : rowT Try.prog 15 = some false := by kernel_rfl
@[simp] theorem sizeT_15 : sizeT Try.prog 15 = some 1 := by kernel_rfl
@[simp] theorem zeroOk_15 : zeroOk Try.prog 15 = true := by kernel_rfl
@[simp] theorem zoneOk_15 : zoneOk Try.prog 15 = true := by kernel_rfl
@[simp] theorem zlenOk_15 : zlenOk Try.prog 15 = true := by kernel_rfl
@[simp] theorem rowT_16 : rowT Try.prog 16 = some false := by kernel_rfl
@[simp] theorem sizeT_16 : sizeT Try.prog 16 = some 1 := by kernel_rfl
@[simp] theorem zeroOk_16 : zeroOk Try.prog 16 = true := by kernel_rfl
@[simp] theorem zoneOk_16 : zoneOk Try.prog 16 = true := by kernel_rfl
@[simp] theorem zlenOk_16 : zlenOk Try.prog 16 = true := by kernel_rfl
@[simp] theorem rowT_17 : rowT Try.prog 17 = some false := by kernel_rfl
@[simp] theorem sizeT_17 : sizeT Try.prog 17 = some 1 := by kernel_rfl
@[simp] theorem zeroOk_17 : zeroOk Try.prog 17 = true := by kernel_rfl
@[simp] theorem zoneOk_17 : zoneOk Try.prog 17 = true := by kernel_rfl
@[simp] theorem zlenOk_17 : zlenOk Try.prog 17 = true := by kernel_rfl
@[simp] theorem rowT_18 : rowT Try.prog 18 = some true := by kernel_rfl
@[simp] theorem sizeT_18 : sizeT Try.prog 18 = some 1 := by kernel_rfl
@[simp] theorem zeroOk_18 : zeroOk Try.prog 18 = true := by kernel_rfl
@[simp] theorem zoneOk_18 : zoneOk Try.prog 18 = true := by kernel_rfl
@[simp] theorem zlenOk_18 : zlenOk Try.prog 18 = true := by kernel_rfl
@[simp] theorem builtOk_18 : builtOk Try.prog 18 = true := by kernel_rfl
theorem lenZ_18 : Len (zeroL Try.prog 18) 1 := (by kernel_rfl : (zeroL Try.prog 18).length = 1)
theorem zeroT_18 : zeroL Try.prog 18 = [Value.pointer none] := by kernel_rfl
@[simp] theorem placeT_18_0 : placeT Try.prog 18 0 = some (0, 1) := by kernel_rfl
@[simp] theorem rowT_19 : rowT Try.prog 19 = some true := by kernel_rfl
@[simp] theorem sizeT_19 : sizeT Try.prog 19 = some 1 := by kernel_rfl
@[simp] theorem zeroOk_19 : zeroOk Try.prog 19 = true := by kernel_rfl
@[simp] theorem zoneOk_19 : zoneOk Try.prog 19 = true := by kernel_rfl
@[simp] theorem zlenOk_19 : zlenOk Try.prog 19 = true := by kernel_rfl
@[simp] theorem builtOk_19 : builtOk Try.prog 19 = true := by kernel_rfl
theorem lenZ_19 : Len (zeroL Try.prog 19) 1 := (by kernel_rfl : (zeroL Try.prog 19).length = 1)
theorem zeroT_19 : zeroL Try.prog 19 = [Value.pointer none] := by kernel_rfl
@[simp] theorem placeT_19_0 : placeT Try.prog 19 0 = some (0, 1) := by kernel_rfl
@[simp] theorem rowT_21 : rowT Try.prog 21 = some false := by kernel_rfl
@[simp] theorem sizeT_21 : sizeT Try.prog 21 = some 1 := by kernel_rfl
@[simp] theorem zeroOk_21 : zeroOk Try.prog 21 = true := by kernel_rfl
@[simp] theorem zoneOk_21 : zoneOk Try.prog 21 = true := by kernel_rfl
@[simp] theorem zlenOk_21 : zlenOk Try.prog 21 = true := by kernel_rfl
@[simp] theorem rowT_23 : rowT Try.prog 23 = some true := by kernel_rfl
@[simp] theorem sizeT_23 : sizeT Try.prog 23 = some 16 := by kernel_rfl
@[simp] theorem zeroOk_23 : zeroOk Try.prog 23 = true := by kernel_rfl
@[simp] theorem zoneOk_23 : zoneOk Try.prog 23 = true := by kernel_rfl
@[simp] theorem zlenOk_23 : zlenOk Try.prog 23 = true := by kernel_rfl
@[simp] theorem builtOk_23 : builtOk Try.prog 23 = true := by kernel_rfl
theorem lenZ_23 : Len (zeroL Try.prog 23) 16 := (by kernel_rfl : (zeroL Try.prog 23).length = 16)
theorem zeroT_23 : zeroL Try.prog 23 = Value.int .u8 0 :: (Value.int .u8 0 :: (Value.int .u8 0 :: (Value.int .u8 0 :: (Value.int .u8 0 :: (Value.int .u8 0 :: (Value.int .u8 0 :: (Value.int .u8 0 :: (Value.int .u8 0 :: (Value.int .u8 0 :: (Value.int .u8 0 :: (Value.int .u8 0 :: (Value.int .u8 0 :: (Value.int .u8 0 :: (Value.int .u8 0 :: ([Value.int .u8 0]))))))))))))))) := by kernel_rfl
@[simp] theorem placeT_23_0 : placeT Try.prog 23 0 = some (0, 1) := by kernel_rfl
@[simp] theorem placeT_23_1 : placeT Try.prog 23 1 = some (1, 1) := by kernel_rfl
@[simp] theorem placeT_23_2 : placeT Try.prog 23 2 = some (2, 1) := by kernel_rfl
@[simp] theorem placeT_23_3 : placeT Try.prog 23 3 = some (3, 1) := by kernel_rfl
@[simp] theorem placeT_23_4 : placeT Try.prog 23 4 = some (4, 1) := by kernel_rfl
@[simp] theorem placeT_23_5 : placeT Try.prog 23 5 = some (5, 1) := by kernel_rfl
@[simp] theorem placeT_23_6 : placeT Try.prog 23 6 = some (6, 1) := by kernel_rfl
@[simp] theorem placeT_23_7 : placeT Try.prog 23 7 = some (7, 1) := by kernel_rfl
@[simp] theorem placeT_23_8 : placeT Try.prog 23 8 = some (8, 1) := by kernel_rfl
@[simp] theorem placeT_23_9 : placeT Try.prog 23 9 = some (9, 1) := by kernel_rfl
@[simp] theorem placeT_23_10 : placeT Try.prog 23 10 = some (10, 1) := by kernel_rfl
@[simp] theorem placeT_23_11 : placeT Try.prog 23 11 = some (11, 1) := by kernel_rfl
@[simp] theorem placeT_23_12 : placeT Try.prog 23 12 = some (12, 1) := by kernel_rfl
@[simp] theorem placeT_23_13 : placeT Try.prog 23 13 = some (13, 1) := by kernel_rfl
@[simp] theorem placeT_23_14 : placeT Try.prog 23 14 = some (14, 1) := by kernel_rfl
@[simp] theorem placeT_23_15 : placeT Try.prog 23 15 = some (15, 1) := by kernel_rfl
@[simp] theorem rowT_24 : rowT Try.prog 24 = some true := by kernel_rfl
@[simp] theorem sizeT_24 : sizeT Try.prog 24 = some 17 := by kernel_rfl
@[simp] theorem zeroOk_24 : zeroOk Try.prog 24 = true := by kernel_rfl
@[simp] theorem zoneOk_24 : zoneOk Try.prog 24 = true := by kernel_rfl
@[simp] theorem zlenOk_24 : zlenOk Try.prog 24 = true := by kernel_rfl
@[simp] theorem builtOk_24 : builtOk Try.prog 24 = true := by kernel_rfl
theorem lenZ_24 : Len (zeroL Try.prog 24) 17 := (by kernel_rfl : (zeroL Try.prog 24).length = 17)
theorem zeroT_24 : zeroL Try.prog 24 = Value.bool false :: (zeroL Try.prog 23) := by kernel_rfl
@[simp] theorem placeT_24_0 : placeT Try.prog 24 0 = some (0, 1) := by kernel_rfl
@[simp] theorem placeT_24_1 : placeT Try.prog 24 1 = some (1, 16) := by kernel_rfl
@[simp] theorem rowT_25 : rowT Try.prog 25 = some true := by kernel_rfl
@[simp] theorem sizeT_25 : sizeT Try.prog 25 = some 17 := by kernel_rfl
@[simp] theorem zeroOk_25 : zeroOk Try.prog 25 = true := by kernel_rfl
@[simp] theorem zoneOk_25 : zoneOk Try.prog 25 = true := by kernel_rfl
@[simp] theorem zlenOk_25 : zlenOk Try.prog 25 = true := by kernel_rfl
@[simp] theorem builtOk_25 : builtOk Try.prog 25 = true := by kernel_rfl
theorem lenZ_25 : Len (zeroL Try.prog 25) 17 := (by kernel_rfl : (zeroL Try.prog 25).length = 17)
theorem zeroT_25 : zeroL Try.prog 25 = Value.bool false :: (zeroL Try.prog 23) := by kernel_rfl
@[simp] theorem placeT_25_0 : placeT Try.prog 25 0 = some (0, 1) := by kernel_rfl
@[simp] theorem placeT_25_1 : placeT Try.prog 25 1 = some (1, 16) := by kernel_rfl
@[simp] theorem rowT_26 : rowT Try.prog 26 = some true := by kernel_rfl
@[simp] theorem sizeT_26 : sizeT Try.prog 26 = some 40 := by kernel_rfl
@[simp] theorem zeroOk_26 : zeroOk Try.prog 26 = true := by kernel_rfl
@[simp] theorem zoneOk_26 : zoneOk Try.prog 26 = true := by kernel_rfl
@[simp] theorem zlenOk_26 : zlenOk Try.prog 26 = true := by kernel_rfl
@[simp] theorem builtOk_26 : builtOk Try.prog 26 = true := by kernel_rfl
theorem lenZ_26 : Len (zeroL Try.prog 26) 40 := (by kernel_rfl : (zeroL Try.prog 26).length = 40)
theorem zeroT_26 : zeroL Try.prog 26 = Value.int .i64 0 :: (Value.int .i64 0 :: (Value.int .i64 0 :: (Value.int .i64 0 :: (zeroL Try.prog 25 ++ (zeroL Try.prog 25 ++ (Value.bool false :: ([Value.string ⟨#[]⟩]))))))) := by kernel_rfl
@[simp] theorem placeT_26_0 : placeT Try.prog 26 0 = some (0, 1) := by kernel_rfl
@[simp] theorem placeT_26_1 : placeT Try.prog 26 1 = some (1, 1) := by kernel_rfl
@[simp] theorem placeT_26_2 : placeT Try.prog 26 2 = some (2, 1) := by kernel_rfl
@[simp] theorem placeT_26_3 : placeT Try.prog 26 3 = some (3, 1) := by kernel_rfl
@[simp] theorem placeT_26_4 : placeT Try.prog 26 4 = some (4, 17) := by kernel_rfl
@[simp] theorem placeT_26_5 : placeT Try.prog 26 5 = some (21, 17) := by kernel_rfl
@[simp] theorem placeT_26_6 : placeT Try.prog 26 6 = some (38, 1) := by kernel_rfl
@[simp] theorem placeT_26_7 : placeT Try.prog 26 7 = some (39, 1) := by kernel_rfl
@[simp] theorem rowT_27 : rowT Try.prog 27 = some true := by kernel_rfl
@[simp] theorem sizeT_27 : sizeT Try.prog 27 = some 40 := by kernel_rfl
@[simp] theorem zeroOk_27 : zeroOk Try.prog 27 = true := by kernel_rfl
@[simp] theorem zoneOk_27 : zoneOk Try.prog 27 = true := by kernel_rfl
@[simp] theorem zlenOk_27 : zlenOk Try.prog 27 = true := by kernel_rfl
@[simp] theorem builtOk_27 : builtOk Try.prog 27 = true := by kernel_rfl
theorem lenZ_27 : Len (zeroL Try.prog 27) 40 := (by kernel_rfl : (zeroL Try.prog 27).length = 40)
theorem zeroT_27 : zeroL Try.prog 27 = Value.int .i64 0 :: (Value.int .i64 0 :: (Value.int .i64 0 :: (Value.int .i64 0 :: (zeroL Try.prog 25 ++ (zeroL Try.prog 25 ++ (Value.bool false :: ([Value.string ⟨#[]⟩]))))))) := by kernel_rfl
@[simp] theorem placeT_27_0 : placeT Try.prog 27 0 = some (0, 1) := by kernel_rfl
@[simp] theorem placeT_27_1 : placeT Try.prog 27 1 = some (1, 1) := by kernel_rfl
@[simp] theorem placeT_27_2 : placeT Try.prog 27 2 = some (2, 1) := by kernel_rfl
@[simp] theorem placeT_27_3 : placeT Try.prog 27 3 = some (3, 1) := by kernel_rfl
@[simp] theorem placeT_27_4 : placeT Try.prog 27 4 = some (4, 17) := by kernel_rfl
@[simp] theorem placeT_27_5 : placeT Try.prog 27 5 = some (21, 17) := by kernel_rfl
@[simp] theorem placeT_27_6 : placeT Try.prog 27 6 = some (38, 1) := by kernel_rfl
@[simp] theorem placeT_27_7 : placeT Try.prog 27 7 = some (39, 1) := by kernel_rfl
@[simp] theorem rowT_28 : rowT Try.prog 28 = some false := by kernel_rfl
@[simp] theorem sizeT_28 : sizeT Try.prog 28 = some 1 := by kernel_rfl
@[simp] theorem zeroOk_28 : zeroOk Try.prog 28 = true := by kernel_rfl
@[simp] theorem zoneOk_28 : zoneOk Try.prog 28 = true := by kernel_rfl
@[simp] theorem zlenOk_28 : zlenOk Try.prog 28 = true := by kernel_rfl
@[simp] theorem rowT_36 : rowT Try.prog 36 = some false := by kernel_rfl
@[simp] theorem sizeT_36 : sizeT Try.prog 36 = some 1 := by kernel_rfl
@[simp] theorem zeroOk_36 : zeroOk Try.prog 36 = true := by kernel_rfl
@[simp] theorem zoneOk_36 : zoneOk Try.prog 36 = true := by kernel_rfl
@[simp] theorem zlenOk_36 : zlenOk Try.prog 36 = true := by kernel_rfl
@[simp] theorem rowT_42 : rowT Try.prog 42 = some false := by kernel_rfl
@[simp] theorem sizeT_42 : sizeT Try.prog 42 = some 1 := by kernel_rfl
@[simp] theorem zeroOk_42 : zeroOk Try.prog 42 = true := by kernel_rfl
@[simp] theorem zoneOk_42 : zoneOk Try.prog 42 = true := by kernel_rfl
@[simp] theorem zlenOk_42 : zlenOk Try.prog 42 = true := by kernel_rfl
@[simp] theorem rowT_49 : rowT Try.prog 49 = some false := by kernel_rfl
@[simp] theorem sizeT_49 : sizeT Try.prog 49 = some 1 := by kernel_rfl
@[simp] theorem zeroOk_49 : zeroOk Try.prog 49 = true := by kernel_rfl
@[simp] theorem zoneOk_49 : zoneOk Try.prog 49 = true := by kernel_rfl
@[simp] theorem zlenOk_49 : zlenOk Try.prog 49 = true := by kernel_rfl
@[simp] theorem rowT_66 : rowT Try.prog 66 = some false := by kernel_rfl
@[simp] theorem sizeT_66 : sizeT Try.prog 66 = some 1 := by kernel_rfl
@[simp] theorem zeroOk_66 : zeroOk Try.prog 66 = true := by kernel_rfl
@[simp] theorem zoneOk_66 : zoneOk Try.prog 66 = true := by kernel_rfl
@[simp] theorem zlenOk_66 : zlenOk Try.prog 66 = true := by kernel_rfl
@[simp] theorem rowT_70 : rowT Try.prog 70 = some false := by kernel_rfl
@[simp] theorem sizeT_70 : sizeT Try.prog 70 = some 1 := by kernel_rfl
@[simp] theorem zeroOk_70 : zeroOk Try.prog 70 = true := by kernel_rfl
@[simp] theorem zoneOk_70 : zoneOk Try.prog 70 = true := by kernel_rfl
@[simp] theorem zlenOk_70 : zlenOk Try.prog 70 = true := by kernel_rfl
@[simp] theorem rowT_73 : rowT Try.prog 73 = some true := by kernel_rfl
@[simp] theorem sizeT_73 : sizeT Try.prog 73 = some 4 := by kernel_rfl
@[simp] theorem zeroOk_73 : zeroOk Try.prog 73 = true := by kernel_rfl
@[simp] theorem zoneOk_73 : zoneOk Try.prog 73 = true := by kernel_rfl
@[simp] theorem zlenOk_73 : zlenOk Try.prog 73 = true := by kernel_rfl
@[simp] theorem builtOk_73 : builtOk Try.prog 73 = true := by kernel_rfl
theorem lenZ_73 : Len (zeroL Try.prog 73) 4 := (by kernel_rfl : (zeroL Try.prog 73).length = 4)
theorem zeroT_73 : zeroL Try.prog 73 = Value.pointer none :: (Value.pointer none :: (Value.pointer none :: ([Value.string ⟨#[]⟩]))) := by kernel_rfl
@[simp] theorem placeT_73_0 : placeT Try.prog 73 0 = some (0, 1) := by kernel_rfl
@[simp] theorem placeT_73_1 : placeT Try.prog 73 1 = some (1, 1) := by kernel_rfl
@[simp] theorem placeT_73_2 : placeT Try.prog 73 2 = some (2, 1) := by kernel_rfl
@[simp] theorem placeT_73_3 : placeT Try.prog 73 3 = some (3, 1) := by kernel_rfl
@[simp] theorem rowT_74 : rowT Try.prog 74 = some true := by kernel_rfl
@[simp] theorem sizeT_74 : sizeT Try.prog 74 = some 4 := by kernel_rfl
@[simp] theorem zeroOk_74 : zeroOk Try.prog 74 = true := by kernel_rfl
@[simp] theorem zoneOk_74 : zoneOk Try.prog 74 = true := by kernel_rfl
@[simp] theorem zlenOk_74 : zlenOk Try.prog 74 = true := by kernel_rfl
@[simp] theorem builtOk_74 : builtOk Try.prog 74 = true := by kernel_rfl
theorem lenZ_74 : Len (zeroL Try.prog 74) 4 := (by kernel_rfl : (zeroL Try.prog 74).length = 4)
theorem zeroT_74 : zeroL Try.prog 74 = Value.pointer none :: (Value.pointer none :: (Value.pointer none :: ([Value.string ⟨#[]⟩]))) := by kernel_rfl
@[simp] theorem placeT_74_0 : placeT Try.prog 74 0 = some (0, 1) := by kernel_rfl
@[simp] theorem placeT_74_1 : placeT Try.prog 74 1 = some (1, 1) := by kernel_rfl
@[simp] theorem placeT_74_2 : placeT Try.prog 74 2 = some (2, 1) := by kernel_rfl
@[simp] theorem placeT_74_3 : placeT Try.prog 74 3 = some (3, 1) := by kernel_rfl
@[simp] theorem rowT_75 : rowT Try.prog 75 = some true := by kernel_rfl
@[simp] theorem sizeT_75 : sizeT Try.prog 75 = some 0 := by kernel_rfl
@[simp] theorem zeroOk_75 : zeroOk Try.prog 75 = true := by kernel_rfl
@[simp] theorem zoneOk_75 : zoneOk Try.prog 75 = true := by kernel_rfl
@[simp] theorem zlenOk_75 : zlenOk Try.prog 75 = true := by kernel_rfl
@[simp] theorem rowT_76 : rowT Try.prog 76 = some true := by kernel_rfl
@[simp] theorem sizeT_76 : sizeT Try.prog 76 = some 0 := by kernel_rfl
@[simp] theorem zeroOk_76 : zeroOk Try.prog 76 = true := by kernel_rfl
@[simp] theorem zoneOk_76 : zoneOk Try.prog 76 = true := by kernel_rfl
@[simp] theorem zlenOk_76 : zlenOk Try.prog 76 = true := by kernel_rfl
@[simp] theorem rowT_77 : rowT Try.prog 77 = some true := by kernel_rfl
@[simp] theorem sizeT_77 : sizeT Try.prog 77 = some 0 := by kernel_rfl
@[simp] theorem zeroOk_77 : zeroOk Try.prog 77 = true := by kernel_rfl
@[simp] theorem zoneOk_77 : zoneOk Try.prog 77 = true := by kernel_rfl
@[simp] theorem zlenOk_77 : zlenOk Try.prog 77 = true := by kernel_rfl
@[simp] theorem rowT_79 : rowT Try.prog 79 = some false := by kernel_rfl
@[simp] theorem sizeT_79 : sizeT Try.prog 79 = some 1 := by kernel_rfl
@[simp] theorem zeroOk_79 : zeroOk Try.prog 79 = true := by kernel_rfl
@[simp] theorem zoneOk_79 : zoneOk Try.prog 79 = true := by kernel_rfl
@[simp] theorem zlenOk_79 : zlenOk Try.prog 79 = true := by kernel_rfl
@[simp] theorem rowT_80 : rowT Try.prog 80 = some false := by kernel_rfl
@[simp] theorem sizeT_80 : sizeT Try.prog 80 = some 1 := by kernel_rfl
@[simp] theorem zeroOk_80 : zeroOk Try.prog 80 = true := by kernel_rfl
@[simp] theorem zoneOk_80 : zoneOk Try.prog 80 = true := by kernel_rfl
@[simp] theorem zlenOk_80 : zlenOk Try.prog 80 = true := by kernel_rfl
@[simp] theorem rowT_81 : rowT Try.prog 81 = some false := by kernel_rfl
@[simp] theorem sizeT_81 : sizeT Try.prog 81 = some 1 := by kernel_rfl
@[simp] theorem zeroOk_81 : zeroOk Try.prog 81 = true := by kernel_rfl
@[simp] theorem zoneOk_81 : zoneOk Try.prog 81 = true := by kernel_rfl
@[simp] theorem zlenOk_81 : zlenOk Try.prog 81 = true := by kernel_rfl
@[simp] theorem rowT_83 : rowT Try.prog 83 = some false := by kernel_rfl
@[simp] theorem sizeT_83 : sizeT Try.prog 83 = some 1 := by kernel_rfl
@[simp] theorem zeroOk_83 : zeroOk Try.prog 83 = true := by kernel_rfl
@[simp] theorem zoneOk_83 : zoneOk Try.prog 83 = true := by kernel_rfl
@[simp] theorem zlenOk_83 : zlenOk Try.prog 83 = true := by kernel_rfl
@[simp] theorem rowT_84 : rowT Try.prog 84 = some false := by kernel_rfl
@[simp] theorem sizeT_84 : sizeT Try.prog 84 = some 1 := by kernel_rfl
@[simp] theorem zeroOk_84 : zeroOk Try.prog 84 = true := by kernel_rfl
@[simp] theorem zoneOk_84 : zoneOk Try.prog 84 = true := by kernel_rfl
@[simp] theorem zlenOk_84 : zlenOk Try.prog 84 = true := by kernel_rfl
@[simp] theorem rowT_85 : rowT Try.prog 85 = some false := by kernel_rfl
@[simp] theorem sizeT_85 : sizeT Try.prog 85 = some 1 := by kernel_rfl
@[simp] theorem zeroOk_85 : zeroOk Try.prog 85 = true := by kernel_rfl
@[simp] theorem zoneOk_85 : zoneOk Try.prog 85 = true := by kernel_rfl
@[simp] theorem zlenOk_85 : zlenOk Try.prog 85 = true := by kernel_rfl
@[simp] theorem rowT_86 : rowT Try.prog 86 = some true := by kernel_rfl
@[simp] theorem sizeT_86 : sizeT Try.prog 86 = some 11 := by kernel_rfl
@[simp] theorem zeroOk_86 : zeroOk Try.prog 86 = true := by kernel_rfl
@[simp] theorem zoneOk_86 : zoneOk Try.prog 86 = true := by kernel_rfl
@[simp] theorem zlenOk_86 : zlenOk Try.prog 86 = true := by kernel_rfl
@[simp] theorem builtOk_86 : builtOk Try.prog 86 = true := by kernel_rfl
theorem lenZ_86 : Len (zeroL Try.prog 86) 11 := (by kernel_rfl : (zeroL Try.prog 86).length = 11)
@[simp] theorem placeT_86_0 : placeT Try.prog 86 0 = some (0, 1) := by kernel_rfl
@[simp] theorem placeT_86_1 : placeT Try.prog 86 1 = some (1, 1) := by kernel_rfl
@[simp] theorem placeT_86_2 : placeT Try.prog 86 2 = some (2, 1) := by kernel_rfl
@[simp] theorem placeT_86_3 : placeT Try.prog 86 3 = some (3, 1) := by kernel_rfl
@[simp] theorem placeT_86_4 : placeT Try.prog 86 4 = some (4, 1) := by kernel_rfl
@[simp] theorem placeT_86_5 : placeT Try.prog 86 5 = some (5, 1) := by kernel_rfl
@[simp] theorem placeT_86_6 : placeT Try.prog 86 6 = some (6, 1) := by kernel_rfl
@[simp] theorem placeT_86_7 : placeT Try.prog 86 7 = some (7, 1) := by kernel_rfl
@[simp] theorem placeT_86_8 : placeT Try.prog 86 8 = some (8, 1) := by kernel_rfl
@[simp] theorem placeT_86_9 : placeT Try.prog 86 9 = some (9, 1) := by kernel_rfl
@[simp] theorem placeT_86_10 : placeT Try.prog 86 10 = some (10, 1) := by kernel_rfl
@[simp] theorem rowT_87 : rowT Try.prog 87 = some true := by kernel_rfl
@[simp] theorem sizeT_87 : sizeT Try.prog 87 = some 11 := by kernel_rfl
@[simp] theorem zeroOk_87 : zeroOk Try.prog 87 = true := by kernel_rfl
@[simp] theorem zoneOk_87 : zoneOk Try.prog 87 = true := by kernel_rfl
@[simp] theorem zlenOk_87 : zlenOk Try.prog 87 = true := by kernel_rfl
@[simp] theorem builtOk_87 : builtOk Try.prog 87 = true := by kernel_rfl
theorem lenZ_87 : Len (zeroL Try.prog 87) 11 := (by kernel_rfl : (zeroL Try.prog 87).length = 11)
@[simp] theorem placeT_87_0 : placeT Try.prog 87 0 = some (0, 1) := by kernel_rfl
@[simp] theorem placeT_87_1 : placeT Try.prog 87 1 = some (1, 1) := by kernel_rfl
@[simp] theorem placeT_87_2 : placeT Try.prog 87 2 = some (2, 1) := by kernel_rfl
@[simp] theorem placeT_87_3 : placeT Try.prog 87 3 = some (3, 1) := by kernel_rfl
@[simp] theorem placeT_87_4 : placeT Try.prog 87 4 = some (4, 1) := by kernel_rfl
@[simp] theorem placeT_87_5 : placeT Try.prog 87 5 = some (5, 1) := by kernel_rfl
@[simp] theorem placeT_87_6 : placeT Try.prog 87 6 = some (6, 1) := by kernel_rfl
@[simp] theorem placeT_87_7 : placeT Try.prog 87 7 = some (7, 1) := by kernel_rfl
@[simp] theorem placeT_87_8 : placeT Try.prog 87 8 = some (8, 1) := by kernel_rfl
@[simp] theorem placeT_87_9 : placeT Try.prog 87 9 = some (9, 1) := by kernel_rfl
@[simp] theorem placeT_87_10 : placeT Try.prog 87 10 = some (10, 1) := by kernel_rfl
end Go.Proofs.Ytcijplfamodjaaa

/-
  The slices of the seat's program, as a table.
-/
import Derived.Test.YtjegjgdihpihoaaGreatDoorSl
import Derived.Test.YtjegjgdihpihoaaGreatDoorTab
namespace Go.Proofs.YtjegjgdihpihoaaGreatDoor
set_option linter.unusedVariables false

theorem sl_25 : SlOk Tryz.prog 25 24 := ⟨Tryz.underlying25, by kernel_rfl⟩
theorem sl_43 : SlOk Tryz.prog 43 31 := ⟨Tryz.underlying43, by kernel_rfl⟩
theorem sl_54 : SlOk Tryz.prog 54 29 := ⟨Tryz.underlying54, by kernel_rfl⟩
theorem sl_72 : SlOk Tryz.prog 72 5 := ⟨Tryz.underlying72, by kernel_rfl⟩
theorem sl_86 : SlOk Tryz.prog 86 9 := ⟨Tryz.underlying86, by kernel_rfl⟩
theorem sl_96 : SlOk Tryz.prog 96 3 := ⟨Tryz.underlying96, by kernel_rfl⟩
def tabs : List (Nat × Nat) := [(25, 24), (43, 31), (54, 29), (72, 5), (86, 9), (96, 3)]
theorem tabs_ok : TabSOk Tryz.prog tabs := by
  intro p hp
  unfold tabs at hp
  rcases List.mem_cons.1 hp with rfl | hp
  · exact sl_25
  rcases List.mem_cons.1 hp with rfl | hp
  · exact sl_43
  rcases List.mem_cons.1 hp with rfl | hp
  · exact sl_54
  rcases List.mem_cons.1 hp with rfl | hp
  · exact sl_72
  rcases List.mem_cons.1 hp with rfl | hp
  · exact sl_86
  rcases List.mem_cons.1 hp with rfl | hp
  · exact sl_96
  exact absurd hp (by simp)
end Go.Proofs.YtjegjgdihpihoaaGreatDoor

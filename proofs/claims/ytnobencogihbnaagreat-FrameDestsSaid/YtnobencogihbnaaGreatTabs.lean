/-
  The slices of the seat's program, as a table.
-/
import Derived.Test.YtnobencogihbnaaGreatSl
import Derived.Test.YtnobencogihbnaaGreatTab
namespace Go.Proofs.YtnobencogihbnaaGreat
set_option linter.unusedVariables false

theorem sl_25 : SlOk Tryz.prog 25 24 := ⟨Tryz.underlying25, by kernel_rfl⟩
theorem sl_26 : SlOk Tryz.prog 26 50 := ⟨Tryz.underlying26, by kernel_rfl⟩
theorem sl_82 : SlOk Tryz.prog 82 5 := ⟨Tryz.underlying82, by kernel_rfl⟩
theorem sl_132 : SlOk Tryz.prog 132 9 := ⟨Tryz.underlying132, by kernel_rfl⟩
theorem sl_161 : SlOk Tryz.prog 161 3 := ⟨Tryz.underlying161, by kernel_rfl⟩
def tabs : List (Nat × Nat) := [(25, 24), (26, 50), (82, 5), (132, 9), (161, 3)]
theorem tabs_ok : TabSOk Tryz.prog tabs := by
  intro p hp
  unfold tabs at hp
  rcases List.mem_cons.1 hp with rfl | hp
  · exact sl_25
  rcases List.mem_cons.1 hp with rfl | hp
  · exact sl_26
  rcases List.mem_cons.1 hp with rfl | hp
  · exact sl_82
  rcases List.mem_cons.1 hp with rfl | hp
  · exact sl_132
  rcases List.mem_cons.1 hp with rfl | hp
  · exact sl_161
  exact absurd hp (by simp)
end Go.Proofs.YtnobencogihbnaaGreat

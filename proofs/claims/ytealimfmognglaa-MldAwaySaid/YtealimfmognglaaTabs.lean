/-
  The slices of the seat's program, as a table.
-/
import Derived.Test.YtealimfmognglaaSl
import Derived.Test.YtealimfmognglaaTab
namespace Go.Proofs.Ytealimfmognglaa
set_option linter.unusedVariables false

theorem sl_25 : SlOk Try.prog 25 24 := ⟨Try.underlying25, by kernel_rfl⟩
theorem sl_26 : SlOk Try.prog 26 52 := ⟨Try.underlying26, by kernel_rfl⟩
theorem sl_79 : SlOk Try.prog 79 5 := ⟨Try.underlying79, by kernel_rfl⟩
theorem sl_87 : SlOk Try.prog 87 9 := ⟨Try.underlying87, by kernel_rfl⟩
def tabs : List (Nat × Nat) := [(25, 24), (26, 52), (79, 5), (87, 9)]
theorem tabs_ok : TabSOk Try.prog tabs := by
  intro p hp
  unfold tabs at hp
  rcases List.mem_cons.1 hp with rfl | hp
  · exact sl_25
  rcases List.mem_cons.1 hp with rfl | hp
  · exact sl_26
  rcases List.mem_cons.1 hp with rfl | hp
  · exact sl_79
  rcases List.mem_cons.1 hp with rfl | hp
  · exact sl_87
  exact absurd hp (by simp)
end Go.Proofs.Ytealimfmognglaa

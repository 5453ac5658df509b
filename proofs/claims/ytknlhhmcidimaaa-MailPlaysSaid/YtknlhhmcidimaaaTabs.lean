/-
  The slices of the seat's program, as a table.
-/
import Derived.Test.YtknlhhmcidimaaaSl
import Derived.Test.YtknlhhmcidimaaaTab
namespace Go.Proofs.Ytknlhhmcidimaaa
set_option linter.unusedVariables false

theorem sl_22 : SlOk Try.prog 22 30 := ⟨Try.underlying22, by kernel_rfl⟩
theorem sl_35 : SlOk Try.prog 35 39 := ⟨Try.underlying35, by kernel_rfl⟩
def tabs : List (Nat × Nat) := [(22, 30), (35, 39)]
theorem tabs_ok : TabSOk Try.prog tabs := by
  intro p hp
  unfold tabs at hp
  rcases List.mem_cons.1 hp with rfl | hp
  · exact sl_22
  rcases List.mem_cons.1 hp with rfl | hp
  · exact sl_35
  exact absurd hp (by simp)
end Go.Proofs.Ytknlhhmcidimaaa

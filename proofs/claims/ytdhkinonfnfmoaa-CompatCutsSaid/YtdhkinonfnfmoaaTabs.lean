/-
  The slices of the seat's program, as a table.
-/
import Derived.Test.YtdhkinonfnfmoaaSl
import Derived.Test.YtdhkinonfnfmoaaTab
namespace Go.Proofs.Ytdhkinonfnfmoaa
set_option linter.unusedVariables false

theorem sl_30 : SlOk Try.prog 30 29 := ⟨Try.underlying30, by kernel_rfl⟩
theorem sl_31 : SlOk Try.prog 31 40 := ⟨Try.underlying31, by kernel_rfl⟩
def tabs : List (Nat × Nat) := [(30, 29), (31, 40)]
theorem tabs_ok : TabSOk Try.prog tabs := by
  intro p hp
  unfold tabs at hp
  rcases List.mem_cons.1 hp with rfl | hp
  · exact sl_30
  rcases List.mem_cons.1 hp with rfl | hp
  · exact sl_31
  exact absurd hp (by simp)
end Go.Proofs.Ytdhkinonfnfmoaa

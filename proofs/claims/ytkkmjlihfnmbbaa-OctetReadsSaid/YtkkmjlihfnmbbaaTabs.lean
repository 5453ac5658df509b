/-
  The slices of the seat's program, as a table.
-/
import Derived.Test.YtkkmjlihfnmbbaaSl
import Derived.Test.YtkkmjlihfnmbbaaTab
namespace Go.Proofs.Ytkkmjlihfnmbbaa
set_option linter.unusedVariables false

theorem sl_50 : SlOk Try.prog 50 56 := ⟨Try.underlying50, by kernel_rfl⟩
theorem sl_58 : SlOk Try.prog 58 5 := ⟨Try.underlying58, by kernel_rfl⟩
def tabs : List (Nat × Nat) := [(50, 56), (58, 5)]
theorem tabs_ok : TabSOk Try.prog tabs := by
  intro p hp
  unfold tabs at hp
  rcases List.mem_cons.1 hp with rfl | hp
  · exact sl_50
  rcases List.mem_cons.1 hp with rfl | hp
  · exact sl_58
  exact absurd hp (by simp)
end Go.Proofs.Ytkkmjlihfnmbbaa

/-
  The slices of the seat's program, as a table.
-/
import Derived.Test.YtkkmfcnnnfhmnaaSl
import Derived.Test.YtkkmfcnnnfhmnaaTab
namespace Go.Proofs.Ytkkmfcnnnfhmnaa
set_option linter.unusedVariables false

theorem sl_37 : SlOk Try.prog 37 5 := ⟨Try.underlying37, by kernel_rfl⟩
theorem sl_63 : SlOk Try.prog 63 9 := ⟨Try.underlying63, by kernel_rfl⟩
def tabs : List (Nat × Nat) := [(37, 5), (63, 9)]
theorem tabs_ok : TabSOk Try.prog tabs := by
  intro p hp
  unfold tabs at hp
  rcases List.mem_cons.1 hp with rfl | hp
  · exact sl_37
  rcases List.mem_cons.1 hp with rfl | hp
  · exact sl_63
  exact absurd hp (by simp)
end Go.Proofs.Ytkkmfcnnnfhmnaa

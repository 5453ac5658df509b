/-
  The slices of the seat's program, as a table.
-/
import Derived.Test.YteoonblpaabjpaaSl
import Derived.Test.YteoonblpaabjpaaTab
namespace Go.Proofs.Yteoonblpaabjpaa
set_option linter.unusedVariables false

theorem sl_22 : SlOk Try.prog 22 27 := ⟨Try.underlying22, by kernel_rfl⟩
theorem sl_51 : SlOk Try.prog 51 5 := ⟨Try.underlying51, by kernel_rfl⟩
def tabs : List (Nat × Nat) := [(22, 27), (51, 5)]
theorem tabs_ok : TabSOk Try.prog tabs := by
  intro p hp
  unfold tabs at hp
  rcases List.mem_cons.1 hp with rfl | hp
  · exact sl_22
  rcases List.mem_cons.1 hp with rfl | hp
  · exact sl_51
  exact absurd hp (by simp)
end Go.Proofs.Yteoonblpaabjpaa

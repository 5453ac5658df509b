/-
  The slices of the seat's program, as a table.
-/
import Derived.Test.YtdbdlhmgokllaaaSl
import Derived.Test.YtdbdlhmgokllaaaTab
namespace Go.Proofs.Ytdbdlhmgokllaaa
set_option linter.unusedVariables false

theorem sl_22 : SlOk Try.prog 22 30 := ⟨Try.underlying22, by kernel_rfl⟩
theorem sl_26 : SlOk Try.prog 26 25 := ⟨Try.underlying26, by kernel_rfl⟩
theorem sl_42 : SlOk Try.prog 42 37 := ⟨Try.underlying42, by kernel_rfl⟩
theorem sl_97 : SlOk Try.prog 97 3 := ⟨Try.underlying97, by kernel_rfl⟩
theorem sl_106 : SlOk Try.prog 106 5 := ⟨Try.underlying106, by kernel_rfl⟩
def tabs : List (Nat × Nat) := [(22, 30), (26, 25), (42, 37), (97, 3), (106, 5)]
theorem tabs_ok : TabSOk Try.prog tabs := by
  intro p hp
  unfold tabs at hp
  rcases List.mem_cons.1 hp with rfl | hp
  · exact sl_22
  rcases List.mem_cons.1 hp with rfl | hp
  · exact sl_26
  rcases List.mem_cons.1 hp with rfl | hp
  · exact sl_42
  rcases List.mem_cons.1 hp with rfl | hp
  · exact sl_97
  rcases List.mem_cons.1 hp with rfl | hp
  · exact sl_106
  exact absurd hp (by simp)
end Go.Proofs.Ytdbdlhmgokllaaa

/-
  The slices of the seat's program, as a table.
-/
import Derived.Test.YtdjbpamigkpbeaaSl
import Derived.Test.YtdjbpamigkpbeaaTab
namespace Go.Proofs.Ytdjbpamigkpbeaa
set_option linter.unusedVariables false

theorem sl_32 : SlOk Try.prog 32 31 := ⟨Try.underlying32, by kernel_rfl⟩
theorem sl_33 : SlOk Try.prog 33 51 := ⟨Try.underlying33, by kernel_rfl⟩
def tabs : List (Nat × Nat) := [(32, 31), (33, 51)]
theorem tabs_ok : TabSOk Try.prog tabs := by
  intro p hp
  unfold tabs at hp
  rcases List.mem_cons.1 hp with rfl | hp
  · exact sl_32
  rcases List.mem_cons.1 hp with rfl | hp
  · exact sl_33
  exact absurd hp (by simp)
end Go.Proofs.Ytdjbpamigkpbeaa

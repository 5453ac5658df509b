/-
  The slices of the seat's program, as a table.
-/
import Derived.Test.YtfdkfimakdhbdaaSl
import Derived.Test.YtfdkfimakdhbdaaTab
namespace Go.Proofs.Ytfdkfimakdhbdaa
set_option linter.unusedVariables false

theorem sl_26 : SlOk Try.prog 26 25 := ⟨Try.underlying26, by kernel_rfl⟩
theorem sl_27 : SlOk Try.prog 27 63 := ⟨Try.underlying27, by kernel_rfl⟩
theorem sl_76 : SlOk Try.prog 76 9 := ⟨Try.underlying76, by kernel_rfl⟩
theorem sl_100 : SlOk Try.prog 100 5 := ⟨Try.underlying100, by kernel_rfl⟩
def tabs : List (Nat × Nat) := [(26, 25), (27, 63), (76, 9), (100, 5)]
theorem tabs_ok : TabSOk Try.prog tabs := by
  intro p hp
  unfold tabs at hp
  rcases List.mem_cons.1 hp with rfl | hp
  · exact sl_26
  rcases List.mem_cons.1 hp with rfl | hp
  · exact sl_27
  rcases List.mem_cons.1 hp with rfl | hp
  · exact sl_76
  rcases List.mem_cons.1 hp with rfl | hp
  · exact sl_100
  exact absurd hp (by simp)
end Go.Proofs.Ytfdkfimakdhbdaa

/-
  The slices of the seat's program, as a table.
-/
import Derived.Test.YtmnlcmgbmehggaaSl
import Derived.Test.YtmnlcmgbmehggaaTab
namespace Go.Proofs.Ytmnlcmgbmehggaa
set_option linter.unusedVariables false

theorem sl_36 : SlOk Try.prog 36 5 := ⟨Try.underlying36, by kernel_rfl⟩
theorem sl_65 : SlOk Try.prog 65 3 := ⟨Try.underlying65, by kernel_rfl⟩
def tabs : List (Nat × Nat) := [(36, 5), (65, 3)]
theorem tabs_ok : TabSOk Try.prog tabs := by
  intro p hp
  unfold tabs at hp
  rcases List.mem_cons.1 hp with rfl | hp
  · exact sl_36
  rcases List.mem_cons.1 hp with rfl | hp
  · exact sl_65
  exact absurd hp (by simp)
end Go.Proofs.Ytmnlcmgbmehggaa

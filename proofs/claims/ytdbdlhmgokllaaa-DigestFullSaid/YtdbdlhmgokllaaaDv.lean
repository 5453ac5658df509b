/-
  The reference's sets of addresses: what is the same, what is in one.
-/
import Derived.Test.YtdbdlhmgokllaaaDu
namespace Go.Proofs.Ytdbdlhmgokllaaa
open Go.ChangeShapes Go.WideShapes Go.ChangeAt Go.RowKit
set_option linter.unusedVariables false
set_option linter.unusedSimpArgs false
set_option maxRecDepth 20000
attribute [local irreducible] wpList

theorem take_snoc_eq {α : Type} {L M : List α} {j : Nat} (h : L.take j = M.take j) (h1 : j < L.length) (h2 : j < M.length) (e : L[j] = M[j]) : L.take (j + 1) = M.take (j + 1) := by
  rw [← List.take_append_getElem h1, ← List.take_append_getElem h2, h, e]
theorem ne_of_at {α : Type} {L M : List α} {j : Nat} (h1 : j < L.length) (h2 : j < M.length) (e : L[j] ≠ M[j]) : L ≠ M := fun h => by subst h; exact e rfl
section
variable {w : World} {p p' : Option Addr} {c c' : Nat} {L M : List Ad}
end
end Go.Proofs.Ytdbdlhmgokllaaa

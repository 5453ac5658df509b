/-
  Contracts of package acequiaref08: what is the same.
-/
import Derived.Test.YtnobencogihbnaaGreatTk
import Derived.Test.YtnobencogihbnaaGreatIn
namespace Go.Proofs.YtnobencogihbnaaGreat
-- %in
open Go.ChangeShapes Go.WideShapes Go.ChangeAt Go.RowKit
set_option linter.unusedVariables false
set_option linter.unusedSimpArgs false
set_option maxRecDepth 20000
attribute [local irreducible] wpList

instance : DecidableEq Rc := fun a c => if h : a.kind = c.kind ∧ a.grp = c.grp ∧ a.src = c.src then .isTrue (by cases a; cases c; simp at h; obtain ⟨rfl, rfl, rfl⟩ := h; rfl) else .isFalse (fun e => h (by subst e; exact ⟨rfl, rfl, rfl⟩))
theorem take_snoc_eq {α : Type} {L M : List α} {j : Nat} (h : L.take j = M.take j) (h1 : j < L.length) (h2 : j < M.length) (e : L[j] = M[j]) : L.take (j + 1) = M.take (j + 1) := by
  rw [← List.take_append_getElem h1, ← List.take_append_getElem h2, h, e]
theorem ne_of_at {α : Type} {L M : List α} {j : Nat} (h1 : j < L.length) (h2 : j < M.length) (e : L[j] ≠ M[j]) : L ≠ M := fun h => by subst h; exact e rfl
section
variable {w : World} {p p' : Option Addr} {c c' : Nat} {L M : List Ad}
end
end Go.Proofs.YtnobencogihbnaaGreat

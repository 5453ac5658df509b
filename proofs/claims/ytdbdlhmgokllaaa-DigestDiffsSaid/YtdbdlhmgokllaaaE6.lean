/-
  DigestJudges: whether any entries are a good digest. No condition.
-/
import Derived.Test.YtdbdlhmgokllaaaE5
import Derived.Test.YtdbdlhmgokllaaaRows
namespace Go.Proofs.Ytdbdlhmgokllaaa
open Go.ChangeShapes Go.WideShapes Go.ChangeAt Go.RowKit
set_option linter.unusedVariables false
set_option linter.unusedSimpArgs false
set_option maxRecDepth 20000
attribute [local irreducible] wpList

section
variable {w : World} {p : Option Addr} {c : Nat} {L : List En}
theorem ens_open {Hh : Type} {enc : TypeId × Value → Hh} {v : Value} {d : DataW Hh} {ps : List MemPlace} (h : DataW.Trod enc Try.prog w 0 (fun _ => true) true 22 v d ps) (hv : v.cells = #[v]) : ∃ (p : Option Addr) (L : List En) (c : Nat), v = .slice p L.length c ∧ EnsAt w p L ∧ (∀ r ∈ L, inI r.vlan) ∧ L.length ≤ c := by
  obtain ⟨fuel0, hf0⟩ := h
  rw [hv] at hf0
  obtain ⟨p, L, c, hc, hA, hI, hlc, _⟩ := ens_trod hf0
  exact ⟨p, L, c, by simpa using hc, hA, hI, hlc⟩
end
end Go.Proofs.Ytdbdlhmgokllaaa

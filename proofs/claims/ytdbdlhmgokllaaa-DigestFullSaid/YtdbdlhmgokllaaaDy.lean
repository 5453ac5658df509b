/-
  The reference's sets of addresses: Of; which entries, and which digests, are good.
-/
import Derived.Test.YtdbdlhmgokllaaaDx
import Derived.Test.YtdbdlhmgokllaaaDf
namespace Go.Proofs.Ytdbdlhmgokllaaa
open Go.ChangeShapes Go.WideShapes Go.ChangeAt Go.RowKit
set_option linter.unusedVariables false
set_option linter.unusedSimpArgs false
set_option maxRecDepth 20000
attribute [local irreducible] wpList

section
variable {w : World} {p : Option Addr} {c : Nat} {L : List Ad}
end
section
variable {w : World} {p : Option Addr} {c : Nat} {e : En}
open Classical in
theorem oneE_of {e : En} : oneE e = (placedE e && decide (ofA e.src = e.src) && decide (e.src.length ≤ 64) && !noneF e.ex e.src.length && allV e.grp.v e.src) := by
  unfold oneE
  rw [goodL_of]
  cases allV e.grp.v e.src <;> simp [Bool.and_assoc]
set_option maxHeartbeats 4000000 in
open Classical in
end
end Go.Proofs.Ytdbdlhmgokllaaa

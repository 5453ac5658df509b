/-
  The reference's sets of addresses: Add.
-/
import Derived.Test.YtdbdlhmgokllaaaDw
namespace Go.Proofs.Ytdbdlhmgokllaaa
open Go.ChangeShapes Go.WideShapes Go.ChangeAt Go.RowKit
set_option linter.unusedVariables false
set_option linter.unusedSimpArgs false
set_option maxRecDepth 20000
attribute [local irreducible] wpList

section
variable {B : Nat} {w0 W : World} {H : HB} {Q : Ending → World → Prop} {x : Ad} {L : List Ad} {g c q : Nat} {J : List Value}
end
end Go.Proofs.Ytdbdlhmgokllaaa

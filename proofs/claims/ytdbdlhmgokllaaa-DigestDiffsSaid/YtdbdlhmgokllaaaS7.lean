/-
  DigestFull: how many entries there may be. No condition.
-/
import Derived.Test.YtdbdlhmgokllaaaS6
import Derived.Test.YtdbdlhmgokllaaaRows
import Derived.Test.YtdbdlhmgokllaaaIn
namespace Go.Proofs.Ytdbdlhmgokllaaa
-- %in
open Go.ChangeShapes Go.WideShapes Go.ChangeAt Go.RowKit
set_option linter.unusedVariables false
set_option linter.unusedSimpArgs false
set_option maxRecDepth 20000
attribute [local irreducible] wpList

section
variable {w : World} {n : UInt8}
theorem hApply {B : Nat} {w0 W : World} {H : HB} {p p' : Option Addr} {c c' : Nat} {L : List En} {C : List Ch} {Q : Ending → World → Prop} (hH : Hp B w0 W H) (h : EnsAt W p L) (h' : ChsAt W p' C) (hL : L.length ≤ 1000) (hC : C.length ≤ 1000) (hs : ∀ e ∈ L, e.src.length ≤ 1000) (hs' : ∀ x ∈ C, x.e.src.length ≤ 1000)
    (hQ : ∀ W' p c D, Hid (∀ B w0 W, Hp B w0 W D → EnsAt W p (applyF L C)) → Hid (∀ r ∈ D, r.2.2.1 = true) → Hp B w0 W' (H ++ D) → Q (.returned (.slice p (applyF L C).length c)) W') : Calls Try.prog 19 #[.slice p L.length c, .slice p' C.length c'] W Q :=
  (dApply_any h h' hL hC hs hs').mono fun _ _ ⟨p, c, D, he, hm, hr⟩ => by subst he; exact hQ _ p c D (Lib.hid hr) (Lib.hid hm.2) (hH.join hm)
end
end Go.Proofs.Ytdbdlhmgokllaaa

/-
  The reference: what stands first, of addresses and entries (printed in part by a program).
-/
import Derived.Test.YtdbdlhmgokllaaaDd
namespace Go.Proofs.Ytdbdlhmgokllaaa
open Go.ChangeShapes Go.WideShapes Go.ChangeAt Go.RowKit
set_option linter.unusedVariables false
set_option linter.unusedSimpArgs false
set_option maxRecDepth 20000
attribute [local irreducible] wpList

theorem cb_pre : ∀ (P X Y : List UInt8), Lib.compareBytes (P ++ X) (P ++ Y) = Lib.compareBytes X Y
  | [], X, Y => rfl
  | p :: P, X, Y => by
    show (if p < p then (-1 : Int) else if p < p then 1 else Lib.compareBytes (P ++ X) (P ++ Y)) = _
    rw [if_neg (UInt8.lt_irrefl p), if_neg (UInt8.lt_irrefl p), cb_pre P X Y]
theorem cb_refl (X : List UInt8) : Lib.compareBytes X X = 0 := by
  have := cb_pre X [] []
  simpa [Lib.compareBytes] using this
theorem bytesA_take {v : Bool} {l : List UInt8} (h : l.length = 16) : bytesA v l = l.take (if v then 16 else 4) := by
  cases v
  · rfl
  · show l = l.take 16
    rw [List.take_of_length_le (by omega)]
section
variable {w : World} {a b : Ad}
end
end Go.Proofs.Ytdbdlhmgokllaaa

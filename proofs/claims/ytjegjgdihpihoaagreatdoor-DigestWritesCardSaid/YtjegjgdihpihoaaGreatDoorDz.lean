/-
  The reference: which digests are good.
-/
import Derived.Test.YtjegjgdihpihoaaGreatDoorDy
namespace Go.Proofs.YtjegjgdihpihoaaGreatDoor
open Go.ChangeShapes Go.WideShapes Go.ChangeAt Go.RowKit
set_option linter.unusedVariables false
set_option linter.unusedSimpArgs false
set_option maxRecDepth 20000
attribute [local irreducible] wpList

theorem cb_sign : ∀ (X Y : List UInt8), Lib.compareBytes X Y = -1 ∨ Lib.compareBytes X Y = 0 ∨ Lib.compareBytes X Y = 1
  | [], [] => .inr (.inl rfl)
  | [], _ :: _ => .inl rfl
  | _ :: _, [] => .inr (.inr rfl)
  | a :: X, b :: Y => by
    rw [cb_cons]
    split
    · exact .inl rfl
    · split
      · exact .inr (.inr rfl)
      · exact cb_sign X Y
theorem cmpA_sign (a b : Ad) : cmpA a b = -1 ∨ cmpA a b = 0 ∨ cmpA a b = 1 := by
  unfold cmpA
  split
  · exact cb_sign _ _
  · split
    · exact .inl rfl
    · exact .inr (.inr rfl)
theorem cmpI_sign (x y : Int) : cmpI x y = -1 ∨ cmpI x y = 0 ∨ cmpI x y = 1 := by
  unfold cmpI
  split
  · exact .inl rfl
  · split
    · exact .inr (.inr rfl)
    · exact .inr (.inl rfl)
theorem cmpE_three (a b : En) : cmpE a b = -1 ∨ cmpE a b = 0 ∨ cmpE a b = 1 := by
  have h1 := cmpI_sign a.vlan b.vlan
  have h2 := cmpA_sign a.grp b.grp
  unfold cmpE orI
  split
  · exact h2
  · exact h1
section
variable {w : World} {p : Option Addr} {c : Nat} {L : List En}
end
end Go.Proofs.YtjegjgdihpihoaaGreatDoor

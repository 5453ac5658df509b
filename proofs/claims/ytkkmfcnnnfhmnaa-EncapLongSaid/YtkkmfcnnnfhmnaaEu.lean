/-
  Contracts of package encap's reference: a frame is read, its head being good (printed by tools/gen-eu.py).
-/
import Derived.Test.YtkkmfcnnnfhmnaaEt
namespace Go.Proofs.Ytkkmfcnnnfhmnaa
open Go.ChangeShapes Go.WideShapes Go.ChangeAt Go.RowKit
set_option linter.unusedVariables false
set_option linter.unusedSimpArgs false
attribute [local irreducible] wpList

structure Pre36 (s : ByteArray) : Prop where
  h20 : 20 ≤ s.size
  hs : s.size ≤ 100000
  h77 : by6 s 0 = 77
  h4 : foldN (wsum s.data.toList) = 65535
  h3 : 16 + wdT s + szT s ≤ s.size
  h6 : szT s ≤ 1600
theorem preT_ok {s : ByteArray} (hs : s.size ≤ 100000) (h : preT s = 0) : Pre36 s := by
  unfold preT at h
  split at h
  · exact absurd h (by decide)
  split at h
  · exact absurd h (by decide)
  split at h
  · exact absurd h (by decide)
  split at h
  · exact absurd h (by decide)
  split at h
  · exact absurd h (by decide)
  exact ⟨by omega, hs, by omega, by omega, by omega, by omega⟩
end Go.Proofs.Ytkkmfcnnnfhmnaa

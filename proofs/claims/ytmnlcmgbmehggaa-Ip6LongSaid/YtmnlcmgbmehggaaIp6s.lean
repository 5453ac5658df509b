/-
  Contracts of package ip6's reference: a packet is read: numbers at places.
-/
import Derived.Test.YtmnlcmgbmehggaaIp6r
namespace Go.Proofs.Ytmnlcmgbmehggaa
open Go.ChangeShapes Go.WideShapes Go.ChangeAt Go.RowKit
set_option linter.unusedVariables false
set_option linter.unusedSimpArgs false

theorem numAt_add {s : ByteArray} {k a b : Nat} (h : k + a + b ≤ s.size) : numAt s k (a + b) = numAt s k a * 256 ^ b + numAt s (k + a) b := by
  have hl := size_toList s
  unfold numAt
  rw [List.take_add, numL_append, List.drop_drop, List.length_take, List.length_drop, hl, Nat.min_eq_left (by omega)]
theorem rNumAt {s : ByteArray} {i j : Nat} {w : World} (h : i ≤ j) (hj : j ≤ i + 8) : Gives Try.prog 26 #[.string (s.extract i j)] w (.int .u64 (numAt s i (j - i) : Int)) := by
  have := rnum_any (s := s.extract i j) (w := w) (Nat.le_trans (cut_size2 s i j) (by omega))
  rwa [toList_extract] at this
theorem wd6_a {s : ByteArray} (h : 4 ≤ s.size) : by6 s 0 / 16 = wd6 s / 268435456 := by
  have h1 : numAt s 0 4 = numAt s 0 1 * 16777216 + numAt s 1 3 := numAt_add (a := 1) (b := 3) (by omega)
  have h2 : numAt s 0 1 = by6 s 0 := numAt_one (by omega)
  have h3 : numAt s 1 3 < 16777216 := numAt_lt s 1 3
  unfold wd6
  omega
theorem wd6_b {s : ByteArray} (h : 4 ≤ s.size) : numAt s 0 2 / 16 % 256 = wd6 s / 1048576 % 256 := by
  have h1 : numAt s 0 4 = numAt s 0 2 * 65536 + numAt s 2 2 := numAt_add (a := 2) (b := 2) (by omega)
  have h3 : numAt s 2 2 < 65536 := numAt_lt s 2 2
  unfold wd6
  omega
end Go.Proofs.Ytmnlcmgbmehggaa

/-
  Contracts of package octet and of its reference, as far as numbers and bits go.
-/
import Derived.Test.YteoonblpaabjpaaRows
import Derived.Test.YteoonblpaabjpaaMem
namespace Go.Proofs.Yteoonblpaabjpaa
open Go.ChangeShapes Go.WideShapes Go.ChangeAt Go.RowKit
set_option linter.unusedVariables false
set_option linter.unusedSimpArgs false

theorem elemU8 : Elem1 Try.prog 51 5 1 := elem1_mk Try.underlying51 (z := .int .u8 0) (by kernel_rfl) rfl
def within (n lo hi : Int) : Int := if n < lo then lo else if hi < n then hi else n
theorem within_lo {n lo hi : Int} (h : n < lo) : within n lo hi = lo := by simp [within, h]
theorem within_hi {n lo hi : Int} (h : lo ≤ hi) (h' : hi < n) : within n lo hi = hi := by unfold within; rw [if_neg (by omega), if_pos h']
theorem within_in {n lo hi : Int} (h : lo ≤ n) (h' : n ≤ hi) : within n lo hi = n := by unfold within; rw [if_neg (by omega), if_neg (by omega)]
theorem within_bd {n lo hi : Int} (h : lo ≤ hi) : lo ≤ within n lo hi ∧ within n lo hi ≤ hi := by
  unfold within
  split
  · omega
  · split <;> omega
/-- .. as a natural number -/
def wn (n : Int) (m : Nat) : Nat := (within n 0 m).toNat
theorem wn_le (n : Int) (m : Nat) : wn n m ≤ m := by have := within_bd (n := n) (lo := 0) (hi := m) (by omega); unfold wn; omega
theorem wn_cast (n : Int) (m : Nat) : within n 0 m = (wn n m : Int) := by have := within_bd (n := n) (lo := 0) (hi := m) (by omega); unfold wn; omega



end Go.Proofs.Yteoonblpaabjpaa

/-
  Contracts of package octet and of its reference, as far as numbers and bits go.
-/
import Derived.Test.YtknlhhmcidimaaaRows
import Derived.Test.YtknlhhmcidimaaaMem
namespace Go.Proofs.Ytknlhhmcidimaaa
open Go.ChangeShapes Go.WideShapes Go.ChangeAt Go.RowKit
set_option linter.unusedVariables false
set_option linter.unusedSimpArgs false

def within (n lo hi : Int) : Int := if n < lo then lo else if hi < n then hi else n
theorem within_lo {n lo hi : Int} (h : n < lo) : within n lo hi = lo := by simp [within, h]
theorem within_hi {n lo hi : Int} (h : lo ≤ hi) (h' : hi < n) : within n lo hi = hi := by unfold within; rw [if_neg (by omega), if_pos h']
theorem within_in {n lo hi : Int} (h : lo ≤ n) (h' : n ≤ hi) : within n lo hi = n := by unfold within; rw [if_neg (by omega), if_neg (by omega)]
theorem within_bd {n lo hi : Int} (h : lo ≤ hi) : lo ≤ within n lo hi ∧ within n lo hi ≤ hi := by
  unfold within
  split
  · omega
  · split <;> omega
/-- .. as a natural number -/
def wn (n : Int) (m : Nat) : Nat := (within n 0 m).toNat
theorem wn_le (n : Int) (m : Nat) : wn n m ≤ m := by have := within_bd (n := n) (lo := 0) (hi := m) (by omega); unfold wn; omega
theorem wn_cast (n : Int) (m : Nat) : within n 0 m = (wn n m : Int) := by have := within_bd (n := n) (lo := 0) (hi := m) (by omega); unfold wn; omega

theorem rwithin_any {n lo hi : Int} {w : World} : Gives Try.prog 30 #[.int .i64 n, .int .i64 lo, .int .i64 hi] w (.int .i64 (within n lo hi)) := by
  refine Gives.of ?_
  unfold within
  go_enter Try.func30, Try.ntmps30
  go_wp2
  all_goals go_ret
  all_goals exact ⟨by simp [*]; try omega, by simp⟩
theorem rwithin8 {n : Int} {w : World} : Gives Try.prog 30 #[.int .i64 n, .int .i64 0, .int .i64 8] w (.int .i64 (wn n 8 : Int)) := by
  rw [← wn_cast]; exact rwithin_any
theorem rwithin64 {n : Int} {w : World} : Gives Try.prog 30 #[.int .i64 n, .int .i64 0, .int .i64 64] w (.int .i64 (wn n 64 : Int)) := by
  rw [← wn_cast]; exact rwithin_any

theorem cut_any {s : ByteArray} {m : Nat} {w : World} : Gives Try.prog 24 #[.string s, .int .i64 m] w (.string (s.extract 0 m)) := by
  refine Gives.of ?_
  go_enter Try.func24, Try.ntmps24
  go_wp2
  · go_ret
    exact ⟨rfl, by simp⟩
  · go_ret
    refine ⟨congrArg (fun b => Ending.returned (.string b)) ?_, by simp⟩
    apply data_inj
    have : s.data.toList.length ≤ m := by rw [size_toList]; omega
    rw [toList_extract, List.drop_zero, Nat.sub_zero, List.take_of_length_le this]

end Go.Proofs.Ytknlhhmcidimaaa

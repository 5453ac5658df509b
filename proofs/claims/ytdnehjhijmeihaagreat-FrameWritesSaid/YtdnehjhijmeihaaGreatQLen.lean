/-
  Joined texts: Len.
-/
import Derived.Test.YtdnehjhijmeihaaGreatQLenWalk
import Derived.Test.YtdnehjhijmeihaaGreatQKit
namespace Go.Proofs.YtdnehjhijmeihaaGreat
theorem Len_any {n : Nat} {w : World} (h : n < 18446744073709551616) : Gives Tryz.prog 208 #[.int .u64 (n : Int)] w (.int .i64 (Lib.bitLen n : Int)) := by
  refine Gives.same ?_
  refine (bits_Len (n : Int) w (by omega) (by omega)).mono ?_
  rintro e w' ⟨rfl, rfl⟩
  exact ⟨by rw [Int.toNat_natCast], rfl⟩
theorem bitLen_bounds {n : Nat} (h : n < 18446744073709551616) (h0 : n ≠ 0) : 1 ≤ Lib.bitLen n ∧ 2 ^ (Lib.bitLen n - 1) ≤ n ∧ n < 2 ^ Lib.bitLen n := Lib.bitLenAux_bounds 64 n h h0
end Go.Proofs.YtdnehjhijmeihaaGreat

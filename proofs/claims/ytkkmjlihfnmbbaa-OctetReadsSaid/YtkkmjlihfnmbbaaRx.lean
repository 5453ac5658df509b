/-
  Contracts of the reference's reader.
-/
import Derived.Test.YtkkmjlihfnmbbaaRead
namespace Go.Proofs.Ytkkmjlihfnmbbaa
open Go.ChangeShapes Go.WideShapes Go.ChangeAt Go.RowKit
set_option linter.unusedVariables false
set_option linter.unusedSimpArgs false
attribute [local irreducible] wpList

def Rx (w : World) (g : Nat) (s : ByteArray) (k : Nat) (bad : Bool) : Prop := Row w g 54 (rdCells s k bad)
section
variable {w : World} {g : Nat} {s : ByteArray} {k : Nat} {bad : Bool} {n : Int}
theorem rtake_nat {n : Nat} (hr : Rx w g s k bad) (hs : s.size ≤ 9223372036854775807) (hk : k ≤ s.size) (hn2 : n ≤ 9223372036854775807) :
    Calls Try.prog 31 #[.pointer (some ⟨g, 0, none⟩), .int .i64 (n : Int)] w fun e w' => e = .returned (.string (rdS s k bad n)) ∧ Rx w' g s (rdK s k bad n) (rdB s k bad n) ∧ w.grownBy w' (some g) := by
  have c0 : w.cell? ⟨g, 0, none⟩ = some (.string s) := hr.cell 0
  have c1 : w.cell? ⟨g, 1, none⟩ = some (.int .i64 (k : Int)) := hr.cell 1
  have c2 : w.cell? ⟨g, 2, none⟩ = some (.bool bad) := hr.cell 2
  have f1 := hr.frozen 1
  have f2 := hr.frozen 2
  have HR := Lib.hid hr
  clear hr
  cases bad with
  | true =>
    have e : rdFits s k true n = false := rfl
    simp only [rdS, rdK, rdB, e, Bool.false_eq_true, if_false, if_true, Bool.not_false, Bool.not_true]
    go_enter Try.func31, Try.ntmps31
    go_wp2
    go_quiet (fail)
    go_wp2
    go_ret
    exact ⟨rfl, (Row.set HR.out 2 _), gb_set (gb_drewN (World.grownBy.refl w _) _) _ _⟩
  | false =>
    by_cases h : k + n ≤ s.size
    · have e : rdFits s k false n = true := by simp [rdFits, h]
      simp only [rdS, rdK, rdB, e, Bool.false_eq_true, if_false, if_true, Bool.not_false, Bool.not_true]
      have HS := Lib.hid (Row.set HR.out 1 (.int .i64 ((k + n : Nat) : Int)))
      have d : decide ((s.size : Int) - (k : Int) < (n : Int)) = false := decide_eq_false (by omega)
      go_enter Try.func31, Try.ntmps31
      go_wp2
      go_quiet (fail)
      go_wp2
      go_quiet (fail)
      go_wp2
      go_ret
      refine ⟨rfl, ?_, gb_set (gb_drewN (World.grownBy.refl w _) _) _ _⟩
      rw [show ((k : Int) + (n : Int)) = ((k + n : Nat) : Int) by omega]
      exact HS.out
    · have e : rdFits s k false n = false := by simp [rdFits, h]
      simp only [rdS, rdK, rdB, e, Bool.false_eq_true, if_false, if_true, Bool.not_false, Bool.not_true]
      have d : decide ((s.size : Int) - (k : Int) < (n : Int)) = true := decide_eq_true (by omega)
      go_enter Try.func31, Try.ntmps31
      go_wp2
      go_quiet (fail)
      go_wp2
      go_ret
      exact ⟨rfl, Row.set HR.out 2 _, gb_set (gb_drewN (World.grownBy.refl w _) _) _ _⟩
theorem rtake_neg {m : Int} (hm : m < 0) (hr : Rx w g s k bad) (hs : s.size ≤ 9223372036854775807) (hk : k ≤ s.size) :
    Calls Try.prog 31 #[.pointer (some ⟨g, 0, none⟩), .int .i64 m] w fun e w' => e = .returned (.string (rdS s k bad 0)) ∧ Rx w' g s (rdK s k bad 0) (rdB s k bad 0) ∧ w.grownBy w' (some g) := by
  have c0 : w.cell? ⟨g, 0, none⟩ = some (.string s) := hr.cell 0
  have c1 : w.cell? ⟨g, 1, none⟩ = some (.int .i64 (k : Int)) := hr.cell 1
  have c2 : w.cell? ⟨g, 2, none⟩ = some (.bool bad) := hr.cell 2
  have f1 := hr.frozen 1
  have f2 := hr.frozen 2
  have HR := Lib.hid hr
  clear hr
  cases bad with
  | true =>
    have e : rdFits s k true 0 = false := rfl
    simp only [rdS, rdK, rdB, e, Bool.false_eq_true, if_false, if_true, Bool.not_false, Bool.not_true]
    go_enter Try.func31, Try.ntmps31
    go_wp2
    go_quiet (fail)
    go_wp2
    go_ret
    exact ⟨rfl, (Row.set HR.out 2 _), gb_set (gb_drewN (World.grownBy.refl w _) _) _ _⟩
  | false =>
    by_cases h : k + 0 ≤ s.size
    · have e : rdFits s k false 0 = true := by simp [rdFits, hk]
      simp only [rdS, rdK, rdB, e, Bool.false_eq_true, if_false, if_true, Bool.not_false, Bool.not_true]
      have HS := Lib.hid (Row.set HR.out 1 (.int .i64 ((k + 0 : Nat) : Int)))
      rw [show s.extract k (k + 0) = ⟨#[]⟩ from data_inj (by rw [toList_extract]; simp)]
      go_enter Try.func31, Try.ntmps31
      go_wp2
      go_quiet (fail)
      go_wp2
      go_quiet (fail)
      go_wp2
      go_ret
      refine ⟨rfl, ?_, gb_set (gb_drewN (World.grownBy.refl w _) _) _ _⟩
      exact HS.out
    · omega
theorem rtake_any (hr : Rx w g s k bad) (hs : s.size ≤ 9223372036854775807) (hk : k ≤ s.size) (hn2 : n ≤ 9223372036854775807) :
    Calls Try.prog 31 #[.pointer (some ⟨g, 0, none⟩), .int .i64 n] w fun e w' => e = .returned (.string (rdS s k bad n.toNat)) ∧ Rx w' g s (rdK s k bad n.toNat) (rdB s k bad n.toNat) ∧ w.grownBy w' (some g) := by
  by_cases h0 : n < 0
  · rw [show n.toNat = 0 by omega]
    exact rtake_neg h0 hr hs hk
  · obtain ⟨m, rfl⟩ := Int.eq_ofNat_of_zero_le (show 0 ≤ n by omega)
    exact rtake_nat hr hs hk (by omega)
end
end Go.Proofs.Ytkkmjlihfnmbbaa

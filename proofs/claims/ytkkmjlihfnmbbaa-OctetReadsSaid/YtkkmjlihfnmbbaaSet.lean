/-
  Contracts of octet.Set and of the reference's.
-/
import Derived.Test.YtkkmjlihfnmbbaaOct
namespace Go.Proofs.Ytkkmjlihfnmbbaa
open Go.ChangeShapes Go.WideShapes Go.ChangeAt Go.RowKit
set_option linter.unusedVariables false
set_option linter.unusedSimpArgs false

def setF (n a w v k : Nat) : Nat := if a ≤ k ∧ k - a < w then bitN v (k - a) else bitN n k
theorem setF_lt (n a w v k : Nat) : setF n a w v k < 2 := by unfold setF; split <;> exact bitN_lt _ _
def setN (n a w v : Nat) : Nat := ofBits (setF n a w v) 64
theorem setN_lt (n a w v : Nat) : setN n a w v < 18446744073709551616 := by rw [← two64]; exact ofBits_lt (setF_lt n a w v) 64
theorem testBit_mask (w i : Nat) : (2 ^ w - 1).testBit i = decide (i < w) := Nat.testBit_two_pow_sub_one w i
theorem shl_test (x a i : Nat) : (x * 2 ^ a % 2 ^ 64).testBit i = (decide (i < 64) && (decide (a ≤ i) && x.testBit (i - a))) := by
  rw [Nat.testBit_mod_two_pow, ← Nat.shiftLeft_eq, Nat.testBit_shiftLeft]
theorem set_math {n a w v : Nat} (hn : n < 2 ^ 64) (hw : w ≤ 64) :
    ((n &&& (2 ^ 64 - 1 - (2 ^ w - 1) * 2 ^ a % 2 ^ 64)) ||| (v &&& (2 ^ w - 1)) * 2 ^ a % 2 ^ 64) = setN n a w v := by
  have hX : (2 ^ w - 1) * 2 ^ a % 2 ^ 64 < 2 ^ 64 := Nat.mod_lt _ (Nat.two_pow_pos 64)
  refine eq_ofBits (k := 64) (Nat.or_lt_two_pow (Nat.and_lt_two_pow _ (by omega)) (Nat.mod_lt _ (Nat.two_pow_pos 64))) fun i hi => ?_
  rw [bitN_testBit, Nat.testBit_or, Nat.testBit_and, show 2 ^ 64 - 1 - (2 ^ w - 1) * 2 ^ a % 2 ^ 64 = 2 ^ 64 - ((2 ^ w - 1) * 2 ^ a % 2 ^ 64 + 1) by omega, Nat.testBit_two_pow_sub_succ hX, shl_test, shl_test, Nat.testBit_and, testBit_mask]
  unfold setF
  by_cases ha : a ≤ i
  · by_cases hb : i - a < w
    · rw [if_pos ⟨ha, hb⟩, bitN_testBit]
      simp [hi, ha, hb]
    · rw [if_neg (by omega), bitN_testBit]
      simp [hi, ha, hb]
  · rw [if_neg (by omega), bitN_testBit]
    simp [hi, ha]
theorem shl_cast (x a : Nat) : IntKind.u64.wrap ((x : Int) * 2 ^ a) = ((x * 2 ^ a % 2 ^ 64 : Nat) : Int) := by
  rw [show ((x : Int) * 2 ^ a) = ((x * 2 ^ a : Nat) : Int) by push_cast; rfl, u64_nat, two64]
theorem set_walk {n a w v : Nat} (hn : n < 18446744073709551616) (hv : v < 18446744073709551616) (hw : w ≤ 64) :
    bits .or .u64 (bits .andNot .u64 (n : Int) (IntKind.u64.wrap (((2 ^ w - 1 : Nat) : Int) * 2 ^ a))) (IntKind.u64.wrap (bits .and .u64 (v : Int) ((2 ^ w - 1 : Nat) : Int) * 2 ^ a)) = (setN n a w v : Int) := by
  have h2 : 2 ^ w ≤ 2 ^ 64 := Nat.pow_le_pow_right (by omega) hw
  have h3 := two64
  have hX : (2 ^ w - 1) * 2 ^ a % 2 ^ 64 < 2 ^ 64 := Nat.mod_lt _ (Nat.two_pow_pos 64)
  have hY : (v &&& (2 ^ w - 1)) * 2 ^ a % 2 ^ 64 < 2 ^ 64 := Nat.mod_lt _ (Nat.two_pow_pos 64)
  have hA : (n &&& (2 ^ 64 - 1 - (2 ^ w - 1) * 2 ^ a % 2 ^ 64)) < 2 ^ 64 := Nat.and_lt_two_pow _ (by omega)
  rw [u64_and_nat v _ hv (by omega), shl_cast, shl_cast, u64_andNot_nat n _ hn (by omega), show 18446744073709551615 - (2 ^ w - 1) * 2 ^ a % 2 ^ 64 = 2 ^ 64 - 1 - (2 ^ w - 1) * 2 ^ a % 2 ^ 64 by omega, u64_or_nat _ _ (by omega) (by omega), set_math (by omega) hw]
theorem set_step {n a w v k f : Nat} (hk : k < 64) (hf : setF n a w v k = f) : IntKind.u64.wrap ((ofBits (setF n a w v) k : Int) + IntKind.u64.wrap ((f : Int) * (p2 k : Int))) = (ofBits (setF n a w v) (k + 1) : Int) := by
  have h1 := setF_lt n a w v k
  have h2 := ofBits_lt (setF_lt n a w v) (k + 1)
  have h3 : (2 : Nat) ^ (k + 1) ≤ 2 ^ 64 := Nat.pow_le_pow_right (by omega) (by omega)
  have h4 := two64
  rw [ofBits, hf] at *
  have e : ((f : Int) * (p2 k : Int)) = ((f * 2 ^ k : Nat) : Int) := by simp [p2]
  rw [e, u64_small (by omega), show ((ofBits (setF n a w v) k : Int) + ((f * 2 ^ k : Nat) : Int)) = ((ofBits (setF n a w v) k + f * 2 ^ k : Nat) : Int) by omega, u64_small (by omega)]
theorem set_any {n v : Nat} {a b : Int} {w : World} (hn : n < 18446744073709551616) (hv : v < 18446744073709551616) : Gives Try.prog 17 #[.int .u64 n, .int .i64 a, .int .i64 b, .int .u64 v] w (.int .u64 (setN n (wn a 64) (wn b 64) v : Int)) := by
  refine Gives.of ?_
  have h1 := wn_le a 64
  have h2 := wn_le b 64
  go_enter Try.func17, Try.ntmps17
  go_wp2_with ((with_reducible (first | apply Gives.call_bw (Nat.le_refl _) | apply Gives.call)); (focus (first | (with_reducible exact within64) | (with_reducible exact mask_any (by assumption)))); intro x; (try dsimp only [drew_heap] at x))
  go_ret
  exact ⟨congrArg (fun b => Ending.returned (.int .u64 b)) (set_walk hn hv h2), by (first | ((repeat (with_reducible first | assumption | exact Below.refl _ _ | (refine below_bw _ ?_ ?_; rotate_left; focus (((repeat (with_reducible first | assumption | exact Nat.le_refl _ | refine BW.le_of ?_ | refine le_alloc ?_ | refine le_drew ?_ | refine le_drewN ?_ | refine le_set ?_ | refine le_plus ?_ | omega | refine le_setA ?_)); done))) | (refine Below.alloc ?_ ?_ _; rotate_left; focus (((repeat (with_reducible first | assumption | exact Nat.le_refl _ | refine BW.le_of ?_ | refine le_alloc ?_ | refine le_drew ?_ | refine le_drewN ?_ | refine le_set ?_ | refine le_plus ?_ | omega | refine le_setA ?_)); done))) | (refine Below.setCell ?_ ?_ _; rotate_left; focus (((repeat (with_reducible first | assumption | exact Nat.le_refl _ | refine BW.le_of ?_ | refine le_alloc ?_ | refine le_drew ?_ | refine le_drewN ?_ | refine le_set ?_ | refine le_plus ?_ | omega | refine le_setA ?_)); done))) | refine Below.drew ?_ | refine below_drewN ?_ _ | (refine below_setCells ?_ ?_ _ _; rotate_left; focus (((repeat (with_reducible first | assumption | exact Nat.le_refl _ | refine BW.le_of ?_ | refine le_alloc ?_ | refine le_drew ?_ | refine le_drewN ?_ | refine le_set ?_ | refine le_plus ?_ | omega | refine le_setA ?_)); done))))); done) | (simp; done) | (repeat (first | assumption | exact Below.refl _ _ | (refine below_bw _ ?_ ?_; rotate_left; focus ((first | omega | (repeat (first | with_reducible assumption | with_reducible exact Nat.le_refl _ | refine BW.le_of ?_ | refine le_alloc ?_ | refine le_drew ?_ | refine le_drewN ?_ | refine le_set ?_ | refine le_plus ?_ | assumption | exact Nat.le_refl _))))) | (refine Below.alloc ?_ ?_ _; rotate_left; focus ((first | omega | (repeat (first | with_reducible assumption | with_reducible exact Nat.le_refl _ | refine BW.le_of ?_ | refine le_alloc ?_ | refine le_drew ?_ | refine le_drewN ?_ | refine le_set ?_ | refine le_plus ?_ | assumption | exact Nat.le_refl _))))) | (refine Below.setCell ?_ ?_ _; rotate_left; focus ((first | omega | (repeat (first | with_reducible assumption | with_reducible exact Nat.le_refl _ | refine BW.le_of ?_ | refine le_alloc ?_ | refine le_drew ?_ | refine le_drewN ?_ | refine le_set ?_ | refine le_plus ?_ | assumption | exact Nat.le_refl _))))) | refine Below.drew ?_ | refine below_drewN ?_ _ | (refine below_setCells ?_ ?_ _ _; rotate_left; focus ((first | omega | (repeat (first | with_reducible assumption | with_reducible exact Nat.le_refl _ | refine BW.le_of ?_ | refine le_alloc ?_ | refine le_drew ?_ | refine le_drewN ?_ | refine le_set ?_ | refine le_plus ?_ | assumption | exact Nat.le_refl _))))))))⟩
theorem rset_any {n v : Nat} {a b : Int} {w : World} (hn : n < 18446744073709551616) (hv : v < 18446744073709551616) : Gives Try.prog 18 #[.int .u64 n, .int .i64 a, .int .i64 b, .int .u64 v] w (.int .u64 (setN n (wn a 64) (wn b 64) v : Int)) := by
  refine Gives.of ?_
  have h1 := wn_le a 64
  have h2 := wn_le b 64
  go_enter Try.func18, Try.ntmps18
  go_wp2_with ((with_reducible (first | apply Gives.call_bw (Nat.le_refl _) | apply Gives.call)); (focus (first | (with_reducible exact rwithin64))); intro x; (try dsimp only [drew_heap] at x))
  go_loopw [9, 12, 13] (fun x i _ wr => ∃ k : Nat, k ≤ 64 ∧ i = .int .i64 k ∧ x = .int .u64 (ofBits (setF n (wn a 64) (wn b 64) v) k : Int) ∧ ∃ y : BW w.heap.size w, wr = y.w) (fun _ i _ _ => 64 - (intOf i).toNat)
  case atStart => exact ⟨0, by omega, rfl, rfl, _, rfl⟩
  case round =>
    obtain ⟨k, hk, rfl, rfl, y, rfl⟩ := hrel
    by_cases hlt : k < 64
    · have hp := p2_lt hlt
      have hb := bitN_lt n k
      have hb2 := bitN_lt v (k - wn a 64)
      have hs := ofBits_lt (setF_lt n (wn a 64) (wn b 64) v) k
      have hs64 : ofBits (setF n (wn a 64) (wn b 64) v) k < 18446744073709551616 := Nat.lt_of_lt_of_le hs (by rw [← two64]; exact Nat.pow_le_pow_right (by omega) (by omega))
      clear hs
      go_wp2_with ((with_reducible (first | apply Gives.call_bw (Nat.le_refl _) | apply Gives.call)); (focus (first | (with_reducible exact rbit_int (by assumption) (by omega)) | (with_reducible exact rpower_any (by assumption)))); intro x; (try dsimp only [drew_heap] at x))
      all_goals refine ⟨⟨k + 1, by omega, by go_num, congrArg _ (set_step hlt ?_), _, rfl⟩, by simp [intOf]; omega⟩
      all_goals unfold setF
      all_goals first | (rw [if_pos (by omega)]; done) | (rw [if_neg (by omega)]; done)
    · obtain rfl : k = 64 := by omega
      go_wp2
      go_ret
      exact ⟨rfl, by (first | ((repeat (with_reducible first | assumption | exact Below.refl _ _ | (refine below_bw _ ?_ ?_; rotate_left; focus (((repeat (with_reducible first | assumption | exact Nat.le_refl _ | refine BW.le_of ?_ | refine le_alloc ?_ | refine le_drew ?_ | refine le_drewN ?_ | refine le_set ?_ | refine le_plus ?_ | omega | refine le_setA ?_)); done))) | (refine Below.alloc ?_ ?_ _; rotate_left; focus (((repeat (with_reducible first | assumption | exact Nat.le_refl _ | refine BW.le_of ?_ | refine le_alloc ?_ | refine le_drew ?_ | refine le_drewN ?_ | refine le_set ?_ | refine le_plus ?_ | omega | refine le_setA ?_)); done))) | (refine Below.setCell ?_ ?_ _; rotate_left; focus (((repeat (with_reducible first | assumption | exact Nat.le_refl _ | refine BW.le_of ?_ | refine le_alloc ?_ | refine le_drew ?_ | refine le_drewN ?_ | refine le_set ?_ | refine le_plus ?_ | omega | refine le_setA ?_)); done))) | refine Below.drew ?_ | refine below_drewN ?_ _ | (refine below_setCells ?_ ?_ _ _; rotate_left; focus (((repeat (with_reducible first | assumption | exact Nat.le_refl _ | refine BW.le_of ?_ | refine le_alloc ?_ | refine le_drew ?_ | refine le_drewN ?_ | refine le_set ?_ | refine le_plus ?_ | omega | refine le_setA ?_)); done))))); done) | (simp; done) | (repeat (first | assumption | exact Below.refl _ _ | (refine below_bw _ ?_ ?_; rotate_left; focus ((first | omega | (repeat (first | with_reducible assumption | with_reducible exact Nat.le_refl _ | refine BW.le_of ?_ | refine le_alloc ?_ | refine le_drew ?_ | refine le_drewN ?_ | refine le_set ?_ | refine le_plus ?_ | assumption | exact Nat.le_refl _))))) | (refine Below.alloc ?_ ?_ _; rotate_left; focus ((first | omega | (repeat (first | with_reducible assumption | with_reducible exact Nat.le_refl _ | refine BW.le_of ?_ | refine le_alloc ?_ | refine le_drew ?_ | refine le_drewN ?_ | refine le_set ?_ | refine le_plus ?_ | assumption | exact Nat.le_refl _))))) | (refine Below.setCell ?_ ?_ _; rotate_left; focus ((first | omega | (repeat (first | with_reducible assumption | with_reducible exact Nat.le_refl _ | refine BW.le_of ?_ | refine le_alloc ?_ | refine le_drew ?_ | refine le_drewN ?_ | refine le_set ?_ | refine le_plus ?_ | assumption | exact Nat.le_refl _))))) | refine Below.drew ?_ | refine below_drewN ?_ _ | (refine below_setCells ?_ ?_ _ _; rotate_left; focus ((first | omega | (repeat (first | with_reducible assumption | with_reducible exact Nat.le_refl _ | refine BW.le_of ?_ | refine le_alloc ?_ | refine le_drew ?_ | refine le_drewN ?_ | refine le_set ?_ | refine le_plus ?_ | assumption | exact Nat.le_refl _))))))))⟩
end Go.Proofs.Ytkkmjlihfnmbbaa

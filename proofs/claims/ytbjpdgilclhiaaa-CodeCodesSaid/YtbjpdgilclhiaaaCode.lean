/-
  Times in few bits: the plain mathematics, and the contracts of package code and of its reference.
-/
import Derived.Test.YtbjpdgilclhiaaaNum
import Derived.Test.YtbjpdgilclhiaaaMix
import Derived.Test.YtbjpdgilclhiaaaRows
namespace Go.Proofs.Ytbjpdgilclhiaaa
open Go.ChangeShapes Go.WideShapes Go.ChangeAt Go.RowKit
set_option linter.unusedVariables false
set_option linter.unusedSimpArgs false

/-- what code c counts, the mantissa having u numbers -/
def valN (u c : Nat) : Nat := if c < 8 * u then c else (c % u + u) * 2 ^ (c / u % 8 + 3)
/-- a number within 0 and m -/
def clampN (m : Nat) (c : Int) : Nat := (min (max c 0) m).toNat
theorem clampN_le (m : Nat) (c : Int) : clampN m c ≤ m := by unfold clampN; omega
theorem plain4_any {w : World} : Gives Try.prog 25 #[.agg #[.int .u64 4, .int .i64 255]] w (.int .i64 128) := by
  refine Gives.of ?_
  go_enter Try.func25, Try.ntmps25
  go_wp2
  go_ret
  exact ⟨rfl, by (first | (simp; done) | (repeat (first | assumption | exact Below.refl _ _ | (refine below_bw _ ?_ ?_; rotate_left; focus ((first | omega | (repeat (first | assumption | exact Nat.le_refl _ | refine BW.le_of ?_ | refine le_alloc ?_ | refine le_drew ?_ | refine le_drewN ?_ | refine le_set ?_ | refine le_plus ?_ ))))) | (refine Below.alloc ?_ ?_ _; rotate_left; focus ((first | omega | (repeat (first | assumption | exact Nat.le_refl _ | refine BW.le_of ?_ | refine le_alloc ?_ | refine le_drew ?_ | refine le_drewN ?_ | refine le_set ?_ | refine le_plus ?_ ))))) | (refine Below.setCell ?_ ?_ _; rotate_left; focus ((first | omega | (repeat (first | assumption | exact Nat.le_refl _ | refine BW.le_of ?_ | refine le_alloc ?_ | refine le_drew ?_ | refine le_drewN ?_ | refine le_set ?_ | refine le_plus ?_ ))))) | refine Below.drew ?_ | refine below_drewN ?_ _)))⟩
theorem plain12_any {w : World} : Gives Try.prog 25 #[.agg #[.int .u64 12, .int .i64 65535]] w (.int .i64 32768) := by
  refine Gives.of ?_
  go_enter Try.func25, Try.ntmps25
  go_wp2
  go_ret
  exact ⟨rfl, by (first | (simp; done) | (repeat (first | assumption | exact Below.refl _ _ | (refine below_bw _ ?_ ?_; rotate_left; focus ((first | omega | (repeat (first | assumption | exact Nat.le_refl _ | refine BW.le_of ?_ | refine le_alloc ?_ | refine le_drew ?_ | refine le_drewN ?_ | refine le_set ?_ | refine le_plus ?_ ))))) | (refine Below.alloc ?_ ?_ _; rotate_left; focus ((first | omega | (repeat (first | assumption | exact Nat.le_refl _ | refine BW.le_of ?_ | refine le_alloc ?_ | refine le_drew ?_ | refine le_drewN ?_ | refine le_set ?_ | refine le_plus ?_ ))))) | (refine Below.setCell ?_ ?_ _; rotate_left; focus ((first | omega | (repeat (first | assumption | exact Nat.le_refl _ | refine BW.le_of ?_ | refine le_alloc ?_ | refine le_drew ?_ | refine le_drewN ?_ | refine le_set ?_ | refine le_plus ?_ ))))) | refine Below.drew ?_ | refine below_drewN ?_ _)))⟩
theorem eight_any {w : World} : Gives Try.prog 17 #[] w (.agg #[.int .u64 4, .int .i64 255]) := by
  refine Gives.of ?_
  go_enter Try.func17, Try.ntmps17
  go_wp2
  exact bodyPost_ret (v := .agg #[.int .u64 4, .int .i64 255]) (by simp [results, Try.results17, go_sem]) rfl ⟨rfl, by (first | (simp; done) | (repeat (first | assumption | exact Below.refl _ _ | (refine below_bw _ ?_ ?_; rotate_left; focus ((first | omega | (repeat (first | assumption | exact Nat.le_refl _ | refine BW.le_of ?_ | refine le_alloc ?_ | refine le_drew ?_ | refine le_drewN ?_ | refine le_set ?_ | refine le_plus ?_ ))))) | (refine Below.alloc ?_ ?_ _; rotate_left; focus ((first | omega | (repeat (first | assumption | exact Nat.le_refl _ | refine BW.le_of ?_ | refine le_alloc ?_ | refine le_drew ?_ | refine le_drewN ?_ | refine le_set ?_ | refine le_plus ?_ ))))) | (refine Below.setCell ?_ ?_ _; rotate_left; focus ((first | omega | (repeat (first | assumption | exact Nat.le_refl _ | refine BW.le_of ?_ | refine le_alloc ?_ | refine le_drew ?_ | refine le_drewN ?_ | refine le_set ?_ | refine le_plus ?_ ))))) | refine Below.drew ?_ | refine below_drewN ?_ _)))⟩
theorem sixteen_any {w : World} : Gives Try.prog 19 #[] w (.agg #[.int .u64 12, .int .i64 65535]) := by
  refine Gives.of ?_
  go_enter Try.func19, Try.ntmps19
  go_wp2
  exact bodyPost_ret (v := .agg #[.int .u64 12, .int .i64 65535]) (by simp [results, Try.results19, go_sem]) rfl ⟨rfl, by (first | (simp; done) | (repeat (first | assumption | exact Below.refl _ _ | (refine below_bw _ ?_ ?_; rotate_left; focus ((first | omega | (repeat (first | assumption | exact Nat.le_refl _ | refine BW.le_of ?_ | refine le_alloc ?_ | refine le_drew ?_ | refine le_drewN ?_ | refine le_set ?_ | refine le_plus ?_ ))))) | (refine Below.alloc ?_ ?_ _; rotate_left; focus ((first | omega | (repeat (first | assumption | exact Nat.le_refl _ | refine BW.le_of ?_ | refine le_alloc ?_ | refine le_drew ?_ | refine le_drewN ?_ | refine le_set ?_ | refine le_plus ?_ ))))) | (refine Below.setCell ?_ ?_ _; rotate_left; focus ((first | omega | (repeat (first | assumption | exact Nat.le_refl _ | refine BW.le_of ?_ | refine le_alloc ?_ | refine le_drew ?_ | refine le_drewN ?_ | refine le_set ?_ | refine le_plus ?_ ))))) | refine Below.drew ?_ | refine below_drewN ?_ _)))⟩
theorem or_unit {W x : Nat} (h : x < 2 ^ W) : x ||| 2 ^ W = x + 2 ^ W := by
  have := Nat.two_pow_add_eq_or_of_lt h 1
  rw [Nat.mul_one] at this
  rw [Nat.or_comm, ← this, Nat.add_comm]
theorem val_bits {W c : Nat} (hW : W ≤ 12) (hc : c ≤ 65535) :
    wrap64 (bits .or .i64 (bits .and .i64 (c : Int) ((2 ^ W - 1 : Nat) : Int)) ((2 ^ W : Nat) : Int) * 2 ^ min (IntKind.u64.wrap (bits .and .u64 ((c : Int) / ((2 ^ W : Nat) : Int)) 7 + 3)).toNat 64) = (((c % 2 ^ W + 2 ^ W) * 2 ^ (c / 2 ^ W % 8 + 3) : Nat) : Int) := by
  have hp : 2 ^ W ≤ 4096 := Nat.pow_le_pow_right (n := 2) (by omega) hW
  have hp1 : 1 ≤ 2 ^ W := Nat.one_le_two_pow
  have e1 : bits .and .i64 (c : Int) ((2 ^ W - 1 : Nat) : Int) = ((c % 2 ^ W : Nat) : Int) := by rw [i64_and _ _ (by omega) (by omega), Nat.and_two_pow_sub_one_eq_mod]
  have hm : c % 2 ^ W < 2 ^ W := Nat.mod_lt _ (by omega)
  have e2 : bits .or .i64 ((c % 2 ^ W : Nat) : Int) ((2 ^ W : Nat) : Int) = ((c % 2 ^ W + 2 ^ W : Nat) : Int) := by rw [i64_or _ _ (by omega) (by omega), or_unit hm]
  have hd : c / 2 ^ W ≤ c := Nat.div_le_self _ _
  have e3 : bits .and .u64 ((c : Int) / ((2 ^ W : Nat) : Int)) 7 = ((c / 2 ^ W % 8 : Nat) : Int) := by
    rw [show ((c : Int) / ((2 ^ W : Nat) : Int)) = ((c / 2 ^ W : Nat) : Int) by norm_cast, show (7 : Int) = ((2 ^ 3 - 1 : Nat) : Int) from rfl, u64_and_nat _ _ (by omega) (by omega), Nat.and_two_pow_sub_one_eq_mod]
  have hk : c / 2 ^ W % 8 < 8 := Nat.mod_lt _ (by omega)
  rw [e1, e2, e3]
  generalize c / 2 ^ W % 8 = k at *
  rw [show ((k : Int) + 3) = ((k + 3 : Nat) : Int) by omega, u64_small (by omega), Int.toNat_natCast, show min (k + 3) 64 = k + 3 by omega]
  have hk2 : 2 ^ (k + 3) ≤ 2 ^ 10 := Nat.pow_le_pow_right (by omega) (by omega)
  have e4 : (((c % 2 ^ W + 2 ^ W : Nat) : Int) * 2 ^ (k + 3)) = (((c % 2 ^ W + 2 ^ W) * 2 ^ (k + 3) : Nat) : Int) := by norm_cast
  have hm2 : (c % 2 ^ W + 2 ^ W) * 2 ^ (k + 3) ≤ 8192 * 2 ^ 10 := Nat.mul_le_mul (by omega) hk2
  rw [e4, wrap64_lit (by omega) (by omega)]
set_option maxRecDepth 20000 in
theorem value4_any {c : Int} {w : World} : Gives Try.prog 18 #[.agg #[.int .u64 4, .int .i64 255], .int .i64 c] w (.int .i64 (valN 16 (clampN 255 c) : Int)) := by
  refine Gives.of ?_
  by_cases h0 : c < 0
  · have e : clampN 255 c = 0 := by unfold clampN; omega
    rw [e]
    go_enter Try.func18, Try.ntmps18
    go_wp2_with ((with_reducible (first | apply Gives.call_bw (Nat.le_refl _) | apply Gives.call)); (focus (first | (with_reducible exact plain4_any))); intro x)
    all_goals first | (exfalso; omega) | (go_ret; exact ⟨rfl, by (first | (simp; done) | (repeat (first | assumption | exact Below.refl _ _ | (refine below_bw _ ?_ ?_; rotate_left; focus ((first | omega | (repeat (first | assumption | exact Nat.le_refl _ | refine BW.le_of ?_ | refine le_alloc ?_ | refine le_drew ?_ | refine le_drewN ?_ | refine le_set ?_ | refine le_plus ?_ ))))) | (refine Below.alloc ?_ ?_ _; rotate_left; focus ((first | omega | (repeat (first | assumption | exact Nat.le_refl _ | refine BW.le_of ?_ | refine le_alloc ?_ | refine le_drew ?_ | refine le_drewN ?_ | refine le_set ?_ | refine le_plus ?_ ))))) | (refine Below.setCell ?_ ?_ _; rotate_left; focus ((first | omega | (repeat (first | assumption | exact Nat.le_refl _ | refine BW.le_of ?_ | refine le_alloc ?_ | refine le_drew ?_ | refine le_drewN ?_ | refine le_set ?_ | refine le_plus ?_ ))))) | refine Below.drew ?_ | refine below_drewN ?_ _)))⟩)
  by_cases h1 : 255 < c
  · have e : clampN 255 c = 255 := by unfold clampN; omega
    rw [e]
    go_enter Try.func18, Try.ntmps18
    go_wp2_with ((with_reducible (first | apply Gives.call_bw (Nat.le_refl _) | apply Gives.call)); (focus (first | (with_reducible exact plain4_any))); intro x)
    all_goals first | (exfalso; omega) | (go_ret; exact ⟨congrArg (fun b => Ending.returned (.int .i64 b)) (by kernel_rfl), by (first | (simp; done) | (repeat (first | assumption | exact Below.refl _ _ | (refine below_bw _ ?_ ?_; rotate_left; focus ((first | omega | (repeat (first | assumption | exact Nat.le_refl _ | refine BW.le_of ?_ | refine le_alloc ?_ | refine le_drew ?_ | refine le_drewN ?_ | refine le_set ?_ | refine le_plus ?_ ))))) | (refine Below.alloc ?_ ?_ _; rotate_left; focus ((first | omega | (repeat (first | assumption | exact Nat.le_refl _ | refine BW.le_of ?_ | refine le_alloc ?_ | refine le_drew ?_ | refine le_drewN ?_ | refine le_set ?_ | refine le_plus ?_ ))))) | (refine Below.setCell ?_ ?_ _; rotate_left; focus ((first | omega | (repeat (first | assumption | exact Nat.le_refl _ | refine BW.le_of ?_ | refine le_alloc ?_ | refine le_drew ?_ | refine le_drewN ?_ | refine le_set ?_ | refine le_plus ?_ ))))) | refine Below.drew ?_ | refine below_drewN ?_ _)))⟩)
  obtain ⟨n, rfl⟩ := Int.eq_ofNat_of_zero_le (show 0 ≤ c by omega)
  have e : clampN 255 (n : Int) = n := by unfold clampN; omega
  have hb := val_bits (W := 4) (c := n) (by omega) (by omega)
  rw [show (2 : Nat) ^ 4 = 16 from rfl, show (((16 - 1 : Nat)) : Int) = 15 from rfl, show (((16 : Nat)) : Int) = 16 from rfl] at hb
  have hb := Lib.hid hb
  rw [e]
  clear e
  by_cases h : n < 128
  · have hv : valN 16 n = n := by unfold valN; rw [if_pos (by omega)]
    have HV := Lib.hid hv
    clear hv
    go_enter Try.func18, Try.ntmps18
    go_wp2_with ((with_reducible (first | apply Gives.call_bw (Nat.le_refl _) | apply Gives.call)); (focus (first | (with_reducible exact plain4_any))); intro x)
    all_goals first | (exfalso; omega) | (go_ret; exact ⟨by rw [HV.out]; rfl, by (first | (simp; done) | (repeat (first | assumption | exact Below.refl _ _ | (refine below_bw _ ?_ ?_; rotate_left; focus ((first | omega | (repeat (first | assumption | exact Nat.le_refl _ | refine BW.le_of ?_ | refine le_alloc ?_ | refine le_drew ?_ | refine le_drewN ?_ | refine le_set ?_ | refine le_plus ?_ ))))) | (refine Below.alloc ?_ ?_ _; rotate_left; focus ((first | omega | (repeat (first | assumption | exact Nat.le_refl _ | refine BW.le_of ?_ | refine le_alloc ?_ | refine le_drew ?_ | refine le_drewN ?_ | refine le_set ?_ | refine le_plus ?_ ))))) | (refine Below.setCell ?_ ?_ _; rotate_left; focus ((first | omega | (repeat (first | assumption | exact Nat.le_refl _ | refine BW.le_of ?_ | refine le_alloc ?_ | refine le_drew ?_ | refine le_drewN ?_ | refine le_set ?_ | refine le_plus ?_ ))))) | refine Below.drew ?_ | refine below_drewN ?_ _)))⟩)
  · have hv : valN 16 n = (n % 16 + 16) * 2 ^ (n / 16 % 8 + 3) := by unfold valN; rw [if_neg (by omega)]
    have HV := Lib.hid hv
    clear hv
    go_enter Try.func18, Try.ntmps18
    go_wp2_with ((with_reducible (first | apply Gives.call_bw (Nat.le_refl _) | apply Gives.call)); (focus (first | (with_reducible exact plain4_any))); intro x)
    all_goals first | (exfalso; omega) | (go_ret; exact ⟨congrArg (fun b => Ending.returned (.int .i64 b)) (by show wrap64 _ = _; rw [HV.out]; exact hb.out), by (first | (simp; done) | (repeat (first | assumption | exact Below.refl _ _ | (refine below_bw _ ?_ ?_; rotate_left; focus ((first | omega | (repeat (first | assumption | exact Nat.le_refl _ | refine BW.le_of ?_ | refine le_alloc ?_ | refine le_drew ?_ | refine le_drewN ?_ | refine le_set ?_ | refine le_plus ?_ ))))) | (refine Below.alloc ?_ ?_ _; rotate_left; focus ((first | omega | (repeat (first | assumption | exact Nat.le_refl _ | refine BW.le_of ?_ | refine le_alloc ?_ | refine le_drew ?_ | refine le_drewN ?_ | refine le_set ?_ | refine le_plus ?_ ))))) | (refine Below.setCell ?_ ?_ _; rotate_left; focus ((first | omega | (repeat (first | assumption | exact Nat.le_refl _ | refine BW.le_of ?_ | refine le_alloc ?_ | refine le_drew ?_ | refine le_drewN ?_ | refine le_set ?_ | refine le_plus ?_ ))))) | refine Below.drew ?_ | refine below_drewN ?_ _)))⟩)
set_option maxRecDepth 400000 in
set_option maxHeartbeats 1000000 in
theorem value12_any {c : Int} {w : World} : Gives Try.prog 18 #[.agg #[.int .u64 12, .int .i64 65535], .int .i64 c] w (.int .i64 (valN 4096 (clampN 65535 c) : Int)) := by
  refine Gives.of ?_
  by_cases h0 : c < 0
  · have e : clampN 65535 c = 0 := by unfold clampN; omega
    rw [e]
    go_enter Try.func18, Try.ntmps18
    go_wp2_with ((with_reducible (first | apply Gives.call_bw (Nat.le_refl _) | apply Gives.call)); (focus (first | (with_reducible exact plain12_any))); intro x)
    all_goals first | (exfalso; omega) | (go_ret; exact ⟨rfl, by (first | (simp; done) | (repeat (first | assumption | exact Below.refl _ _ | (refine below_bw _ ?_ ?_; rotate_left; focus ((first | omega | (repeat (first | assumption | exact Nat.le_refl _ | refine BW.le_of ?_ | refine le_alloc ?_ | refine le_drew ?_ | refine le_drewN ?_ | refine le_set ?_ | refine le_plus ?_ ))))) | (refine Below.alloc ?_ ?_ _; rotate_left; focus ((first | omega | (repeat (first | assumption | exact Nat.le_refl _ | refine BW.le_of ?_ | refine le_alloc ?_ | refine le_drew ?_ | refine le_drewN ?_ | refine le_set ?_ | refine le_plus ?_ ))))) | (refine Below.setCell ?_ ?_ _; rotate_left; focus ((first | omega | (repeat (first | assumption | exact Nat.le_refl _ | refine BW.le_of ?_ | refine le_alloc ?_ | refine le_drew ?_ | refine le_drewN ?_ | refine le_set ?_ | refine le_plus ?_ ))))) | refine Below.drew ?_ | refine below_drewN ?_ _)))⟩)
  by_cases h1 : 65535 < c
  · have e : clampN 65535 c = 65535 := by unfold clampN; omega
    rw [e]
    go_enter Try.func18, Try.ntmps18
    go_wp2_with ((with_reducible (first | apply Gives.call_bw (Nat.le_refl _) | apply Gives.call)); (focus (first | (with_reducible exact plain12_any))); intro x)
    all_goals first | (exfalso; omega) | (go_ret; exact ⟨congrArg (fun b => Ending.returned (.int .i64 b)) (by kernel_rfl), by (first | (simp; done) | (repeat (first | assumption | exact Below.refl _ _ | (refine below_bw _ ?_ ?_; rotate_left; focus ((first | omega | (repeat (first | assumption | exact Nat.le_refl _ | refine BW.le_of ?_ | refine le_alloc ?_ | refine le_drew ?_ | refine le_drewN ?_ | refine le_set ?_ | refine le_plus ?_ ))))) | (refine Below.alloc ?_ ?_ _; rotate_left; focus ((first | omega | (repeat (first | assumption | exact Nat.le_refl _ | refine BW.le_of ?_ | refine le_alloc ?_ | refine le_drew ?_ | refine le_drewN ?_ | refine le_set ?_ | refine le_plus ?_ ))))) | (refine Below.setCell ?_ ?_ _; rotate_left; focus ((first | omega | (repeat (first | assumption | exact Nat.le_refl _ | refine BW.le_of ?_ | refine le_alloc ?_ | refine le_drew ?_ | refine le_drewN ?_ | refine le_set ?_ | refine le_plus ?_ ))))) | refine Below.drew ?_ | refine below_drewN ?_ _)))⟩)
  obtain ⟨n, rfl⟩ := Int.eq_ofNat_of_zero_le (show 0 ≤ c by omega)
  have e : clampN 65535 (n : Int) = n := by unfold clampN; omega
  have hb := val_bits (W := 12) (c := n) (by omega) (by omega)
  rw [show (2 : Nat) ^ 12 = 4096 from rfl, show (((4096 - 1 : Nat)) : Int) = 4095 from rfl, show (((4096 : Nat)) : Int) = 4096 from rfl] at hb
  have hb := Lib.hid hb
  rw [e]
  clear e
  by_cases h : n < 32768
  · have hv : valN 4096 n = n := by unfold valN; rw [if_pos (by omega)]
    have HV := Lib.hid hv
    clear hv
    go_enter Try.func18, Try.ntmps18
    go_wp2_with ((with_reducible (first | apply Gives.call_bw (Nat.le_refl _) | apply Gives.call)); (focus (first | (with_reducible exact plain12_any))); intro x)
    all_goals first | (exfalso; omega) | (go_ret; exact ⟨by rw [HV.out]; rfl, by (first | (simp; done) | (repeat (first | assumption | exact Below.refl _ _ | (refine below_bw _ ?_ ?_; rotate_left; focus ((first | omega | (repeat (first | assumption | exact Nat.le_refl _ | refine BW.le_of ?_ | refine le_alloc ?_ | refine le_drew ?_ | refine le_drewN ?_ | refine le_set ?_ | refine le_plus ?_ ))))) | (refine Below.alloc ?_ ?_ _; rotate_left; focus ((first | omega | (repeat (first | assumption | exact Nat.le_refl _ | refine BW.le_of ?_ | refine le_alloc ?_ | refine le_drew ?_ | refine le_drewN ?_ | refine le_set ?_ | refine le_plus ?_ ))))) | (refine Below.setCell ?_ ?_ _; rotate_left; focus ((first | omega | (repeat (first | assumption | exact Nat.le_refl _ | refine BW.le_of ?_ | refine le_alloc ?_ | refine le_drew ?_ | refine le_drewN ?_ | refine le_set ?_ | refine le_plus ?_ ))))) | refine Below.drew ?_ | refine below_drewN ?_ _)))⟩)
  · have hv : valN 4096 n = (n % 4096 + 4096) * 2 ^ (n / 4096 % 8 + 3) := by unfold valN; rw [if_neg (by omega)]
    have HV := Lib.hid hv
    clear hv
    go_enter Try.func18, Try.ntmps18
    go_wp2_with ((with_reducible (first | apply Gives.call_bw (Nat.le_refl _) | apply Gives.call)); (focus (first | (with_reducible exact plain12_any))); intro x)
    all_goals first | (exfalso; omega) | (go_ret; exact ⟨congrArg (fun b => Ending.returned (.int .i64 b)) (by show wrap64 _ = _; rw [HV.out]; exact hb.out), by (first | (simp; done) | (repeat (first | assumption | exact Below.refl _ _ | (refine below_bw _ ?_ ?_; rotate_left; focus ((first | omega | (repeat (first | assumption | exact Nat.le_refl _ | refine BW.le_of ?_ | refine le_alloc ?_ | refine le_drew ?_ | refine le_drewN ?_ | refine le_set ?_ | refine le_plus ?_ ))))) | (refine Below.alloc ?_ ?_ _; rotate_left; focus ((first | omega | (repeat (first | assumption | exact Nat.le_refl _ | refine BW.le_of ?_ | refine le_alloc ?_ | refine le_drew ?_ | refine le_drewN ?_ | refine le_set ?_ | refine le_plus ?_ ))))) | (refine Below.setCell ?_ ?_ _; rotate_left; focus ((first | omega | (repeat (first | assumption | exact Nat.le_refl _ | refine BW.le_of ?_ | refine le_alloc ?_ | refine le_drew ?_ | refine le_drewN ?_ | refine le_set ?_ | refine le_plus ?_ ))))) | refine Below.drew ?_ | refine below_drewN ?_ _)))⟩)
theorem Value8_any {c : Int} {w : World} : Gives Try.prog 6 #[.int .i64 c] w (.int .i64 (valN 16 (clampN 255 c) : Int)) := by
  refine Gives.of ?_
  go_enter Try.func6, Try.ntmps6
  go_wp2_with ((with_reducible (first | apply Gives.call_bw (Nat.le_refl _) | apply Gives.call)); (focus (first | (with_reducible exact eight_any) | (with_reducible exact value4_any))); intro x)
  go_ret
  exact ⟨rfl, by (first | (simp; done) | (repeat (first | assumption | exact Below.refl _ _ | (refine below_bw _ ?_ ?_; rotate_left; focus ((first | omega | (repeat (first | assumption | exact Nat.le_refl _ | refine BW.le_of ?_ | refine le_alloc ?_ | refine le_drew ?_ | refine le_drewN ?_ | refine le_set ?_ | refine le_plus ?_ ))))) | (refine Below.alloc ?_ ?_ _; rotate_left; focus ((first | omega | (repeat (first | assumption | exact Nat.le_refl _ | refine BW.le_of ?_ | refine le_alloc ?_ | refine le_drew ?_ | refine le_drewN ?_ | refine le_set ?_ | refine le_plus ?_ ))))) | (refine Below.setCell ?_ ?_ _; rotate_left; focus ((first | omega | (repeat (first | assumption | exact Nat.le_refl _ | refine BW.le_of ?_ | refine le_alloc ?_ | refine le_drew ?_ | refine le_drewN ?_ | refine le_set ?_ | refine le_plus ?_ ))))) | refine Below.drew ?_ | refine below_drewN ?_ _)))⟩
theorem Value16_any {c : Int} {w : World} : Gives Try.prog 7 #[.int .i64 c] w (.int .i64 (valN 4096 (clampN 65535 c) : Int)) := by
  refine Gives.of ?_
  go_enter Try.func7, Try.ntmps7
  go_wp2_with ((with_reducible (first | apply Gives.call_bw (Nat.le_refl _) | apply Gives.call)); (focus (first | (with_reducible exact sixteen_any) | (with_reducible exact value12_any))); intro x)
  go_ret
  exact ⟨rfl, by (first | (simp; done) | (repeat (first | assumption | exact Below.refl _ _ | (refine below_bw _ ?_ ?_; rotate_left; focus ((first | omega | (repeat (first | assumption | exact Nat.le_refl _ | refine BW.le_of ?_ | refine le_alloc ?_ | refine le_drew ?_ | refine le_drewN ?_ | refine le_set ?_ | refine le_plus ?_ ))))) | (refine Below.alloc ?_ ?_ _; rotate_left; focus ((first | omega | (repeat (first | assumption | exact Nat.le_refl _ | refine BW.le_of ?_ | refine le_alloc ?_ | refine le_drew ?_ | refine le_drewN ?_ | refine le_set ?_ | refine le_plus ?_ ))))) | (refine Below.setCell ?_ ?_ _; rotate_left; focus ((first | omega | (repeat (first | assumption | exact Nat.le_refl _ | refine BW.le_of ?_ | refine le_alloc ?_ | refine le_drew ?_ | refine le_drewN ?_ | refine le_set ?_ | refine le_plus ?_ ))))) | refine Below.drew ?_ | refine below_drewN ?_ _)))⟩
end Go.Proofs.Ytbjpdgilclhiaaa

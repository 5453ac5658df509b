/-
  Times in few bits: what judges, and the rest of the reference.
-/
import Derived.Test.YtbjpdgilclhiaaaCodeRef
import Derived.Test.YtbjpdgilclhiaaaOct
namespace Go.Proofs.Ytbjpdgilclhiaaa
open Go.ChangeShapes Go.WideShapes Go.ChangeAt Go.RowKit
set_option linter.unusedVariables false
set_option linter.unusedSimpArgs false

theorem exact4_neg {n : Int} {w : World} (h : n < 0) : Gives Try.prog 22 #[.agg #[.int .u64 4, .int .i64 255], .int .i64 n] w (.bool false) := by
  refine Gives.of ?_
  have hd : decide (0 ≤ n) = false := by simp; omega
  go_enter Try.func22, Try.ntmps22
  go_wp2
  ((with_reducible first | refine wp_region_bx (Nat.le_refl _) (by kernel_rfl) (by kernel_rfl) ?_ | refine wp_region_bw (by kernel_rfl) (by kernel_rfl) ?_); (repeat (go_big_quiet_step (((with_reducible apply Gives.bw (Nat.le_refl _)); first | (with_reducible exact code4_any (by assumption)))))); refine wpQuiet_nil ?_; rintro _ ⟨x, rfl⟩)
  go_wp2
  go_ret
  exact ⟨rfl, by (first | (simp; done) | (repeat (first | assumption | exact Below.refl _ _ | (refine below_bw _ ?_ ?_; rotate_left; focus ((first | omega | (repeat (first | assumption | exact Nat.le_refl _ | refine BW.le_of ?_ | refine le_alloc ?_ | refine le_drew ?_ | refine le_drewN ?_ | refine le_set ?_ | refine le_plus ?_ ))))) | (refine Below.alloc ?_ ?_ _; rotate_left; focus ((first | omega | (repeat (first | assumption | exact Nat.le_refl _ | refine BW.le_of ?_ | refine le_alloc ?_ | refine le_drew ?_ | refine le_drewN ?_ | refine le_set ?_ | refine le_plus ?_ ))))) | (refine Below.setCell ?_ ?_ _; rotate_left; focus ((first | omega | (repeat (first | assumption | exact Nat.le_refl _ | refine BW.le_of ?_ | refine le_alloc ?_ | refine le_drew ?_ | refine le_drewN ?_ | refine le_set ?_ | refine le_plus ?_ ))))) | refine Below.drew ?_ | refine below_drewN ?_ _)))⟩
theorem exact4_pos {n : Int} {r : Nat} {w : World} (h : 0 ≤ n) (hr : IsCode 16 n.toNat r) : Gives Try.prog 22 #[.agg #[.int .u64 4, .int .i64 255], .int .i64 n] w (.bool ((valN 16 r : Int) == n)) := by
  refine Gives.of ?_
  have hr2 : r ≤ 255 := by have := hr.1; omega
  have hc : ∀ w, Gives Try.prog 23 #[.agg #[.int .u64 4, .int .i64 255], .int .i64 n] w (.int .i64 (r : Int)) := fun w => code4_any hr
  have hv : ∀ w, Gives Try.prog 18 #[.agg #[.int .u64 4, .int .i64 255], .int .i64 (r : Int)] w (.int .i64 (valN 16 r : Int)) := fun w => by
    have h := value4_any (c := (r : Int)) (w := w)
    rwa [clampN_in hr2] at h
  clear hr
  generalize valN 16 r = v at *
  go_enter Try.func22, Try.ntmps22
  go_wp2
  ((with_reducible first | refine wp_region_bx (Nat.le_refl _) (by kernel_rfl) (by kernel_rfl) ?_ | refine wp_region_bw (by kernel_rfl) (by kernel_rfl) ?_); (repeat (go_big_quiet_step (((with_reducible apply Gives.bw (Nat.le_refl _)); first | (with_reducible exact hc _) | (with_reducible exact hv _))))); refine wpQuiet_nil ?_; rintro _ ⟨x, rfl⟩)
  go_wp2
  go_ret
  exact ⟨rfl, by (first | (simp; done) | (repeat (first | assumption | exact Below.refl _ _ | (refine below_bw _ ?_ ?_; rotate_left; focus ((first | omega | (repeat (first | assumption | exact Nat.le_refl _ | refine BW.le_of ?_ | refine le_alloc ?_ | refine le_drew ?_ | refine le_drewN ?_ | refine le_set ?_ | refine le_plus ?_ ))))) | (refine Below.alloc ?_ ?_ _; rotate_left; focus ((first | omega | (repeat (first | assumption | exact Nat.le_refl _ | refine BW.le_of ?_ | refine le_alloc ?_ | refine le_drew ?_ | refine le_drewN ?_ | refine le_set ?_ | refine le_plus ?_ ))))) | (refine Below.setCell ?_ ?_ _; rotate_left; focus ((first | omega | (repeat (first | assumption | exact Nat.le_refl _ | refine BW.le_of ?_ | refine le_alloc ?_ | refine le_drew ?_ | refine le_drewN ?_ | refine le_set ?_ | refine le_plus ?_ ))))) | refine Below.drew ?_ | refine below_drewN ?_ _)))⟩
theorem Exact8_neg {n : Int} {w : World} (h : n < 0) : Gives Try.prog 11 #[.int .i64 n] w (.bool false) := by
  refine Gives.of ?_
  go_enter Try.func11, Try.ntmps11
  go_wp2_with ((with_reducible (first | apply Gives.call_bw (Nat.le_refl _) | apply Gives.call)); (focus (first | (with_reducible exact eight_any) | (with_reducible exact sixteen_any) | (with_reducible exact exact4_neg h))); intro x)
  go_ret
  exact ⟨rfl, by (first | (simp; done) | (repeat (first | assumption | exact Below.refl _ _ | (refine below_bw _ ?_ ?_; rotate_left; focus ((first | omega | (repeat (first | assumption | exact Nat.le_refl _ | refine BW.le_of ?_ | refine le_alloc ?_ | refine le_drew ?_ | refine le_drewN ?_ | refine le_set ?_ | refine le_plus ?_ ))))) | (refine Below.alloc ?_ ?_ _; rotate_left; focus ((first | omega | (repeat (first | assumption | exact Nat.le_refl _ | refine BW.le_of ?_ | refine le_alloc ?_ | refine le_drew ?_ | refine le_drewN ?_ | refine le_set ?_ | refine le_plus ?_ ))))) | (refine Below.setCell ?_ ?_ _; rotate_left; focus ((first | omega | (repeat (first | assumption | exact Nat.le_refl _ | refine BW.le_of ?_ | refine le_alloc ?_ | refine le_drew ?_ | refine le_drewN ?_ | refine le_set ?_ | refine le_plus ?_ ))))) | refine Below.drew ?_ | refine below_drewN ?_ _)))⟩
theorem Exact8_pos {n : Int} {r : Nat} {w : World} (h : 0 ≤ n) (hr : IsCode 16 n.toNat r) : Gives Try.prog 11 #[.int .i64 n] w (.bool ((valN 16 r : Int) == n)) := by
  refine Gives.of ?_
  have hx : ∀ w, Gives Try.prog 22 #[.agg #[.int .u64 4, .int .i64 255], .int .i64 n] w (.bool ((valN 16 r : Int) == n)) := fun w => exact4_pos h hr
  clear hr
  generalize valN 16 r = v at *
  go_enter Try.func11, Try.ntmps11
  go_wp2_with ((with_reducible (first | apply Gives.call_bw (Nat.le_refl _) | apply Gives.call)); (focus (first | (with_reducible exact eight_any) | (with_reducible exact sixteen_any) | (with_reducible exact hx _))); intro x)
  go_ret
  exact ⟨rfl, by (first | (simp; done) | (repeat (first | assumption | exact Below.refl _ _ | (refine below_bw _ ?_ ?_; rotate_left; focus ((first | omega | (repeat (first | assumption | exact Nat.le_refl _ | refine BW.le_of ?_ | refine le_alloc ?_ | refine le_drew ?_ | refine le_drewN ?_ | refine le_set ?_ | refine le_plus ?_ ))))) | (refine Below.alloc ?_ ?_ _; rotate_left; focus ((first | omega | (repeat (first | assumption | exact Nat.le_refl _ | refine BW.le_of ?_ | refine le_alloc ?_ | refine le_drew ?_ | refine le_drewN ?_ | refine le_set ?_ | refine le_plus ?_ ))))) | (refine Below.setCell ?_ ?_ _; rotate_left; focus ((first | omega | (repeat (first | assumption | exact Nat.le_refl _ | refine BW.le_of ?_ | refine le_alloc ?_ | refine le_drew ?_ | refine le_drewN ?_ | refine le_set ?_ | refine le_plus ?_ ))))) | refine Below.drew ?_ | refine below_drewN ?_ _)))⟩
theorem exact12_neg {n : Int} {w : World} (h : n < 0) : Gives Try.prog 22 #[.agg #[.int .u64 12, .int .i64 65535], .int .i64 n] w (.bool false) := by
  refine Gives.of ?_
  have hd : decide (0 ≤ n) = false := by simp; omega
  go_enter Try.func22, Try.ntmps22
  go_wp2
  ((with_reducible first | refine wp_region_bx (Nat.le_refl _) (by kernel_rfl) (by kernel_rfl) ?_ | refine wp_region_bw (by kernel_rfl) (by kernel_rfl) ?_); (repeat (go_big_quiet_step (((with_reducible apply Gives.bw (Nat.le_refl _)); first | (with_reducible exact code12_any (by assumption)))))); refine wpQuiet_nil ?_; rintro _ ⟨x, rfl⟩)
  go_wp2
  go_ret
  exact ⟨rfl, by (first | (simp; done) | (repeat (first | assumption | exact Below.refl _ _ | (refine below_bw _ ?_ ?_; rotate_left; focus ((first | omega | (repeat (first | assumption | exact Nat.le_refl _ | refine BW.le_of ?_ | refine le_alloc ?_ | refine le_drew ?_ | refine le_drewN ?_ | refine le_set ?_ | refine le_plus ?_ ))))) | (refine Below.alloc ?_ ?_ _; rotate_left; focus ((first | omega | (repeat (first | assumption | exact Nat.le_refl _ | refine BW.le_of ?_ | refine le_alloc ?_ | refine le_drew ?_ | refine le_drewN ?_ | refine le_set ?_ | refine le_plus ?_ ))))) | (refine Below.setCell ?_ ?_ _; rotate_left; focus ((first | omega | (repeat (first | assumption | exact Nat.le_refl _ | refine BW.le_of ?_ | refine le_alloc ?_ | refine le_drew ?_ | refine le_drewN ?_ | refine le_set ?_ | refine le_plus ?_ ))))) | refine Below.drew ?_ | refine below_drewN ?_ _)))⟩
theorem exact12_pos {n : Int} {r : Nat} {w : World} (h : 0 ≤ n) (hr : IsCode 4096 n.toNat r) : Gives Try.prog 22 #[.agg #[.int .u64 12, .int .i64 65535], .int .i64 n] w (.bool ((valN 4096 r : Int) == n)) := by
  refine Gives.of ?_
  have hr2 : r ≤ 65535 := by have := hr.1; omega
  have hc : ∀ w, Gives Try.prog 23 #[.agg #[.int .u64 12, .int .i64 65535], .int .i64 n] w (.int .i64 (r : Int)) := fun w => code12_any hr
  have hv : ∀ w, Gives Try.prog 18 #[.agg #[.int .u64 12, .int .i64 65535], .int .i64 (r : Int)] w (.int .i64 (valN 4096 r : Int)) := fun w => by
    have h := value12_any (c := (r : Int)) (w := w)
    rwa [clampN_in hr2] at h
  clear hr
  generalize valN 4096 r = v at *
  go_enter Try.func22, Try.ntmps22
  go_wp2
  ((with_reducible first | refine wp_region_bx (Nat.le_refl _) (by kernel_rfl) (by kernel_rfl) ?_ | refine wp_region_bw (by kernel_rfl) (by kernel_rfl) ?_); (repeat (go_big_quiet_step (((with_reducible apply Gives.bw (Nat.le_refl _)); first | (with_reducible exact hc _) | (with_reducible exact hv _))))); refine wpQuiet_nil ?_; rintro _ ⟨x, rfl⟩)
  go_wp2
  go_ret
  exact ⟨rfl, by (first | (simp; done) | (repeat (first | assumption | exact Below.refl _ _ | (refine below_bw _ ?_ ?_; rotate_left; focus ((first | omega | (repeat (first | assumption | exact Nat.le_refl _ | refine BW.le_of ?_ | refine le_alloc ?_ | refine le_drew ?_ | refine le_drewN ?_ | refine le_set ?_ | refine le_plus ?_ ))))) | (refine Below.alloc ?_ ?_ _; rotate_left; focus ((first | omega | (repeat (first | assumption | exact Nat.le_refl _ | refine BW.le_of ?_ | refine le_alloc ?_ | refine le_drew ?_ | refine le_drewN ?_ | refine le_set ?_ | refine le_plus ?_ ))))) | (refine Below.setCell ?_ ?_ _; rotate_left; focus ((first | omega | (repeat (first | assumption | exact Nat.le_refl _ | refine BW.le_of ?_ | refine le_alloc ?_ | refine le_drew ?_ | refine le_drewN ?_ | refine le_set ?_ | refine le_plus ?_ ))))) | refine Below.drew ?_ | refine below_drewN ?_ _)))⟩
theorem Exact16_neg {n : Int} {w : World} (h : n < 0) : Gives Try.prog 12 #[.int .i64 n] w (.bool false) := by
  refine Gives.of ?_
  go_enter Try.func12, Try.ntmps12
  go_wp2_with ((with_reducible (first | apply Gives.call_bw (Nat.le_refl _) | apply Gives.call)); (focus (first | (with_reducible exact eight_any) | (with_reducible exact sixteen_any) | (with_reducible exact exact12_neg h))); intro x)
  go_ret
  exact ⟨rfl, by (first | (simp; done) | (repeat (first | assumption | exact Below.refl _ _ | (refine below_bw _ ?_ ?_; rotate_left; focus ((first | omega | (repeat (first | assumption | exact Nat.le_refl _ | refine BW.le_of ?_ | refine le_alloc ?_ | refine le_drew ?_ | refine le_drewN ?_ | refine le_set ?_ | refine le_plus ?_ ))))) | (refine Below.alloc ?_ ?_ _; rotate_left; focus ((first | omega | (repeat (first | assumption | exact Nat.le_refl _ | refine BW.le_of ?_ | refine le_alloc ?_ | refine le_drew ?_ | refine le_drewN ?_ | refine le_set ?_ | refine le_plus ?_ ))))) | (refine Below.setCell ?_ ?_ _; rotate_left; focus ((first | omega | (repeat (first | assumption | exact Nat.le_refl _ | refine BW.le_of ?_ | refine le_alloc ?_ | refine le_drew ?_ | refine le_drewN ?_ | refine le_set ?_ | refine le_plus ?_ ))))) | refine Below.drew ?_ | refine below_drewN ?_ _)))⟩
theorem Exact16_pos {n : Int} {r : Nat} {w : World} (h : 0 ≤ n) (hr : IsCode 4096 n.toNat r) : Gives Try.prog 12 #[.int .i64 n] w (.bool ((valN 4096 r : Int) == n)) := by
  refine Gives.of ?_
  have hx : ∀ w, Gives Try.prog 22 #[.agg #[.int .u64 12, .int .i64 65535], .int .i64 n] w (.bool ((valN 4096 r : Int) == n)) := fun w => exact12_pos h hr
  clear hr
  generalize valN 4096 r = v at *
  go_enter Try.func12, Try.ntmps12
  go_wp2_with ((with_reducible (first | apply Gives.call_bw (Nat.le_refl _) | apply Gives.call)); (focus (first | (with_reducible exact eight_any) | (with_reducible exact sixteen_any) | (with_reducible exact hx _))); intro x)
  go_ret
  exact ⟨rfl, by (first | (simp; done) | (repeat (first | assumption | exact Below.refl _ _ | (refine below_bw _ ?_ ?_; rotate_left; focus ((first | omega | (repeat (first | assumption | exact Nat.le_refl _ | refine BW.le_of ?_ | refine le_alloc ?_ | refine le_drew ?_ | refine le_drewN ?_ | refine le_set ?_ | refine le_plus ?_ ))))) | (refine Below.alloc ?_ ?_ _; rotate_left; focus ((first | omega | (repeat (first | assumption | exact Nat.le_refl _ | refine BW.le_of ?_ | refine le_alloc ?_ | refine le_drew ?_ | refine le_drewN ?_ | refine le_set ?_ | refine le_plus ?_ ))))) | (refine Below.setCell ?_ ?_ _; rotate_left; focus ((first | omega | (repeat (first | assumption | exact Nat.le_refl _ | refine BW.le_of ?_ | refine le_alloc ?_ | refine le_drew ?_ | refine le_drewN ?_ | refine le_set ?_ | refine le_plus ?_ ))))) | refine Below.drew ?_ | refine below_drewN ?_ _)))⟩
theorem rValue8_any {c : Int} {w : World} : Gives Try.prog 9 #[.int .i64 c] w (.int .i64 (valN 16 (clampN 255 c) : Int)) := by
  refine Gives.of ?_
  have hw : ∀ w, Gives Try.prog 21 #[.int .i64 c, .int .i64 0, .int .i64 255] w (.int .i64 (clampN 255 c : Int)) := fun w => by
    have h := rwithin_any (n := c) (lo := 0) (hi := 255) (w := w)
    have e : within c 0 255 = (clampN 255 c : Int) := by
      unfold within clampN
      split
      · omega
      · split <;> omega
    rwa [e] at h
  have hl := clampN_le 255 c
  have hv : ∀ w, Gives Try.prog 20 #[.int .i64 (clampN 255 c : Int), .int .i64 16] w (.int .i64 (valN 16 (clampN 255 c) : Int)) := fun w => rvalue_any (u := 16) (by omega) (by omega) (by omega)
  generalize hv2 : valN 16 (clampN 255 c) = v at *
  clear hv2
  generalize clampN 255 c = k at *
  go_enter Try.func9, Try.ntmps9
  go_wp2_with ((with_reducible (first | apply Gives.call_bw (Nat.le_refl _) | apply Gives.call)); (focus (first | (with_reducible exact hw _) | (with_reducible exact hv _))); intro x)
  go_ret
  exact ⟨rfl, by (first | (simp; done) | (repeat (first | assumption | exact Below.refl _ _ | (refine below_bw _ ?_ ?_; rotate_left; focus ((first | omega | (repeat (first | assumption | exact Nat.le_refl _ | refine BW.le_of ?_ | refine le_alloc ?_ | refine le_drew ?_ | refine le_drewN ?_ | refine le_set ?_ | refine le_plus ?_ ))))) | (refine Below.alloc ?_ ?_ _; rotate_left; focus ((first | omega | (repeat (first | assumption | exact Nat.le_refl _ | refine BW.le_of ?_ | refine le_alloc ?_ | refine le_drew ?_ | refine le_drewN ?_ | refine le_set ?_ | refine le_plus ?_ ))))) | (refine Below.setCell ?_ ?_ _; rotate_left; focus ((first | omega | (repeat (first | assumption | exact Nat.le_refl _ | refine BW.le_of ?_ | refine le_alloc ?_ | refine le_drew ?_ | refine le_drewN ?_ | refine le_set ?_ | refine le_plus ?_ ))))) | refine Below.drew ?_ | refine below_drewN ?_ _)))⟩
theorem rCode8_any {n : Int} {r : Nat} {w : World} (hr : IsCode 16 n.toNat r) (hn : -9223372036854775808 ≤ n ∧ n ≤ 9223372036854775807) : Gives Try.prog 15 #[.int .i64 n] w (.int .i64 (r : Int)) := by
  refine Gives.of ?_
  have h : ∀ w, Gives Try.prog 24 #[.int .i64 n, .int .i64 16, .int .i64 255] w (.int .i64 (r : Int)) := fun w => rcode_any (u := 16) (M := 255) (by omega) (by omega) (by omega) hr hn
  clear hr
  go_enter Try.func15, Try.ntmps15
  go_wp2_with ((with_reducible (first | apply Gives.call_bw (Nat.le_refl _) | apply Gives.call)); (focus (first | (with_reducible exact h _))); intro x)
  go_ret
  exact ⟨rfl, by (first | (simp; done) | (repeat (first | assumption | exact Below.refl _ _ | (refine below_bw _ ?_ ?_; rotate_left; focus ((first | omega | (repeat (first | assumption | exact Nat.le_refl _ | refine BW.le_of ?_ | refine le_alloc ?_ | refine le_drew ?_ | refine le_drewN ?_ | refine le_set ?_ | refine le_plus ?_ ))))) | (refine Below.alloc ?_ ?_ _; rotate_left; focus ((first | omega | (repeat (first | assumption | exact Nat.le_refl _ | refine BW.le_of ?_ | refine le_alloc ?_ | refine le_drew ?_ | refine le_drewN ?_ | refine le_set ?_ | refine le_plus ?_ ))))) | (refine Below.setCell ?_ ?_ _; rotate_left; focus ((first | omega | (repeat (first | assumption | exact Nat.le_refl _ | refine BW.le_of ?_ | refine le_alloc ?_ | refine le_drew ?_ | refine le_drewN ?_ | refine le_set ?_ | refine le_plus ?_ ))))) | refine Below.drew ?_ | refine below_drewN ?_ _)))⟩
theorem rValue16_any {c : Int} {w : World} : Gives Try.prog 10 #[.int .i64 c] w (.int .i64 (valN 4096 (clampN 65535 c) : Int)) := by
  refine Gives.of ?_
  have hw : ∀ w, Gives Try.prog 21 #[.int .i64 c, .int .i64 0, .int .i64 65535] w (.int .i64 (clampN 65535 c : Int)) := fun w => by
    have h := rwithin_any (n := c) (lo := 0) (hi := 65535) (w := w)
    have e : within c 0 65535 = (clampN 65535 c : Int) := by
      unfold within clampN
      split
      · omega
      · split <;> omega
    rwa [e] at h
  have hl := clampN_le 65535 c
  have hv : ∀ w, Gives Try.prog 20 #[.int .i64 (clampN 65535 c : Int), .int .i64 4096] w (.int .i64 (valN 4096 (clampN 65535 c) : Int)) := fun w => rvalue_any (u := 4096) (by omega) (by omega) (by omega)
  generalize hv2 : valN 4096 (clampN 65535 c) = v at *
  clear hv2
  generalize clampN 65535 c = k at *
  go_enter Try.func10, Try.ntmps10
  go_wp2_with ((with_reducible (first | apply Gives.call_bw (Nat.le_refl _) | apply Gives.call)); (focus (first | (with_reducible exact hw _) | (with_reducible exact hv _))); intro x)
  go_ret
  exact ⟨rfl, by (first | (simp; done) | (repeat (first | assumption | exact Below.refl _ _ | (refine below_bw _ ?_ ?_; rotate_left; focus ((first | omega | (repeat (first | assumption | exact Nat.le_refl _ | refine BW.le_of ?_ | refine le_alloc ?_ | refine le_drew ?_ | refine le_drewN ?_ | refine le_set ?_ | refine le_plus ?_ ))))) | (refine Below.alloc ?_ ?_ _; rotate_left; focus ((first | omega | (repeat (first | assumption | exact Nat.le_refl _ | refine BW.le_of ?_ | refine le_alloc ?_ | refine le_drew ?_ | refine le_drewN ?_ | refine le_set ?_ | refine le_plus ?_ ))))) | (refine Below.setCell ?_ ?_ _; rotate_left; focus ((first | omega | (repeat (first | assumption | exact Nat.le_refl _ | refine BW.le_of ?_ | refine le_alloc ?_ | refine le_drew ?_ | refine le_drewN ?_ | refine le_set ?_ | refine le_plus ?_ ))))) | refine Below.drew ?_ | refine below_drewN ?_ _)))⟩
theorem rCode16_any {n : Int} {r : Nat} {w : World} (hr : IsCode 4096 n.toNat r) (hn : -9223372036854775808 ≤ n ∧ n ≤ 9223372036854775807) : Gives Try.prog 16 #[.int .i64 n] w (.int .i64 (r : Int)) := by
  refine Gives.of ?_
  have h : ∀ w, Gives Try.prog 24 #[.int .i64 n, .int .i64 4096, .int .i64 65535] w (.int .i64 (r : Int)) := fun w => rcode_any (u := 4096) (M := 65535) (by omega) (by omega) (by omega) hr hn
  clear hr
  go_enter Try.func16, Try.ntmps16
  go_wp2_with ((with_reducible (first | apply Gives.call_bw (Nat.le_refl _) | apply Gives.call)); (focus (first | (with_reducible exact h _))); intro x)
  go_ret
  exact ⟨rfl, by (first | (simp; done) | (repeat (first | assumption | exact Below.refl _ _ | (refine below_bw _ ?_ ?_; rotate_left; focus ((first | omega | (repeat (first | assumption | exact Nat.le_refl _ | refine BW.le_of ?_ | refine le_alloc ?_ | refine le_drew ?_ | refine le_drewN ?_ | refine le_set ?_ | refine le_plus ?_ ))))) | (refine Below.alloc ?_ ?_ _; rotate_left; focus ((first | omega | (repeat (first | assumption | exact Nat.le_refl _ | refine BW.le_of ?_ | refine le_alloc ?_ | refine le_drew ?_ | refine le_drewN ?_ | refine le_set ?_ | refine le_plus ?_ ))))) | (refine Below.setCell ?_ ?_ _; rotate_left; focus ((first | omega | (repeat (first | assumption | exact Nat.le_refl _ | refine BW.le_of ?_ | refine le_alloc ?_ | refine le_drew ?_ | refine le_drewN ?_ | refine le_set ?_ | refine le_plus ?_ ))))) | refine Below.drew ?_ | refine below_drewN ?_ _)))⟩
end Go.Proofs.Ytbjpdgilclhiaaa

/-
  Joined texts: Cd1.
-/
import Derived.Test.YtdnehjhijmeihaaGreatQNum
import Derived.Test.YtdnehjhijmeihaaGreatQLen
namespace Go.Proofs.YtdnehjhijmeihaaGreat
open Go.ChangeShapes Go.WideShapes Go.ChangeAt Go.RowKit
set_option linter.unusedVariables false
set_option linter.unusedSimpArgs false
theorem code_bits {W n e q : Nat} (hW : W ≤ 12) (hn : n < 9223372036854775808) (he : e < 8) (hq : n / 2 ^ (e + 3) = 2 ^ W + q) (hqu : q < 2 ^ W) :
    bits .or .i64 (bits .or .i64 ((2 ^ (W + 3) : Nat) : Int) ((e * 2 ^ W : Nat) : Int)) (bits .and .i64 ((n : Int) / 2 ^ (e + 3)) ((2 ^ W - 1 : Nat) : Int)) = ((2 ^ W * (8 + e) + q : Nat) : Int) := by
  have hp : 2 ^ W ≤ 4096 := Nat.pow_le_pow_right (n := 2) (by omega) hW
  have e8 : 2 ^ (W + 3) = 2 ^ W * 8 := Nat.pow_add 2 W 3
  have hle : e * 2 ^ W < 2 ^ (W + 3) := by rw [e8, Nat.mul_comm]; exact Nat.mul_lt_mul_of_pos_left he (Nat.two_pow_pos W)
  have h1 : 2 ^ (W + 3) ||| e * 2 ^ W = 2 ^ W * (8 + e) := by
    have := Nat.two_pow_add_eq_or_of_lt hle 1
    rw [Nat.mul_one] at this
    rw [← this, e8, Nat.mul_add, Nat.mul_comm e]
  have h2 : 2 ^ W * (8 + e) ||| q = 2 ^ W * (8 + e) + q := (Nat.two_pow_add_eq_or_of_lt hqu (8 + e)).symm
  have hb : 2 ^ W * (8 + e) ≤ 4096 * 15 := Nat.mul_le_mul hp (by omega)
  rw [cast_div_pow, i64_or _ _ (by omega) (by omega), h1, i64_and _ _ (by rw [hq]; omega) (by omega), Nat.and_two_pow_sub_one_eq_mod, hq]
  rw [show (2 ^ W + q) % 2 ^ W = q by rw [Nat.add_mod_left, Nat.mod_eq_of_lt hqu], i64_or _ _ (by omega) (by omega), h2]
theorem len_split {W n : Nat} (h1 : 8 * 2 ^ W ≤ n) (h2 : n < 2 ^ W * 2048) (hW : W ≤ 12) : ∃ e q, e < 8 ∧ Lib.bitLen n = e + (W + 4) ∧ n / 2 ^ (e + 3) = 2 ^ W + q ∧ q < 2 ^ W := by
  have hp : 2 ^ W ≤ 4096 := Nat.pow_le_pow_right (n := 2) (by omega) hW
  have hp1 : 0 < 2 ^ W := Nat.two_pow_pos W
  obtain ⟨l1, l2, l3⟩ := bitLen_bounds (n := n) (by omega) (by omega)
  generalize Lib.bitLen n = L at *
  have a1 : W + 3 < L := by
    have : 2 ^ (W + 3) < 2 ^ L := by rw [Nat.pow_add]; omega
    exact (Nat.pow_lt_pow_iff_right (by omega)).1 this
  have a2 : L - 1 < W + 11 := by
    have : 2 ^ (L - 1) < 2 ^ (W + 11) := by rw [Nat.pow_add]; omega
    exact (Nat.pow_lt_pow_iff_right (by omega)).1 this
  obtain ⟨e, rfl⟩ : ∃ e, L = e + (W + 4) := ⟨L - (W + 4), by omega⟩
  have he : e < 8 := by omega
  have hp2 := Nat.two_pow_pos (e + 3)
  have e1 : 2 ^ (e + (W + 4) - 1) = 2 ^ W * 2 ^ (e + 3) := by rw [← Nat.pow_add]; congr 1; omega
  have e2 : 2 ^ (e + (W + 4)) = (2 ^ W + 2 ^ W) * 2 ^ (e + 3) := by
    rw [show e + (W + 4) = (W + 1) + (e + 3) by omega, Nat.pow_add, Nat.pow_succ, Nat.mul_two]
  rw [e1] at l2
  rw [e2] at l3
  have b1 : 2 ^ W ≤ n / 2 ^ (e + 3) := (Nat.le_div_iff_mul_le hp2).2 l2
  have b2 : n / 2 ^ (e + 3) < 2 ^ W + 2 ^ W := (Nat.div_lt_iff_lt_mul hp2).2 l3
  exact ⟨e, n / 2 ^ (e + 3) - 2 ^ W, he, rfl, by omega, by omega⟩
theorem valueM4_any {w : World} : Gives Tryz.prog 206 #[.agg #[.int .u64 4, .int .i64 255], .int .i64 255] w (.int .i64 31744) := by
  have h := value4_any (c := 255) (w := w)
  rwa [show ((valN 16 (clampN 255 255) : Nat) : Int) = 31744 by decide +kernel] at h
set_option maxHeartbeats 1000000 in
set_option maxRecDepth 400000 in
theorem code4_mid {n e q : Nat} {w : World} (he : e < 8) (hlen : Lib.bitLen n = e + 8) (h1 : 128 ≤ n) (h2 : n < 31744) (hq : n / 2 ^ (e + 3) = 16 + q) (hqu : q < 16) :
    Gives Tryz.prog 201 #[.agg #[.int .u64 4, .int .i64 255], .int .i64 n] w (.int .i64 ((16 * (8 + e) + q : Nat) : Int)) := by
  refine Gives.of ?_
  have hl : ∀ w, Gives Tryz.prog 208 #[.int .u64 (n : Int)] w (.int .i64 ((e : Int) + 8)) := fun w => by
    have h := Len_any (n := n) (w := w) (by omega)
    rw [hlen] at h
    exact h
  clear hlen
  have hb := code_bits (W := 4) (n := n) (by omega) (by omega) he hq hqu
  rw [show (2 : Nat) ^ 4 = 16 from rfl, show (2 : Nat) ^ (4 + 3) = 128 from rfl, show (((16 - 1 : Nat)) : Int) = 15 from rfl, show (((128 : Nat)) : Int) = 128 from rfl, show ((e * 16 : Nat) : Int) = ((e : Int) + 8 - 1 - 4 - 3) * 16 by omega] at hb
  have HB := Lib.hid hb
  obtain ⟨T, hT⟩ : ∃ T : Int, T = 31744 := ⟨_, rfl⟩
  have hv : ∀ w, Gives Tryz.prog 206 #[.agg #[.int .u64 4, .int .i64 255], .int .i64 255] w (.int .i64 T) := fun w => by rw [hT]; exact valueM4_any
  have hT2 : (n : Int) < T := by omega
  have hn2 : n < 16777216 := by omega
  clear hq hb hT h2
  go_enter Tryz.func201, Tryz.ntmps201
  go_wp2_with ((with_reducible (first | apply Gives.call_bw (Nat.le_refl _) | apply Gives.call)); (focus (first | (with_reducible exact plain4_any) | (with_reducible exact hv _))); intro x; (try dsimp only [drew_heap] at x))
  ((with_reducible first | refine wp_region_bx (Nat.le_refl _) (by kernel_rfl) (by kernel_rfl) ?_ | refine wp_region_bw (by kernel_rfl) (by kernel_rfl) ?_); (repeat (go_big_quiet_step (((with_reducible apply Gives.bw (Nat.le_refl _)); first | (with_reducible exact hl _))))); refine wpQuiet_nil ?_; rintro _ ⟨x, rfl⟩)
  go_wp2_with ((with_reducible (first | apply Gives.call_bw (Nat.le_refl _) | apply Gives.call)); (focus (first | (with_reducible exact fail))); intro x; (try dsimp only [drew_heap] at x))
  ((with_reducible first | refine wp_region_bx (Nat.le_refl _) (by kernel_rfl) (by kernel_rfl) ?_ | refine wp_region_bw (by kernel_rfl) (by kernel_rfl) ?_); (repeat (go_big_quiet_step (((with_reducible apply Gives.bw (Nat.le_refl _)); first | (with_reducible exact plain4_any))))); refine wpQuiet_nil ?_; rintro _ ⟨x, rfl⟩)
  go_wp2
  go_ret
  exact ⟨congrArg (fun b => Ending.returned (.int .i64 b)) HB.out, by exact blw⟩
set_option maxHeartbeats 1000000 in
set_option maxRecDepth 400000 in
theorem code4_any {n : Int} {r : Nat} {w : World} (hr : IsCode 16 n.toNat r) : Gives Tryz.prog 201 #[.agg #[.int .u64 4, .int .i64 255], .int .i64 n] w (.int .i64 (r : Int)) := by
  by_cases h0 : n < 0
  · have e : r = 0 := hr.unique (by omega) ⟨by omega, by rw [show valN 16 0 = 0 from rfl]; omega, fun h => by rw [show valN 16 (0 + 1) = 1 from rfl]; omega⟩
    subst e
    refine Gives.of ?_
    clear hr
    go_enter Tryz.func201, Tryz.ntmps201
    go_wp2_with ((with_reducible (first | apply Gives.call_bw (Nat.le_refl _) | apply Gives.call)); (focus (first | (with_reducible exact plain4_any) | (with_reducible exact valueM4_any))); intro x; (try dsimp only [drew_heap] at x))
    all_goals first | (exfalso; omega) | (go_ret; exact ⟨congrArg (fun b => Ending.returned (.int .i64 b)) (show max n 0 = ((0 : Nat) : Int) by omega), by exact blw⟩)
  obtain ⟨m, rfl⟩ := Int.eq_ofNat_of_zero_le (show 0 ≤ n by omega)
  rw [Int.toNat_natCast] at hr
  by_cases h1 : m < 128
  · have e : r = m := hr.unique (by omega) ⟨by omega, by unfold valN; rw [if_pos (by omega)]; omega, fun h => Nat.lt_of_le_of_lt (by unfold valN; rw [if_pos (by omega)]; omega) (valN_step (u := 16) (by omega) h)⟩
    subst e
    refine Gives.of ?_
    clear hr
    go_enter Tryz.func201, Tryz.ntmps201
    go_wp2_with ((with_reducible (first | apply Gives.call_bw (Nat.le_refl _) | apply Gives.call)); (focus (first | (with_reducible exact plain4_any) | (with_reducible exact valueM4_any))); intro x; (try dsimp only [drew_heap] at x))
    all_goals first | (exfalso; omega) | (go_ret; exact ⟨rfl, by exact blw⟩)
  by_cases h2 : 31744 ≤ m
  · have e : r = 255 := hr.unique (by omega) ⟨by omega, by rw [show valN 16 255 = 31744 by decide +kernel]; omega, fun h => by omega⟩
    subst e
    refine Gives.of ?_
    obtain ⟨T, hT⟩ : ∃ T : Int, T = 31744 := ⟨_, rfl⟩
    have hv : ∀ w, Gives Tryz.prog 206 #[.agg #[.int .u64 4, .int .i64 255], .int .i64 255] w (.int .i64 T) := fun w => by rw [hT]; exact valueM4_any
    have hT2 : T ≤ (m : Int) := by omega
    clear hr hT h2
    go_enter Tryz.func201, Tryz.ntmps201
    go_wp2_with ((with_reducible (first | apply Gives.call_bw (Nat.le_refl _) | apply Gives.call)); (focus (first | (with_reducible exact plain4_any) | (with_reducible exact hv _))); intro x; (try dsimp only [drew_heap] at x))
    all_goals first | (exfalso; omega) | (go_ret; exact ⟨rfl, by exact blw⟩)
  obtain ⟨e, q, he, hlen, hq, hqu⟩ := len_split (W := 4) (n := m) (by omega) (by omega) (by omega)
  have er : r = 16 * (8 + e) + q := hr.unique (by omega) (isCode_of (u := 16) (by omega) he hq hqu)
  rw [er]
  exact code4_mid he hlen (by omega) (by omega) hq hqu
theorem Code8_any {n : Int} {r : Nat} {w : World} (hr : IsCode 16 n.toNat r) : Gives Tryz.prog 173 #[.int .i64 n] w (.int .i64 (r : Int)) := by
  refine Gives.of ?_
  have h : ∀ w, Gives Tryz.prog 201 #[.agg #[.int .u64 4, .int .i64 255], .int .i64 n] w (.int .i64 (r : Int)) := fun w => code4_any hr
  clear hr
  go_enter Tryz.func173, Tryz.ntmps173
  go_wp2_with ((with_reducible (first | apply Gives.call_bw (Nat.le_refl _) | apply Gives.call)); (focus (first | (with_reducible exact eight_any) | (with_reducible exact sixteen_any) | (with_reducible exact h _))); intro x; (try dsimp only [drew_heap] at x))
  go_ret
  exact ⟨rfl, by exact blw⟩
theorem valueM12_any {w : World} : Gives Tryz.prog 206 #[.agg #[.int .u64 12, .int .i64 65535], .int .i64 65535] w (.int .i64 8387584) := by
  have h := value12_any (c := 65535) (w := w)
  rwa [show ((valN 4096 (clampN 65535 65535) : Nat) : Int) = 8387584 by decide +kernel] at h
set_option maxHeartbeats 1000000 in
set_option maxRecDepth 400000 in
theorem code12_mid {n e q : Nat} {w : World} (he : e < 8) (hlen : Lib.bitLen n = e + 16) (h1 : 32768 ≤ n) (h2 : n < 8387584) (hq : n / 2 ^ (e + 3) = 4096 + q) (hqu : q < 4096) :
    Gives Tryz.prog 201 #[.agg #[.int .u64 12, .int .i64 65535], .int .i64 n] w (.int .i64 ((4096 * (8 + e) + q : Nat) : Int)) := by
  refine Gives.of ?_
  have hl : ∀ w, Gives Tryz.prog 208 #[.int .u64 (n : Int)] w (.int .i64 ((e : Int) + 16)) := fun w => by
    have h := Len_any (n := n) (w := w) (by omega)
    rw [hlen] at h
    exact h
  clear hlen
  have hb := code_bits (W := 12) (n := n) (by omega) (by omega) he hq hqu
  rw [show (2 : Nat) ^ 12 = 4096 from rfl, show (2 : Nat) ^ (12 + 3) = 32768 from rfl, show (((4096 - 1 : Nat)) : Int) = 4095 from rfl, show (((32768 : Nat)) : Int) = 32768 from rfl, show ((e * 4096 : Nat) : Int) = ((e : Int) + 16 - 1 - 12 - 3) * 4096 by omega] at hb
  have HB := Lib.hid hb
  obtain ⟨T, hT⟩ : ∃ T : Int, T = 8387584 := ⟨_, rfl⟩
  have hv : ∀ w, Gives Tryz.prog 206 #[.agg #[.int .u64 12, .int .i64 65535], .int .i64 65535] w (.int .i64 T) := fun w => by rw [hT]; exact valueM12_any
  have hT2 : (n : Int) < T := by omega
  have hn2 : n < 16777216 := by omega
  clear hq hb hT h2
  go_enter Tryz.func201, Tryz.ntmps201
  go_wp2_with ((with_reducible (first | apply Gives.call_bw (Nat.le_refl _) | apply Gives.call)); (focus (first | (with_reducible exact plain12_any) | (with_reducible exact hv _))); intro x; (try dsimp only [drew_heap] at x))
  ((with_reducible first | refine wp_region_bx (Nat.le_refl _) (by kernel_rfl) (by kernel_rfl) ?_ | refine wp_region_bw (by kernel_rfl) (by kernel_rfl) ?_); (repeat (go_big_quiet_step (((with_reducible apply Gives.bw (Nat.le_refl _)); first | (with_reducible exact hl _))))); refine wpQuiet_nil ?_; rintro _ ⟨x, rfl⟩)
  go_wp2_with ((with_reducible (first | apply Gives.call_bw (Nat.le_refl _) | apply Gives.call)); (focus (first | (with_reducible exact fail))); intro x; (try dsimp only [drew_heap] at x))
  ((with_reducible first | refine wp_region_bx (Nat.le_refl _) (by kernel_rfl) (by kernel_rfl) ?_ | refine wp_region_bw (by kernel_rfl) (by kernel_rfl) ?_); (repeat (go_big_quiet_step (((with_reducible apply Gives.bw (Nat.le_refl _)); first | (with_reducible exact plain12_any))))); refine wpQuiet_nil ?_; rintro _ ⟨x, rfl⟩)
  go_wp2
  go_ret
  exact ⟨congrArg (fun b => Ending.returned (.int .i64 b)) HB.out, by exact blw⟩
set_option maxHeartbeats 1000000 in
set_option maxRecDepth 400000 in
theorem code12_any {n : Int} {r : Nat} {w : World} (hr : IsCode 4096 n.toNat r) : Gives Tryz.prog 201 #[.agg #[.int .u64 12, .int .i64 65535], .int .i64 n] w (.int .i64 (r : Int)) := by
  by_cases h0 : n < 0
  · have e : r = 0 := hr.unique (by omega) ⟨by omega, by rw [show valN 4096 0 = 0 from rfl]; omega, fun h => by rw [show valN 4096 (0 + 1) = 1 from rfl]; omega⟩
    subst e
    refine Gives.of ?_
    clear hr
    go_enter Tryz.func201, Tryz.ntmps201
    go_wp2_with ((with_reducible (first | apply Gives.call_bw (Nat.le_refl _) | apply Gives.call)); (focus (first | (with_reducible exact plain12_any) | (with_reducible exact valueM12_any))); intro x; (try dsimp only [drew_heap] at x))
    all_goals first | (exfalso; omega) | (go_ret; exact ⟨congrArg (fun b => Ending.returned (.int .i64 b)) (show max n 0 = ((0 : Nat) : Int) by omega), by exact blw⟩)
  obtain ⟨m, rfl⟩ := Int.eq_ofNat_of_zero_le (show 0 ≤ n by omega)
  rw [Int.toNat_natCast] at hr
  by_cases h1 : m < 32768
  · have e : r = m := hr.unique (by omega) ⟨by omega, by unfold valN; rw [if_pos (by omega)]; omega, fun h => Nat.lt_of_le_of_lt (by unfold valN; rw [if_pos (by omega)]; omega) (valN_step (u := 4096) (by omega) h)⟩
    subst e
    refine Gives.of ?_
    clear hr
    go_enter Tryz.func201, Tryz.ntmps201
    go_wp2_with ((with_reducible (first | apply Gives.call_bw (Nat.le_refl _) | apply Gives.call)); (focus (first | (with_reducible exact plain12_any) | (with_reducible exact valueM12_any))); intro x; (try dsimp only [drew_heap] at x))
    all_goals first | (exfalso; omega) | (go_ret; exact ⟨rfl, by exact blw⟩)
  by_cases h2 : 8387584 ≤ m
  · have e : r = 65535 := hr.unique (by omega) ⟨by omega, by rw [show valN 4096 65535 = 8387584 by decide +kernel]; omega, fun h => by omega⟩
    subst e
    refine Gives.of ?_
    obtain ⟨T, hT⟩ : ∃ T : Int, T = 8387584 := ⟨_, rfl⟩
    have hv : ∀ w, Gives Tryz.prog 206 #[.agg #[.int .u64 12, .int .i64 65535], .int .i64 65535] w (.int .i64 T) := fun w => by rw [hT]; exact valueM12_any
    have hT2 : T ≤ (m : Int) := by omega
    clear hr hT h2
    go_enter Tryz.func201, Tryz.ntmps201
    go_wp2_with ((with_reducible (first | apply Gives.call_bw (Nat.le_refl _) | apply Gives.call)); (focus (first | (with_reducible exact plain12_any) | (with_reducible exact hv _))); intro x; (try dsimp only [drew_heap] at x))
    all_goals first | (exfalso; omega) | (go_ret; exact ⟨rfl, by exact blw⟩)
  obtain ⟨e, q, he, hlen, hq, hqu⟩ := len_split (W := 12) (n := m) (by omega) (by omega) (by omega)
  have er : r = 4096 * (8 + e) + q := hr.unique (by omega) (isCode_of (u := 4096) (by omega) he hq hqu)
  rw [er]
  exact code12_mid he hlen (by omega) (by omega) hq hqu
theorem Code16_any {n : Int} {r : Nat} {w : World} (hr : IsCode 4096 n.toNat r) : Gives Tryz.prog 172 #[.int .i64 n] w (.int .i64 (r : Int)) := by
  refine Gives.of ?_
  have h : ∀ w, Gives Tryz.prog 201 #[.agg #[.int .u64 12, .int .i64 65535], .int .i64 n] w (.int .i64 (r : Int)) := fun w => code12_any hr
  clear hr
  go_enter Tryz.func172, Tryz.ntmps172
  go_wp2_with ((with_reducible (first | apply Gives.call_bw (Nat.le_refl _) | apply Gives.call)); (focus (first | (with_reducible exact eight_any) | (with_reducible exact sixteen_any) | (with_reducible exact h _))); intro x; (try dsimp only [drew_heap] at x))
  go_ret
  exact ⟨rfl, by exact blw⟩
end Go.Proofs.YtdnehjhijmeihaaGreat

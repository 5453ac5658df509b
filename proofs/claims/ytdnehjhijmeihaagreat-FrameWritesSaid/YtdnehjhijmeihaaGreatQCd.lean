/-
  Joined texts: Cd.
-/
import Derived.Test.YtdnehjhijmeihaaGreatQCd1
import Derived.Test.YtdnehjhijmeihaaGreatQMem
namespace Go.Proofs.YtdnehjhijmeihaaGreat
open Go.ChangeShapes Go.WideShapes Go.ChangeAt Go.RowKit
set_option linter.unusedVariables false
set_option linter.unusedSimpArgs false
theorem rvalue_any {c u : Nat} {w : World} (hu : 0 < u) (hu2 : u ≤ 4096) (hc : c < 16 * u) : Gives Tryz.prog 161 #[.int .i64 c, .int .i64 u] w (.int .i64 (valN u c : Int)) := by
  refine Gives.of ?_
  by_cases h : c < 8 * u
  · have HV := Lib.hid (show valN u c = c by unfold valN; rw [if_pos h])
    go_enter Tryz.func161, Tryz.ntmps161
    go_wp2
    all_goals first | (exfalso; omega) | (go_ret; exact ⟨by rw [HV.out]; rfl, by exact blw⟩)
  · have HV := Lib.hid (show valN u c = (c % u + u) * 2 ^ (c / u % 8 + 3) by unfold valN; rw [if_neg h])
    have hm := Nat.mod_lt c hu
    obtain ⟨m, hmm⟩ : ∃ m : Nat, (c : Int) % (u : Int) = (m : Int) ∧ c % u = m := ⟨c % u, by norm_cast, rfl⟩
    obtain ⟨Q, hQ⟩ : ∃ Q : Nat, (c : Int) / (u : Int) = (Q : Int) ∧ c / u = Q := ⟨c / u, by norm_cast, rfl⟩
    have hQ16 : Q < 16 := by rw [← hQ.2]; exact (Nat.div_lt_iff_lt_mul hu).2 hc
    rw [hmm.2, hQ.2] at HV
    obtain ⟨K, hK⟩ : ∃ K, Q % 8 = K := ⟨_, rfl⟩
    rw [hK] at HV
    have HK := Lib.hid hK
    have hQ1 := hQ.1
    have hK8 : K < 8 := by omega
    have hm2 : m < u := by have := hmm.2; omega
    have hmm1 := hmm.1
    clear hmm hQ hK hm
    go_enter Tryz.func161, Tryz.ntmps161
    go_wp2
    go_loopw [5, 6] (fun n k wr => ∃ j : Nat, j ≤ K + 3 ∧ k = .int .i64 j ∧ n = .int .i64 (((m + u) * 2 ^ (K + 3 - j) : Nat) : Int) ∧ ∃ y : BW w.heap.size w, wr = y.w) (fun _ k _ => (intOf k).toNat)
    case atStart => exact ⟨K + 3, by omega, by rw [← HK.out]; congr 1, by rw [Nat.sub_self]; simp, BW.mk (Below.refl _ _), rfl⟩
    case round =>
      obtain ⟨j, hj, rfl, rfl, y, rfl⟩ := hrel
      have hle : (m + u) * 2 ^ (K + 3 - j) ≤ 8192 * 2 ^ 10 := Nat.mul_le_mul (by omega) (Nat.pow_le_pow_right (by omega) (by omega))
      by_cases h0 : 0 < j
      · have hn := Lib.hid (show (m + u) * 2 ^ (K + 3 - (j - 1)) = 2 * ((m + u) * 2 ^ (K + 3 - j)) by
          rw [show K + 3 - (j - 1) = (K + 3 - j) + 1 by omega, Nat.pow_succ, Nat.mul_comm _ 2, ← Nat.mul_assoc, Nat.mul_comm _ 2, Nat.mul_assoc])
        generalize (m + u) * 2 ^ (K + 3 - j) = t at *
        go_wp2
        all_goals first | (exfalso; omega) | exact ⟨⟨j - 1, by omega, by rw [show ((j - 1 : Nat) : Int) = (j : Int) - 1 by omega], by rw [hn.out]; rfl, _, rfl⟩, by simp [intOf]; omega⟩
      · obtain rfl : j = 0 := by omega
        rw [Nat.sub_zero] at *
        generalize (m + u) * 2 ^ (K + 3) = t at *
        go_wp2
        all_goals first | (exfalso; omega) | (go_ret; exact ⟨by rw [HV.out]; rfl, by exact blw⟩)
theorem rcode_any {n : Int} {u M r : Nat} {w : World} (hu : 0 < u) (hu2 : u ≤ 4096) (hM : M + 1 = 16 * u) (hr : IsCode u n.toNat r) (hn : -9223372036854775808 ≤ n ∧ n ≤ 9223372036854775807) : Gives Tryz.prog 144 #[.int .i64 n, .int .i64 u, .int .i64 M] w (.int .i64 (r : Int)) := by
  refine Gives.of ?_
  have hrM : r ≤ M := by have := hr.1; omega
  have HR := Lib.hid hr
  clear hr
  go_enter Tryz.func144, Tryz.ntmps144
  go_wp2
  go_loopw [7, 8] (fun l h wr => ∃ a b : Nat, a ≤ r ∧ r ≤ b ∧ b ≤ M ∧ l = .int .i64 a ∧ h = .int .i64 b ∧ ∃ y : BW w.heap.size w, wr = y.w) (fun l h _ => (intOf h).toNat - (intOf l).toNat)
  case atStart => exact ⟨0, M, by omega, hrM, by omega, rfl, rfl, BW.mk (Below.refl _ _), rfl⟩
  case round =>
    obtain ⟨a, b, ha, hb, hbM, rfl, rfl, y, rfl⟩ := hrel
    by_cases hlt : a < b
    · obtain ⟨m, hm⟩ : ∃ m : Nat, ((a : Int) + (b : Int) + 1) / 2 = (m : Int) := ⟨(a + b + 1) / 2, by omega⟩
      have hm2 : m < 16 * u := by omega
      have hm3 : a < m := by omega
      have hm4 : m ≤ b := by omega
      have hv : ∀ w, Gives Tryz.prog 161 #[.int .i64 m, .int .i64 u] w (.int .i64 (valN u m : Int)) := fun w => rvalue_any hu hu2 hm2
      have hle := HR.out.le_iff hu hm2
      by_cases hx : m ≤ r
      · have hy : (valN u m : Int) ≤ n ∨ n < 0 := by have := hle.2 hx; omega
        have h0 : 0 ≤ n := by
          by_cases h : 0 ≤ n
          · exact h
          · have h1 := hle.2 hx
            have : 0 < valN u m := Nat.lt_of_le_of_lt (Nat.zero_le _) (valN_lt hu (show 0 < m by omega) hm2)
            omega
        have hy2 : (valN u m : Int) ≤ n := by omega
        clear hle hy
        generalize valN u m = v at *
        go_wp2_with ((with_reducible (first | apply Gives.call_bw (Nat.le_refl _) | apply Gives.call)); (focus (first | (with_reducible exact hv _))); intro x; (try dsimp only [drew_heap] at x))
        all_goals first | (exfalso; omega) | exact ⟨⟨m, b, hx, hb, hbM, rfl, rfl, _, rfl⟩, by simp [intOf]; omega⟩
      · have hy2 : n < (valN u m : Int) := by have := fun h => hx (hle.1 h); omega
        clear hle
        generalize valN u m = v at *
        go_wp2_with ((with_reducible (first | apply Gives.call_bw (Nat.le_refl _) | apply Gives.call)); (focus (first | (with_reducible exact hv _))); intro x; (try dsimp only [drew_heap] at x))
        all_goals first | (exfalso; omega) | exact ⟨⟨a, m - 1, ha, by omega, by omega, rfl, by rw [show ((m - 1 : Nat) : Int) = (m : Int) - 1 by omega], _, rfl⟩, by simp [intOf]; omega⟩
    · obtain rfl : a = r := by omega
      go_wp2
      all_goals first | (exfalso; omega) | (go_ret; exact ⟨rfl, by exact blw⟩)
theorem exact4_neg {n : Int} {w : World} (h : n < 0) : Gives Tryz.prog 204 #[.agg #[.int .u64 4, .int .i64 255], .int .i64 n] w (.bool false) := by
  refine Gives.of ?_
  have hd : decide (0 ≤ n) = false := by simp; omega
  go_enter Tryz.func204, Tryz.ntmps204
  go_wp2
  ((with_reducible first | refine wp_region_bx (Nat.le_refl _) (by kernel_rfl) (by kernel_rfl) ?_ | refine wp_region_bw (by kernel_rfl) (by kernel_rfl) ?_); (repeat (go_big_quiet_step (((with_reducible apply Gives.bw (Nat.le_refl _)); first | (with_reducible exact code4_any (by assumption)))))); refine wpQuiet_nil ?_; rintro _ ⟨x, rfl⟩)
  go_wp2
  go_ret
  exact ⟨rfl, by exact blw⟩
theorem exact4_pos {n : Int} {r : Nat} {w : World} (h : 0 ≤ n) (hr : IsCode 16 n.toNat r) : Gives Tryz.prog 204 #[.agg #[.int .u64 4, .int .i64 255], .int .i64 n] w (.bool ((valN 16 r : Int) == n)) := by
  refine Gives.of ?_
  have hr2 : r ≤ 255 := by have := hr.1; omega
  have hc : ∀ w, Gives Tryz.prog 201 #[.agg #[.int .u64 4, .int .i64 255], .int .i64 n] w (.int .i64 (r : Int)) := fun w => code4_any hr
  have hv : ∀ w, Gives Tryz.prog 206 #[.agg #[.int .u64 4, .int .i64 255], .int .i64 (r : Int)] w (.int .i64 (valN 16 r : Int)) := fun w => by
    have h := value4_any (c := (r : Int)) (w := w)
    rwa [clampN_in hr2] at h
  clear hr
  generalize valN 16 r = v at *
  go_enter Tryz.func204, Tryz.ntmps204
  go_wp2
  ((with_reducible first | refine wp_region_bx (Nat.le_refl _) (by kernel_rfl) (by kernel_rfl) ?_ | refine wp_region_bw (by kernel_rfl) (by kernel_rfl) ?_); (repeat (go_big_quiet_step (((with_reducible apply Gives.bw (Nat.le_refl _)); first | (with_reducible exact hc _) | (with_reducible exact hv _))))); refine wpQuiet_nil ?_; rintro _ ⟨x, rfl⟩)
  go_wp2
  go_ret
  exact ⟨rfl, by exact blw⟩
theorem Exact8_neg {n : Int} {w : World} (h : n < 0) : Gives Tryz.prog 181 #[.int .i64 n] w (.bool false) := by
  refine Gives.of ?_
  go_enter Tryz.func181, Tryz.ntmps181
  go_wp2_with ((with_reducible (first | apply Gives.call_bw (Nat.le_refl _) | apply Gives.call)); (focus (first | (with_reducible exact eight_any) | (with_reducible exact sixteen_any) | (with_reducible exact exact4_neg h))); intro x; (try dsimp only [drew_heap] at x))
  go_ret
  exact ⟨rfl, by exact blw⟩
theorem Exact8_pos {n : Int} {r : Nat} {w : World} (h : 0 ≤ n) (hr : IsCode 16 n.toNat r) : Gives Tryz.prog 181 #[.int .i64 n] w (.bool ((valN 16 r : Int) == n)) := by
  refine Gives.of ?_
  have hx : ∀ w, Gives Tryz.prog 204 #[.agg #[.int .u64 4, .int .i64 255], .int .i64 n] w (.bool ((valN 16 r : Int) == n)) := fun w => exact4_pos h hr
  clear hr
  generalize valN 16 r = v at *
  go_enter Tryz.func181, Tryz.ntmps181
  go_wp2_with ((with_reducible (first | apply Gives.call_bw (Nat.le_refl _) | apply Gives.call)); (focus (first | (with_reducible exact eight_any) | (with_reducible exact sixteen_any) | (with_reducible exact hx _))); intro x; (try dsimp only [drew_heap] at x))
  go_ret
  exact ⟨rfl, by exact blw⟩
theorem exact12_neg {n : Int} {w : World} (h : n < 0) : Gives Tryz.prog 204 #[.agg #[.int .u64 12, .int .i64 65535], .int .i64 n] w (.bool false) := by
  refine Gives.of ?_
  have hd : decide (0 ≤ n) = false := by simp; omega
  go_enter Tryz.func204, Tryz.ntmps204
  go_wp2
  ((with_reducible first | refine wp_region_bx (Nat.le_refl _) (by kernel_rfl) (by kernel_rfl) ?_ | refine wp_region_bw (by kernel_rfl) (by kernel_rfl) ?_); (repeat (go_big_quiet_step (((with_reducible apply Gives.bw (Nat.le_refl _)); first | (with_reducible exact code12_any (by assumption)))))); refine wpQuiet_nil ?_; rintro _ ⟨x, rfl⟩)
  go_wp2
  go_ret
  exact ⟨rfl, by exact blw⟩
theorem exact12_pos {n : Int} {r : Nat} {w : World} (h : 0 ≤ n) (hr : IsCode 4096 n.toNat r) : Gives Tryz.prog 204 #[.agg #[.int .u64 12, .int .i64 65535], .int .i64 n] w (.bool ((valN 4096 r : Int) == n)) := by
  refine Gives.of ?_
  have hr2 : r ≤ 65535 := by have := hr.1; omega
  have hc : ∀ w, Gives Tryz.prog 201 #[.agg #[.int .u64 12, .int .i64 65535], .int .i64 n] w (.int .i64 (r : Int)) := fun w => code12_any hr
  have hv : ∀ w, Gives Tryz.prog 206 #[.agg #[.int .u64 12, .int .i64 65535], .int .i64 (r : Int)] w (.int .i64 (valN 4096 r : Int)) := fun w => by
    have h := value12_any (c := (r : Int)) (w := w)
    rwa [clampN_in hr2] at h
  clear hr
  generalize valN 4096 r = v at *
  go_enter Tryz.func204, Tryz.ntmps204
  go_wp2
  ((with_reducible first | refine wp_region_bx (Nat.le_refl _) (by kernel_rfl) (by kernel_rfl) ?_ | refine wp_region_bw (by kernel_rfl) (by kernel_rfl) ?_); (repeat (go_big_quiet_step (((with_reducible apply Gives.bw (Nat.le_refl _)); first | (with_reducible exact hc _) | (with_reducible exact hv _))))); refine wpQuiet_nil ?_; rintro _ ⟨x, rfl⟩)
  go_wp2
  go_ret
  exact ⟨rfl, by exact blw⟩
theorem Exact16_neg {n : Int} {w : World} (h : n < 0) : Gives Tryz.prog 198 #[.int .i64 n] w (.bool false) := by
  refine Gives.of ?_
  go_enter Tryz.func198, Tryz.ntmps198
  go_wp2_with ((with_reducible (first | apply Gives.call_bw (Nat.le_refl _) | apply Gives.call)); (focus (first | (with_reducible exact eight_any) | (with_reducible exact sixteen_any) | (with_reducible exact exact12_neg h))); intro x; (try dsimp only [drew_heap] at x))
  go_ret
  exact ⟨rfl, by exact blw⟩
theorem Exact16_pos {n : Int} {r : Nat} {w : World} (h : 0 ≤ n) (hr : IsCode 4096 n.toNat r) : Gives Tryz.prog 198 #[.int .i64 n] w (.bool ((valN 4096 r : Int) == n)) := by
  refine Gives.of ?_
  have hx : ∀ w, Gives Tryz.prog 204 #[.agg #[.int .u64 12, .int .i64 65535], .int .i64 n] w (.bool ((valN 4096 r : Int) == n)) := fun w => exact12_pos h hr
  clear hr
  generalize valN 4096 r = v at *
  go_enter Tryz.func198, Tryz.ntmps198
  go_wp2_with ((with_reducible (first | apply Gives.call_bw (Nat.le_refl _) | apply Gives.call)); (focus (first | (with_reducible exact eight_any) | (with_reducible exact sixteen_any) | (with_reducible exact hx _))); intro x; (try dsimp only [drew_heap] at x))
  go_ret
  exact ⟨rfl, by exact blw⟩
theorem rValue8_any {c : Int} {w : World} : Gives Tryz.prog 117 #[.int .i64 c] w (.int .i64 (valN 16 (clampN 255 c) : Int)) := by
  refine Gives.of ?_
  have hw : ∀ w, Gives Tryz.prog 145 #[.int .i64 c, .int .i64 0, .int .i64 255] w (.int .i64 (clampN 255 c : Int)) := fun w => by
    have h := rwithin_any (n := c) (lo := 0) (hi := 255) (w := w)
    have e : within c 0 255 = (clampN 255 c : Int) := by
      unfold within clampN
      split
      · omega
      · split <;> omega
    rwa [e] at h
  have hl := clampN_le 255 c
  have hv : ∀ w, Gives Tryz.prog 161 #[.int .i64 (clampN 255 c : Int), .int .i64 16] w (.int .i64 (valN 16 (clampN 255 c) : Int)) := fun w => rvalue_any (u := 16) (by omega) (by omega) (by omega)
  generalize hv2 : valN 16 (clampN 255 c) = v at *
  clear hv2
  generalize clampN 255 c = k at *
  go_enter Tryz.func117, Tryz.ntmps117
  go_wp2_with ((with_reducible (first | apply Gives.call_bw (Nat.le_refl _) | apply Gives.call)); (focus (first | (with_reducible exact hw _) | (with_reducible exact hv _))); intro x; (try dsimp only [drew_heap] at x))
  go_ret
  exact ⟨rfl, by exact blw⟩
theorem rCode8_any {n : Int} {r : Nat} {w : World} (hr : IsCode 16 n.toNat r) (hn : -9223372036854775808 ≤ n ∧ n ≤ 9223372036854775807) : Gives Tryz.prog 94 #[.int .i64 n] w (.int .i64 (r : Int)) := by
  refine Gives.of ?_
  have h : ∀ w, Gives Tryz.prog 144 #[.int .i64 n, .int .i64 16, .int .i64 255] w (.int .i64 (r : Int)) := fun w => rcode_any (u := 16) (M := 255) (by omega) (by omega) (by omega) hr hn
  clear hr
  go_enter Tryz.func94, Tryz.ntmps94
  go_wp2_with ((with_reducible (first | apply Gives.call_bw (Nat.le_refl _) | apply Gives.call)); (focus (first | (with_reducible exact h _))); intro x; (try dsimp only [drew_heap] at x))
  go_ret
  exact ⟨rfl, by exact blw⟩
theorem rValue16_any {c : Int} {w : World} : Gives Tryz.prog 116 #[.int .i64 c] w (.int .i64 (valN 4096 (clampN 65535 c) : Int)) := by
  refine Gives.of ?_
  have hw : ∀ w, Gives Tryz.prog 145 #[.int .i64 c, .int .i64 0, .int .i64 65535] w (.int .i64 (clampN 65535 c : Int)) := fun w => by
    have h := rwithin_any (n := c) (lo := 0) (hi := 65535) (w := w)
    have e : within c 0 65535 = (clampN 65535 c : Int) := by
      unfold within clampN
      split
      · omega
      · split <;> omega
    rwa [e] at h
  have hl := clampN_le 65535 c
  have hv : ∀ w, Gives Tryz.prog 161 #[.int .i64 (clampN 65535 c : Int), .int .i64 4096] w (.int .i64 (valN 4096 (clampN 65535 c) : Int)) := fun w => rvalue_any (u := 4096) (by omega) (by omega) (by omega)
  generalize hv2 : valN 4096 (clampN 65535 c) = v at *
  clear hv2
  generalize clampN 65535 c = k at *
  go_enter Tryz.func116, Tryz.ntmps116
  go_wp2_with ((with_reducible (first | apply Gives.call_bw (Nat.le_refl _) | apply Gives.call)); (focus (first | (with_reducible exact hw _) | (with_reducible exact hv _))); intro x; (try dsimp only [drew_heap] at x))
  go_ret
  exact ⟨rfl, by exact blw⟩
theorem rCode16_any {n : Int} {r : Nat} {w : World} (hr : IsCode 4096 n.toNat r) (hn : -9223372036854775808 ≤ n ∧ n ≤ 9223372036854775807) : Gives Tryz.prog 93 #[.int .i64 n] w (.int .i64 (r : Int)) := by
  refine Gives.of ?_
  have h : ∀ w, Gives Tryz.prog 144 #[.int .i64 n, .int .i64 4096, .int .i64 65535] w (.int .i64 (r : Int)) := fun w => rcode_any (u := 4096) (M := 65535) (by omega) (by omega) (by omega) hr hn
  clear hr
  go_enter Tryz.func93, Tryz.ntmps93
  go_wp2_with ((with_reducible (first | apply Gives.call_bw (Nat.le_refl _) | apply Gives.call)); (focus (first | (with_reducible exact h _))); intro x; (try dsimp only [drew_heap] at x))
  go_ret
  exact ⟨rfl, by exact blw⟩
end Go.Proofs.YtdnehjhijmeihaaGreat

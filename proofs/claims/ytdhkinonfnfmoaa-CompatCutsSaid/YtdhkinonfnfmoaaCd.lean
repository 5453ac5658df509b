/-
  Times in few bits, for any seat (put together by tools/gen-cd.py).
-/
import Derived.Test.YtdhkinonfnfmoaaNum
import Derived.Test.YtdhkinonfnfmoaaMix
import Derived.Test.YtdhkinonfnfmoaaRows
import Derived.Test.YtdhkinonfnfmoaaOct
import Derived.Lib.Strings
import Derived.Lib.Slices
import Derived.Lib.Small
import Derived.Lib.Walk
import Derived.Lib.BitFns
import Derived.Lib.ItoaNum
namespace Go.Proofs.Ytdhkinonfnfmoaa
open Go.ChangeShapes Go.WideShapes Go.ChangeAt Go.RowKit
set_option linter.unusedVariables false
set_option linter.unusedSimpArgs false

/-- what code c counts, the mantissa having u numbers -/
def valN (u c : Nat) : Nat := if c < 8 * u then c else (c % u + u) * 2 ^ (c / u % 8 + 3)
/-- a number within 0 and m -/
def clampN (m : Nat) (c : Int) : Nat := (min (max c 0) m).toNat
theorem clampN_le (m : Nat) (c : Int) : clampN m c ≤ m := by unfold clampN; omega
theorem or_unit {W x : Nat} (h : x < 2 ^ W) : x ||| 2 ^ W = x + 2 ^ W := by
  have := Nat.two_pow_add_eq_or_of_lt h 1
  rw [Nat.mul_one] at this
  rw [Nat.or_comm, ← this, Nat.add_comm]
theorem val_bits {W c : Nat} (hW : W ≤ 12) (hc : c ≤ 65535) :
    wrap64 (bits .or .i64 (bits .and .i64 (c : Int) ((2 ^ W - 1 : Nat) : Int)) ((2 ^ W : Nat) : Int) * 2 ^ min (IntKind.u64.wrap (bits .and .u64 ((c : Int) / ((2 ^ W : Nat) : Int)) 7 + 3)).toNat 64) = (((c % 2 ^ W + 2 ^ W) * 2 ^ (c / 2 ^ W % 8 + 3) : Nat) : Int) := by
  have hp : 2 ^ W ≤ 4096 := Nat.pow_le_pow_right (n := 2) (by omega) hW
  have hp1 : 1 ≤ 2 ^ W := Nat.one_le_two_pow
  have e1 : bits .and .i64 (c : Int) ((2 ^ W - 1 : Nat) : Int) = ((c % 2 ^ W : Nat) : Int) := by rw [i64_and _ _ (by omega) (by omega), Nat.and_two_pow_sub_one_eq_mod]
  have hm : c % 2 ^ W < 2 ^ W := Nat.mod_lt _ (by omega)
  have e2 : bits .or .i64 ((c % 2 ^ W : Nat) : Int) ((2 ^ W : Nat) : Int) = ((c % 2 ^ W + 2 ^ W : Nat) : Int) := by rw [i64_or _ _ (by omega) (by omega), or_unit hm]
  have hd : c / 2 ^ W ≤ c := Nat.div_le_self _ _
  have e3 : bits .and .u64 ((c : Int) / ((2 ^ W : Nat) : Int)) 7 = ((c / 2 ^ W % 8 : Nat) : Int) := by
    rw [show ((c : Int) / ((2 ^ W : Nat) : Int)) = ((c / 2 ^ W : Nat) : Int) by norm_cast, show (7 : Int) = ((2 ^ 3 - 1 : Nat) : Int) from rfl, u64_and_nat _ _ (by omega) (by omega), Nat.and_two_pow_sub_one_eq_mod]
  have hk : c / 2 ^ W % 8 < 8 := Nat.mod_lt _ (by omega)
  rw [e1, e2, e3]
  generalize c / 2 ^ W % 8 = k at *
  rw [show ((k : Int) + 3) = ((k + 3 : Nat) : Int) by omega, u64_small (by omega), Int.toNat_natCast, show min (k + 3) 64 = k + 3 by omega]
  have hk2 : 2 ^ (k + 3) ≤ 2 ^ 10 := Nat.pow_le_pow_right (by omega) (by omega)
  have e4 : (((c % 2 ^ W + 2 ^ W : Nat) : Int) * 2 ^ (k + 3)) = (((c % 2 ^ W + 2 ^ W) * 2 ^ (k + 3) : Nat) : Int) := by norm_cast
  have hm2 : (c % 2 ^ W + 2 ^ W) * 2 ^ (k + 3) ≤ 8192 * 2 ^ 10 := Nat.mul_le_mul (by omega) hk2
  rw [e4, wrap64_lit (by omega) (by omega)]
theorem clampN_in {m c : Nat} (h : c ≤ m) : clampN m (c : Int) = c := by unfold clampN; omega
theorem div_mod_of {c u q m : Nat} (h : c = u * q + m) (hm : m < u) : c / u = q ∧ c % u = m := by
  subst h
  exact ⟨by rw [Nat.mul_add_div (by omega), Nat.div_eq_of_lt hm, Nat.add_zero], by rw [Nat.mul_add_mod, Nat.mod_eq_of_lt hm]⟩
theorem valN_step {u c : Nat} (hu : 0 < u) (hc : c + 1 < 16 * u) : valN u c < valN u (c + 1) := by
  have hcm := Nat.div_add_mod c u
  have hm := Nat.mod_lt c hu
  obtain ⟨q, hq⟩ : ∃ q, c / u = q := ⟨_, rfl⟩
  obtain ⟨m, hmm⟩ : ∃ m, c % u = m := ⟨_, rfl⟩
  rw [hq, hmm] at hcm
  rw [hmm] at hm
  by_cases h8 : c + 1 < 8 * u
  · unfold valN
    rw [if_pos (by omega), if_pos h8]
    omega
  by_cases h7 : c < 8 * u
  · have e : c + 1 = u * 8 + 0 := by omega
    obtain ⟨e1, e2⟩ := div_mod_of e hu
    unfold valN
    rw [if_pos h7, if_neg h8, e1, e2]
    show c < (0 + u) * 8
    omega
  have hq8 : 8 ≤ q := by rw [← hq]; exact (Nat.le_div_iff_mul_le hu).2 (by omega)
  have hq16 : q < 16 := by rw [← hq]; exact (Nat.div_lt_iff_lt_mul hu).2 (by omega)
  obtain ⟨k, rfl⟩ : ∃ k, q = 8 + k := ⟨q - 8, by omega⟩
  have hk : (8 + k) % 8 = k := by omega
  by_cases hl : m + 1 < u
  · have e : c + 1 = u * (8 + k) + (m + 1) := by omega
    obtain ⟨e1, e2⟩ := div_mod_of e hl
    unfold valN
    rw [if_neg h7, if_neg h8, hq, hmm, e1, e2, hk]
    exact Nat.mul_lt_mul_of_pos_right (by omega) (Nat.two_pow_pos _)
  · have e : c + 1 = u * (8 + k + 1) + 0 := by rw [Nat.mul_add u (8 + k) 1]; omega
    obtain ⟨e1, e2⟩ := div_mod_of e hu
    have hlt : 8 + k + 1 < 16 := by
      by_cases h : 8 + k + 1 < 16
      · exact h
      · have : k = 7 := by omega
        subst this
        omega
    have hk2 : (8 + k + 1) % 8 = k + 1 := by omega
    unfold valN
    rw [if_neg h7, if_neg h8, hq, hmm, e1, e2, hk, hk2, show k + 1 + 3 = (k + 3) + 1 by omega, show 2 ^ ((k + 3) + 1) = 2 * 2 ^ (k + 3) by rw [Nat.pow_succ, Nat.mul_comm], Nat.zero_add]
    have hp := Nat.two_pow_pos (k + 3)
    generalize 2 ^ (k + 3) = t at *
    rw [← Nat.mul_assoc]
    exact Nat.mul_lt_mul_of_pos_right (by omega) hp
theorem valN_lt {u : Nat} (hu : 0 < u) : ∀ {a b : Nat}, a < b → b < 16 * u → valN u a < valN u b := by
  intro a b hab
  induction b with
  | zero => omega
  | succ b ih =>
    intro hb
    have h1 := valN_step hu hb
    by_cases h : a = b
    · subst h; exact h1
    · exact Nat.lt_trans (ih (by omega) (by omega)) h1
theorem valN_lt_iff {u a b : Nat} (hu : 0 < u) (ha : a < 16 * u) (hb : b < 16 * u) : valN u a < valN u b ↔ a < b := by
  constructor
  · intro h
    by_cases h1 : a < b
    · exact h1
    by_cases h2 : a = b
    · subst h2; omega
    · have := valN_lt hu (show b < a by omega) ha
      omega
  · exact fun h => valN_lt hu h hb
/-- r is the greatest code, up to 16 u - 1, that counts no more than n -/
def IsCode (u n r : Nat) : Prop := r < 16 * u ∧ valN u r ≤ n ∧ (r + 1 < 16 * u → n < valN u (r + 1))
theorem IsCode.unique {u n r s : Nat} (hu : 0 < u) (h : IsCode u n r) (k : IsCode u n s) : r = s := by
  obtain ⟨h1, h2, h3⟩ := h
  obtain ⟨k1, k2, k3⟩ := k
  by_cases a : r < s
  · have e := h3 (by omega)
    by_cases b : r + 1 = s
    · subst b; omega
    · have := valN_lt hu (show r + 1 < s by omega) k1
      omega
  · by_cases b : s < r
    · have e := k3 (by omega)
      by_cases c : s + 1 = r
      · subst c; omega
      · have := valN_lt hu (show s + 1 < r by omega) h1
        omega
    · omega
theorem IsCode.le_iff {u n r m : Nat} (hu : 0 < u) (h : IsCode u n r) (hm : m < 16 * u) : valN u m ≤ n ↔ m ≤ r := by
  obtain ⟨h1, h2, h3⟩ := h
  constructor
  · intro hv
    by_cases a : m ≤ r
    · exact a
    · have e := h3 (by omega)
      by_cases b : r + 1 = m
      · subst b; omega
      · have := valN_lt hu (show r + 1 < m by omega) hm
        omega
  · intro a
    by_cases b : m = r
    · subst b; exact h2
    · have := valN_lt hu (show m < r by omega) h1
      omega
theorem IsCode.self {u c : Nat} (hu : 0 < u) (hc : c < 16 * u) : IsCode u (valN u c) c := ⟨hc, Nat.le_refl _, fun h => valN_step hu h⟩
/-- every number has one -/
theorem exists_code (u : Nat) (hu : 0 < u) (n : Nat) : ∃ r, IsCode u n r := by
  have : ∀ k, k ≤ 16 * u - 1 → ∃ r, r ≤ k ∧ valN u r ≤ n ∧ (r + 1 ≤ k → n < valN u (r + 1)) := by
    intro k
    induction k with
    | zero => intro _; exact ⟨0, by omega, by unfold valN; rw [if_pos (by omega)]; omega, fun h => by omega⟩
    | succ k ih =>
      intro hk
      obtain ⟨r, h1, h2, h3⟩ := ih (by omega)
      by_cases h : valN u (k + 1) ≤ n
      · exact ⟨k + 1, by omega, h, fun h => by omega⟩
      · refine ⟨r, by omega, h2, fun h4 => ?_⟩
        by_cases h5 : r + 1 ≤ k
        · exact h3 h5
        · obtain rfl : r = k := by omega
          omega
  obtain ⟨r, h1, h2, h3⟩ := this (16 * u - 1) (Nat.le_refl _)
  exact ⟨r, by omega, h2, fun h => h3 (by omega)⟩
/-- the code with exponent e and mantissa below u -/
theorem isCode_of {u n e q : Nat} (hu : 0 < u) (he : e < 8) (hq : n / 2 ^ (e + 3) = u + q) (hqu : q < u) : IsCode u n (u * (8 + e) + q) := by
  have hp := Nat.two_pow_pos (e + 3)
  have h1 := Nat.div_mul_le_self n (2 ^ (e + 3))
  have h2 := Nat.lt_div_mul_add hp (a := n)
  rw [hq] at h1 h2
  obtain ⟨e1, e2⟩ := div_mod_of (c := u * (8 + e) + q) rfl hqu
  have hlt : u * (8 + e) + q < 16 * u := by
    have : u * (8 + e) ≤ u * 15 := Nat.mul_le_mul_left u (by omega)
    omega
  have hge : ¬ u * (8 + e) + q < 8 * u := by
    have : u * 8 ≤ u * (8 + e) := Nat.mul_le_mul_left u (by omega)
    omega
  have hv : valN u (u * (8 + e) + q) = (q + u) * 2 ^ (e + 3) := by
    unfold valN
    rw [if_neg hge, e1, e2, show (8 + e) % 8 = e by omega]
  refine ⟨hlt, by rw [hv, Nat.add_comm q u]; exact h1, fun hs => ?_⟩
  have hn : n < (u + q + 1) * 2 ^ (e + 3) := by rw [Nat.add_mul (u + q) 1, Nat.one_mul]; exact h2
  have hle : (u + q + 1) * 2 ^ (e + 3) ≤ valN u (u * (8 + e) + q + 1) := by
    by_cases hl : q + 1 < u
    · obtain ⟨f1, f2⟩ := div_mod_of (c := u * (8 + e) + q + 1) (m := q + 1) rfl hl
      unfold valN
      rw [if_neg (by omega), f1, f2, show (8 + e) % 8 = e by omega, Nat.add_comm (q + 1) u]
      exact Nat.le_refl _
    · have hq1 : q + 1 = u := by omega
      have ee : u * (8 + e) + q + 1 = u * (8 + e + 1) + 0 := by rw [Nat.mul_add u (8 + e) 1]; omega
      obtain ⟨f1, f2⟩ := div_mod_of ee hu
      have he7 : e + 1 < 8 := by
        by_cases h : e + 1 < 8
        · exact h
        · have : e = 7 := by omega
          subst this
          omega
      unfold valN
      rw [if_neg (by omega), f1, f2, show (8 + e + 1) % 8 = e + 1 by omega, Nat.zero_add, show e + 1 + 3 = (e + 3) + 1 by omega, show 2 ^ ((e + 3) + 1) = 2 * 2 ^ (e + 3) by rw [Nat.pow_succ, Nat.mul_comm]]
      generalize 2 ^ (e + 3) = t at *
      rw [← Nat.mul_assoc]
      exact Nat.mul_le_mul_right t (by omega)
  omega
theorem bitLen_bounds {n : Nat} (h : n < 18446744073709551616) (h0 : n ≠ 0) : 1 ≤ Lib.bitLen n ∧ 2 ^ (Lib.bitLen n - 1) ≤ n ∧ n < 2 ^ Lib.bitLen n := Lib.bitLenAux_bounds 64 n h h0
theorem code_bits {W n e q : Nat} (hW : W ≤ 12) (hn : n < 9223372036854775808) (he : e < 8) (hq : n / 2 ^ (e + 3) = 2 ^ W + q) (hqu : q < 2 ^ W) :
    bits .or .i64 (bits .or .i64 ((2 ^ (W + 3) : Nat) : Int) ((e * 2 ^ W : Nat) : Int)) (bits .and .i64 ((n : Int) / 2 ^ (e + 3)) ((2 ^ W - 1 : Nat) : Int)) = ((2 ^ W * (8 + e) + q : Nat) : Int) := by
  have hp : 2 ^ W ≤ 4096 := Nat.pow_le_pow_right (n := 2) (by omega) hW
  have e8 : 2 ^ (W + 3) = 2 ^ W * 8 := Nat.pow_add 2 W 3
  have hle : e * 2 ^ W < 2 ^ (W + 3) := by rw [e8, Nat.mul_comm]; exact Nat.mul_lt_mul_of_pos_left he (Nat.two_pow_pos W)
  have h1 : 2 ^ (W + 3) ||| e * 2 ^ W = 2 ^ W * (8 + e) := by
    have := Nat.two_pow_add_eq_or_of_lt hle 1
    rw [Nat.mul_one] at this
    rw [← this, e8, Nat.mul_add, Nat.mul_comm e]
  have h2 : 2 ^ W * (8 + e) ||| q = 2 ^ W * (8 + e) + q := (Nat.two_pow_add_eq_or_of_lt hqu (8 + e)).symm
  have hb : 2 ^ W * (8 + e) ≤ 4096 * 15 := Nat.mul_le_mul hp (by omega)
  rw [cast_div_pow, i64_or _ _ (by omega) (by omega), h1, i64_and _ _ (by rw [hq]; omega) (by omega), Nat.and_two_pow_sub_one_eq_mod, hq]
  rw [show (2 ^ W + q) % 2 ^ W = q by rw [Nat.add_mod_left, Nat.mod_eq_of_lt hqu], i64_or _ _ (by omega) (by omega), h2]
/-- the number's length, and what it says -/
theorem len_split {W n : Nat} (h1 : 8 * 2 ^ W ≤ n) (h2 : n < 2 ^ W * 2048) (hW : W ≤ 12) : ∃ e q, e < 8 ∧ Lib.bitLen n = e + (W + 4) ∧ n / 2 ^ (e + 3) = 2 ^ W + q ∧ q < 2 ^ W := by
  have hp : 2 ^ W ≤ 4096 := Nat.pow_le_pow_right (n := 2) (by omega) hW
  have hp1 : 0 < 2 ^ W := Nat.two_pow_pos W
  obtain ⟨l1, l2, l3⟩ := bitLen_bounds (n := n) (by omega) (by omega)
  generalize Lib.bitLen n = L at *
  have a1 : W + 3 < L := by
    have : 2 ^ (W + 3) < 2 ^ L := by rw [Nat.pow_add]; omega
    exact (Nat.pow_lt_pow_iff_right (by omega)).1 this
  have a2 : L - 1 < W + 11 := by
    have : 2 ^ (L - 1) < 2 ^ (W + 11) := by rw [Nat.pow_add]; omega
    exact (Nat.pow_lt_pow_iff_right (by omega)).1 this
  obtain ⟨e, rfl⟩ : ∃ e, L = e + (W + 4) := ⟨L - (W + 4), by omega⟩
  have he : e < 8 := by omega
  have hp2 := Nat.two_pow_pos (e + 3)
  have e1 : 2 ^ (e + (W + 4) - 1) = 2 ^ W * 2 ^ (e + 3) := by rw [← Nat.pow_add]; congr 1; omega
  have e2 : 2 ^ (e + (W + 4)) = (2 ^ W + 2 ^ W) * 2 ^ (e + 3) := by
    rw [show e + (W + 4) = (W + 1) + (e + 3) by omega, Nat.pow_add, Nat.pow_succ, Nat.mul_two]
  rw [e1] at l2
  rw [e2] at l3
  have b1 : 2 ^ W ≤ n / 2 ^ (e + 3) := (Nat.le_div_iff_mul_le hp2).2 l2
  have b2 : n / 2 ^ (e + 3) < 2 ^ W + 2 ^ W := (Nat.div_lt_iff_lt_mul hp2).2 l3
  exact ⟨e, n / 2 ^ (e + 3) - 2 ^ W, he, rfl, by omega, by omega⟩
theorem rvalue_any {c u : Nat} {w : World} (hu : 0 < u) (hu2 : u ≤ 4096) (hc : c < 16 * u) : Gives Try.prog 40 #[.int .i64 c, .int .i64 u] w (.int .i64 (valN u c : Int)) := by
  refine Gives.of ?_
  by_cases h : c < 8 * u
  · have HV := Lib.hid (show valN u c = c by unfold valN; rw [if_pos h])
    go_enter Try.func40, Try.ntmps40
    go_wp2
    all_goals first | (exfalso; omega) | (go_ret; exact ⟨by rw [HV.out]; rfl, by (first | ((repeat (with_reducible first | assumption | exact Below.refl _ _ | (refine below_bw _ ?_ ?_; rotate_left; focus (((repeat (with_reducible first | assumption | exact Nat.le_refl _ | refine BW.le_of ?_ | refine le_alloc ?_ | refine le_drew ?_ | refine le_drewN ?_ | refine le_set ?_ | refine le_plus ?_ | omega | refine le_setA ?_)); done))) | (refine Below.alloc ?_ ?_ _; rotate_left; focus (((repeat (with_reducible first | assumption | exact Nat.le_refl _ | refine BW.le_of ?_ | refine le_alloc ?_ | refine le_drew ?_ | refine le_drewN ?_ | refine le_set ?_ | refine le_plus ?_ | omega | refine le_setA ?_)); done))) | (refine Below.setCell ?_ ?_ _; rotate_left; focus (((repeat (with_reducible first | assumption | exact Nat.le_refl _ | refine BW.le_of ?_ | refine le_alloc ?_ | refine le_drew ?_ | refine le_drewN ?_ | refine le_set ?_ | refine le_plus ?_ | omega | refine le_setA ?_)); done))) | refine Below.drew ?_ | refine below_drewN ?_ _ | (refine below_setCells ?_ ?_ _ _; rotate_left; focus (((repeat (with_reducible first | assumption | exact Nat.le_refl _ | refine BW.le_of ?_ | refine le_alloc ?_ | refine le_drew ?_ | refine le_drewN ?_ | refine le_set ?_ | refine le_plus ?_ | omega | refine le_setA ?_)); done))))); done) | (simp; done) | (repeat (first | assumption | exact Below.refl _ _ | (refine below_bw _ ?_ ?_; rotate_left; focus ((first | omega | (repeat (first | with_reducible assumption | with_reducible exact Nat.le_refl _ | refine BW.le_of ?_ | refine le_alloc ?_ | refine le_drew ?_ | refine le_drewN ?_ | refine le_set ?_ | refine le_plus ?_ | assumption | exact Nat.le_refl _))))) | (refine Below.alloc ?_ ?_ _; rotate_left; focus ((first | omega | (repeat (first | with_reducible assumption | with_reducible exact Nat.le_refl _ | refine BW.le_of ?_ | refine le_alloc ?_ | refine le_drew ?_ | refine le_drewN ?_ | refine le_set ?_ | refine le_plus ?_ | assumption | exact Nat.le_refl _))))) | (refine Below.setCell ?_ ?_ _; rotate_left; focus ((first | omega | (repeat (first | with_reducible assumption | with_reducible exact Nat.le_refl _ | refine BW.le_of ?_ | refine le_alloc ?_ | refine le_drew ?_ | refine le_drewN ?_ | refine le_set ?_ | refine le_plus ?_ | assumption | exact Nat.le_refl _))))) | refine Below.drew ?_ | refine below_drewN ?_ _ | (refine below_setCells ?_ ?_ _ _; rotate_left; focus ((first | omega | (repeat (first | with_reducible assumption | with_reducible exact Nat.le_refl _ | refine BW.le_of ?_ | refine le_alloc ?_ | refine le_drew ?_ | refine le_drewN ?_ | refine le_set ?_ | refine le_plus ?_ | assumption | exact Nat.le_refl _))))))))⟩)
  · have HV := Lib.hid (show valN u c = (c % u + u) * 2 ^ (c / u % 8 + 3) by unfold valN; rw [if_neg h])
    have hm := Nat.mod_lt c hu
    obtain ⟨m, hmm⟩ : ∃ m : Nat, (c : Int) % (u : Int) = (m : Int) ∧ c % u = m := ⟨c % u, by norm_cast, rfl⟩
    obtain ⟨Q, hQ⟩ : ∃ Q : Nat, (c : Int) / (u : Int) = (Q : Int) ∧ c / u = Q := ⟨c / u, by norm_cast, rfl⟩
    have hQ16 : Q < 16 := by rw [← hQ.2]; exact (Nat.div_lt_iff_lt_mul hu).2 hc
    rw [hmm.2, hQ.2] at HV
    obtain ⟨K, hK⟩ : ∃ K, Q % 8 = K := ⟨_, rfl⟩
    rw [hK] at HV
    have HK := Lib.hid hK
    have hQ1 := hQ.1
    have hK8 : K < 8 := by omega
    have hm2 : m < u := by have := hmm.2; omega
    have hmm1 := hmm.1
    clear hmm hQ hK hm
    go_enter Try.func40, Try.ntmps40
    go_wp2
    go_loopw [5, 6] (fun n k wr => ∃ j : Nat, j ≤ K + 3 ∧ k = .int .i64 j ∧ n = .int .i64 (((m + u) * 2 ^ (K + 3 - j) : Nat) : Int) ∧ ∃ y : BW w.heap.size w, wr = y.w) (fun _ k _ => (intOf k).toNat)
    case atStart => exact ⟨K + 3, by omega, by rw [← HK.out]; congr 1, by rw [Nat.sub_self]; simp, BW.mk (Below.refl _ _), rfl⟩
    case round =>
      obtain ⟨j, hj, rfl, rfl, y, rfl⟩ := hrel
      have hle : (m + u) * 2 ^ (K + 3 - j) ≤ 8192 * 2 ^ 10 := Nat.mul_le_mul (by omega) (Nat.pow_le_pow_right (by omega) (by omega))
      by_cases h0 : 0 < j
      · have hn := Lib.hid (show (m + u) * 2 ^ (K + 3 - (j - 1)) = 2 * ((m + u) * 2 ^ (K + 3 - j)) by
          rw [show K + 3 - (j - 1) = (K + 3 - j) + 1 by omega, Nat.pow_succ, Nat.mul_comm _ 2, ← Nat.mul_assoc, Nat.mul_comm _ 2, Nat.mul_assoc])
        generalize (m + u) * 2 ^ (K + 3 - j) = t at *
        go_wp2
        all_goals first | (exfalso; omega) | exact ⟨⟨j - 1, by omega, by rw [show ((j - 1 : Nat) : Int) = (j : Int) - 1 by omega], by rw [hn.out]; rfl, _, rfl⟩, by simp [intOf]; omega⟩
      · obtain rfl : j = 0 := by omega
        rw [Nat.sub_zero] at *
        generalize (m + u) * 2 ^ (K + 3) = t at *
        go_wp2
        all_goals first | (exfalso; omega) | (go_ret; exact ⟨by rw [HV.out]; rfl, by (first | ((repeat (with_reducible first | assumption | exact Below.refl _ _ | (refine below_bw _ ?_ ?_; rotate_left; focus (((repeat (with_reducible first | assumption | exact Nat.le_refl _ | refine BW.le_of ?_ | refine le_alloc ?_ | refine le_drew ?_ | refine le_drewN ?_ | refine le_set ?_ | refine le_plus ?_ | omega | refine le_setA ?_)); done))) | (refine Below.alloc ?_ ?_ _; rotate_left; focus (((repeat (with_reducible first | assumption | exact Nat.le_refl _ | refine BW.le_of ?_ | refine le_alloc ?_ | refine le_drew ?_ | refine le_drewN ?_ | refine le_set ?_ | refine le_plus ?_ | omega | refine le_setA ?_)); done))) | (refine Below.setCell ?_ ?_ _; rotate_left; focus (((repeat (with_reducible first | assumption | exact Nat.le_refl _ | refine BW.le_of ?_ | refine le_alloc ?_ | refine le_drew ?_ | refine le_drewN ?_ | refine le_set ?_ | refine le_plus ?_ | omega | refine le_setA ?_)); done))) | refine Below.drew ?_ | refine below_drewN ?_ _ | (refine below_setCells ?_ ?_ _ _; rotate_left; focus (((repeat (with_reducible first | assumption | exact Nat.le_refl _ | refine BW.le_of ?_ | refine le_alloc ?_ | refine le_drew ?_ | refine le_drewN ?_ | refine le_set ?_ | refine le_plus ?_ | omega | refine le_setA ?_)); done))))); done) | (simp; done) | (repeat (first | assumption | exact Below.refl _ _ | (refine below_bw _ ?_ ?_; rotate_left; focus ((first | omega | (repeat (first | with_reducible assumption | with_reducible exact Nat.le_refl _ | refine BW.le_of ?_ | refine le_alloc ?_ | refine le_drew ?_ | refine le_drewN ?_ | refine le_set ?_ | refine le_plus ?_ | assumption | exact Nat.le_refl _))))) | (refine Below.alloc ?_ ?_ _; rotate_left; focus ((first | omega | (repeat (first | with_reducible assumption | with_reducible exact Nat.le_refl _ | refine BW.le_of ?_ | refine le_alloc ?_ | refine le_drew ?_ | refine le_drewN ?_ | refine le_set ?_ | refine le_plus ?_ | assumption | exact Nat.le_refl _))))) | (refine Below.setCell ?_ ?_ _; rotate_left; focus ((first | omega | (repeat (first | with_reducible assumption | with_reducible exact Nat.le_refl _ | refine BW.le_of ?_ | refine le_alloc ?_ | refine le_drew ?_ | refine le_drewN ?_ | refine le_set ?_ | refine le_plus ?_ | assumption | exact Nat.le_refl _))))) | refine Below.drew ?_ | refine below_drewN ?_ _ | (refine below_setCells ?_ ?_ _ _; rotate_left; focus ((first | omega | (repeat (first | with_reducible assumption | with_reducible exact Nat.le_refl _ | refine BW.le_of ?_ | refine le_alloc ?_ | refine le_drew ?_ | refine le_drewN ?_ | refine le_set ?_ | refine le_plus ?_ | assumption | exact Nat.le_refl _))))))))⟩)
theorem rcode_any {n : Int} {u M r : Nat} {w : World} (hu : 0 < u) (hu2 : u ≤ 4096) (hM : M + 1 = 16 * u) (hr : IsCode u n.toNat r) (hn : -9223372036854775808 ≤ n ∧ n ≤ 9223372036854775807) : Gives Try.prog 42 #[.int .i64 n, .int .i64 u, .int .i64 M] w (.int .i64 (r : Int)) := by
  refine Gives.of ?_
  have hrM : r ≤ M := by have := hr.1; omega
  have HR := Lib.hid hr
  clear hr
  go_enter Try.func42, Try.ntmps42
  go_wp2
  go_loopw [7, 8] (fun l h wr => ∃ a b : Nat, a ≤ r ∧ r ≤ b ∧ b ≤ M ∧ l = .int .i64 a ∧ h = .int .i64 b ∧ ∃ y : BW w.heap.size w, wr = y.w) (fun l h _ => (intOf h).toNat - (intOf l).toNat)
  case atStart => exact ⟨0, M, by omega, hrM, by omega, rfl, rfl, BW.mk (Below.refl _ _), rfl⟩
  case round =>
    obtain ⟨a, b, ha, hb, hbM, rfl, rfl, y, rfl⟩ := hrel
    by_cases hlt : a < b
    · obtain ⟨m, hm⟩ : ∃ m : Nat, ((a : Int) + (b : Int) + 1) / 2 = (m : Int) := ⟨(a + b + 1) / 2, by omega⟩
      have hm2 : m < 16 * u := by omega
      have hm3 : a < m := by omega
      have hm4 : m ≤ b := by omega
      have hv : ∀ w, Gives Try.prog 40 #[.int .i64 m, .int .i64 u] w (.int .i64 (valN u m : Int)) := fun w => rvalue_any hu hu2 hm2
      have hle := HR.out.le_iff hu hm2
      by_cases hx : m ≤ r
      · have hy : (valN u m : Int) ≤ n ∨ n < 0 := by have := hle.2 hx; omega
        have h0 : 0 ≤ n := by
          by_cases h : 0 ≤ n
          · exact h
          · have h1 := hle.2 hx
            have : 0 < valN u m := Nat.lt_of_le_of_lt (Nat.zero_le _) (valN_lt hu (show 0 < m by omega) hm2)
            omega
        have hy2 : (valN u m : Int) ≤ n := by omega
        clear hle hy
        generalize valN u m = v at *
        go_wp2_with ((with_reducible (first | apply Gives.call_bw (Nat.le_refl _) | apply Gives.call)); (focus (first | (with_reducible exact hv _))); intro x; (try dsimp only [drew_heap] at x))
        all_goals first | (exfalso; omega) | exact ⟨⟨m, b, hx, hb, hbM, rfl, rfl, _, rfl⟩, by simp [intOf]; omega⟩
      · have hy2 : n < (valN u m : Int) := by have := fun h => hx (hle.1 h); omega
        clear hle
        generalize valN u m = v at *
        go_wp2_with ((with_reducible (first | apply Gives.call_bw (Nat.le_refl _) | apply Gives.call)); (focus (first | (with_reducible exact hv _))); intro x; (try dsimp only [drew_heap] at x))
        all_goals first | (exfalso; omega) | exact ⟨⟨a, m - 1, ha, by omega, by omega, rfl, by rw [show ((m - 1 : Nat) : Int) = (m : Int) - 1 by omega], _, rfl⟩, by simp [intOf]; omega⟩
    · obtain rfl : a = r := by omega
      go_wp2
      all_goals first | (exfalso; omega) | (go_ret; exact ⟨rfl, by (first | ((repeat (with_reducible first | assumption | exact Below.refl _ _ | (refine below_bw _ ?_ ?_; rotate_left; focus (((repeat (with_reducible first | assumption | exact Nat.le_refl _ | refine BW.le_of ?_ | refine le_alloc ?_ | refine le_drew ?_ | refine le_drewN ?_ | refine le_set ?_ | refine le_plus ?_ | omega | refine le_setA ?_)); done))) | (refine Below.alloc ?_ ?_ _; rotate_left; focus (((repeat (with_reducible first | assumption | exact Nat.le_refl _ | refine BW.le_of ?_ | refine le_alloc ?_ | refine le_drew ?_ | refine le_drewN ?_ | refine le_set ?_ | refine le_plus ?_ | omega | refine le_setA ?_)); done))) | (refine Below.setCell ?_ ?_ _; rotate_left; focus (((repeat (with_reducible first | assumption | exact Nat.le_refl _ | refine BW.le_of ?_ | refine le_alloc ?_ | refine le_drew ?_ | refine le_drewN ?_ | refine le_set ?_ | refine le_plus ?_ | omega | refine le_setA ?_)); done))) | refine Below.drew ?_ | refine below_drewN ?_ _ | (refine below_setCells ?_ ?_ _ _; rotate_left; focus (((repeat (with_reducible first | assumption | exact Nat.le_refl _ | refine BW.le_of ?_ | refine le_alloc ?_ | refine le_drew ?_ | refine le_drewN ?_ | refine le_set ?_ | refine le_plus ?_ | omega | refine le_setA ?_)); done))))); done) | (simp; done) | (repeat (first | assumption | exact Below.refl _ _ | (refine below_bw _ ?_ ?_; rotate_left; focus ((first | omega | (repeat (first | with_reducible assumption | with_reducible exact Nat.le_refl _ | refine BW.le_of ?_ | refine le_alloc ?_ | refine le_drew ?_ | refine le_drewN ?_ | refine le_set ?_ | refine le_plus ?_ | assumption | exact Nat.le_refl _))))) | (refine Below.alloc ?_ ?_ _; rotate_left; focus ((first | omega | (repeat (first | with_reducible assumption | with_reducible exact Nat.le_refl _ | refine BW.le_of ?_ | refine le_alloc ?_ | refine le_drew ?_ | refine le_drewN ?_ | refine le_set ?_ | refine le_plus ?_ | assumption | exact Nat.le_refl _))))) | (refine Below.setCell ?_ ?_ _; rotate_left; focus ((first | omega | (repeat (first | with_reducible assumption | with_reducible exact Nat.le_refl _ | refine BW.le_of ?_ | refine le_alloc ?_ | refine le_drew ?_ | refine le_drewN ?_ | refine le_set ?_ | refine le_plus ?_ | assumption | exact Nat.le_refl _))))) | refine Below.drew ?_ | refine below_drewN ?_ _ | (refine below_setCells ?_ ?_ _ _; rotate_left; focus ((first | omega | (repeat (first | with_reducible assumption | with_reducible exact Nat.le_refl _ | refine BW.le_of ?_ | refine le_alloc ?_ | refine le_drew ?_ | refine le_drewN ?_ | refine le_set ?_ | refine le_plus ?_ | assumption | exact Nat.le_refl _))))))))⟩)
theorem rValue8_any {c : Int} {w : World} : Gives Try.prog 33 #[.int .i64 c] w (.int .i64 (valN 16 (clampN 255 c) : Int)) := by
  refine Gives.of ?_
  have hw : ∀ w, Gives Try.prog 41 #[.int .i64 c, .int .i64 0, .int .i64 255] w (.int .i64 (clampN 255 c : Int)) := fun w => by
    have h := rwithin_any (n := c) (lo := 0) (hi := 255) (w := w)
    have e : within c 0 255 = (clampN 255 c : Int) := by
      unfold within clampN
      split
      · omega
      · split <;> omega
    rwa [e] at h
  have hl := clampN_le 255 c
  have hv : ∀ w, Gives Try.prog 40 #[.int .i64 (clampN 255 c : Int), .int .i64 16] w (.int .i64 (valN 16 (clampN 255 c) : Int)) := fun w => rvalue_any (u := 16) (by omega) (by omega) (by omega)
  generalize hv2 : valN 16 (clampN 255 c) = v at *
  clear hv2
  generalize clampN 255 c = k at *
  go_enter Try.func33, Try.ntmps33
  go_wp2_with ((with_reducible (first | apply Gives.call_bw (Nat.le_refl _) | apply Gives.call)); (focus (first | (with_reducible exact hw _) | (with_reducible exact hv _))); intro x; (try dsimp only [drew_heap] at x))
  go_ret
  exact ⟨rfl, by (first | ((repeat (with_reducible first | assumption | exact Below.refl _ _ | (refine below_bw _ ?_ ?_; rotate_left; focus (((repeat (with_reducible first | assumption | exact Nat.le_refl _ | refine BW.le_of ?_ | refine le_alloc ?_ | refine le_drew ?_ | refine le_drewN ?_ | refine le_set ?_ | refine le_plus ?_ | omega | refine le_setA ?_)); done))) | (refine Below.alloc ?_ ?_ _; rotate_left; focus (((repeat (with_reducible first | assumption | exact Nat.le_refl _ | refine BW.le_of ?_ | refine le_alloc ?_ | refine le_drew ?_ | refine le_drewN ?_ | refine le_set ?_ | refine le_plus ?_ | omega | refine le_setA ?_)); done))) | (refine Below.setCell ?_ ?_ _; rotate_left; focus (((repeat (with_reducible first | assumption | exact Nat.le_refl _ | refine BW.le_of ?_ | refine le_alloc ?_ | refine le_drew ?_ | refine le_drewN ?_ | refine le_set ?_ | refine le_plus ?_ | omega | refine le_setA ?_)); done))) | refine Below.drew ?_ | refine below_drewN ?_ _ | (refine below_setCells ?_ ?_ _ _; rotate_left; focus (((repeat (with_reducible first | assumption | exact Nat.le_refl _ | refine BW.le_of ?_ | refine le_alloc ?_ | refine le_drew ?_ | refine le_drewN ?_ | refine le_set ?_ | refine le_plus ?_ | omega | refine le_setA ?_)); done))))); done) | (simp; done) | (repeat (first | assumption | exact Below.refl _ _ | (refine below_bw _ ?_ ?_; rotate_left; focus ((first | omega | (repeat (first | with_reducible assumption | with_reducible exact Nat.le_refl _ | refine BW.le_of ?_ | refine le_alloc ?_ | refine le_drew ?_ | refine le_drewN ?_ | refine le_set ?_ | refine le_plus ?_ | assumption | exact Nat.le_refl _))))) | (refine Below.alloc ?_ ?_ _; rotate_left; focus ((first | omega | (repeat (first | with_reducible assumption | with_reducible exact Nat.le_refl _ | refine BW.le_of ?_ | refine le_alloc ?_ | refine le_drew ?_ | refine le_drewN ?_ | refine le_set ?_ | refine le_plus ?_ | assumption | exact Nat.le_refl _))))) | (refine Below.setCell ?_ ?_ _; rotate_left; focus ((first | omega | (repeat (first | with_reducible assumption | with_reducible exact Nat.le_refl _ | refine BW.le_of ?_ | refine le_alloc ?_ | refine le_drew ?_ | refine le_drewN ?_ | refine le_set ?_ | refine le_plus ?_ | assumption | exact Nat.le_refl _))))) | refine Below.drew ?_ | refine below_drewN ?_ _ | (refine below_setCells ?_ ?_ _ _; rotate_left; focus ((first | omega | (repeat (first | with_reducible assumption | with_reducible exact Nat.le_refl _ | refine BW.le_of ?_ | refine le_alloc ?_ | refine le_drew ?_ | refine le_drewN ?_ | refine le_set ?_ | refine le_plus ?_ | assumption | exact Nat.le_refl _))))))))⟩
theorem rCode8_any {n : Int} {r : Nat} {w : World} (hr : IsCode 16 n.toNat r) (hn : -9223372036854775808 ≤ n ∧ n ≤ 9223372036854775807) : Gives Try.prog 34 #[.int .i64 n] w (.int .i64 (r : Int)) := by
  refine Gives.of ?_
  have h : ∀ w, Gives Try.prog 42 #[.int .i64 n, .int .i64 16, .int .i64 255] w (.int .i64 (r : Int)) := fun w => rcode_any (u := 16) (M := 255) (by omega) (by omega) (by omega) hr hn
  clear hr
  go_enter Try.func34, Try.ntmps34
  go_wp2_with ((with_reducible (first | apply Gives.call_bw (Nat.le_refl _) | apply Gives.call)); (focus (first | (with_reducible exact h _))); intro x; (try dsimp only [drew_heap] at x))
  go_ret
  exact ⟨rfl, by (first | ((repeat (with_reducible first | assumption | exact Below.refl _ _ | (refine below_bw _ ?_ ?_; rotate_left; focus (((repeat (with_reducible first | assumption | exact Nat.le_refl _ | refine BW.le_of ?_ | refine le_alloc ?_ | refine le_drew ?_ | refine le_drewN ?_ | refine le_set ?_ | refine le_plus ?_ | omega | refine le_setA ?_)); done))) | (refine Below.alloc ?_ ?_ _; rotate_left; focus (((repeat (with_reducible first | assumption | exact Nat.le_refl _ | refine BW.le_of ?_ | refine le_alloc ?_ | refine le_drew ?_ | refine le_drewN ?_ | refine le_set ?_ | refine le_plus ?_ | omega | refine le_setA ?_)); done))) | (refine Below.setCell ?_ ?_ _; rotate_left; focus (((repeat (with_reducible first | assumption | exact Nat.le_refl _ | refine BW.le_of ?_ | refine le_alloc ?_ | refine le_drew ?_ | refine le_drewN ?_ | refine le_set ?_ | refine le_plus ?_ | omega | refine le_setA ?_)); done))) | refine Below.drew ?_ | refine below_drewN ?_ _ | (refine below_setCells ?_ ?_ _ _; rotate_left; focus (((repeat (with_reducible first | assumption | exact Nat.le_refl _ | refine BW.le_of ?_ | refine le_alloc ?_ | refine le_drew ?_ | refine le_drewN ?_ | refine le_set ?_ | refine le_plus ?_ | omega | refine le_setA ?_)); done))))); done) | (simp; done) | (repeat (first | assumption | exact Below.refl _ _ | (refine below_bw _ ?_ ?_; rotate_left; focus ((first | omega | (repeat (first | with_reducible assumption | with_reducible exact Nat.le_refl _ | refine BW.le_of ?_ | refine le_alloc ?_ | refine le_drew ?_ | refine le_drewN ?_ | refine le_set ?_ | refine le_plus ?_ | assumption | exact Nat.le_refl _))))) | (refine Below.alloc ?_ ?_ _; rotate_left; focus ((first | omega | (repeat (first | with_reducible assumption | with_reducible exact Nat.le_refl _ | refine BW.le_of ?_ | refine le_alloc ?_ | refine le_drew ?_ | refine le_drewN ?_ | refine le_set ?_ | refine le_plus ?_ | assumption | exact Nat.le_refl _))))) | (refine Below.setCell ?_ ?_ _; rotate_left; focus ((first | omega | (repeat (first | with_reducible assumption | with_reducible exact Nat.le_refl _ | refine BW.le_of ?_ | refine le_alloc ?_ | refine le_drew ?_ | refine le_drewN ?_ | refine le_set ?_ | refine le_plus ?_ | assumption | exact Nat.le_refl _))))) | refine Below.drew ?_ | refine below_drewN ?_ _ | (refine below_setCells ?_ ?_ _ _; rotate_left; focus ((first | omega | (repeat (first | with_reducible assumption | with_reducible exact Nat.le_refl _ | refine BW.le_of ?_ | refine le_alloc ?_ | refine le_drew ?_ | refine le_drewN ?_ | refine le_set ?_ | refine le_plus ?_ | assumption | exact Nat.le_refl _))))))))⟩
theorem rValue16_any {c : Int} {w : World} : Gives Try.prog 31 #[.int .i64 c] w (.int .i64 (valN 4096 (clampN 65535 c) : Int)) := by
  refine Gives.of ?_
  have hw : ∀ w, Gives Try.prog 41 #[.int .i64 c, .int .i64 0, .int .i64 65535] w (.int .i64 (clampN 65535 c : Int)) := fun w => by
    have h := rwithin_any (n := c) (lo := 0) (hi := 65535) (w := w)
    have e : within c 0 65535 = (clampN 65535 c : Int) := by
      unfold within clampN
      split
      · omega
      · split <;> omega
    rwa [e] at h
  have hl := clampN_le 65535 c
  have hv : ∀ w, Gives Try.prog 40 #[.int .i64 (clampN 65535 c : Int), .int .i64 4096] w (.int .i64 (valN 4096 (clampN 65535 c) : Int)) := fun w => rvalue_any (u := 4096) (by omega) (by omega) (by omega)
  generalize hv2 : valN 4096 (clampN 65535 c) = v at *
  clear hv2
  generalize clampN 65535 c = k at *
  go_enter Try.func31, Try.ntmps31
  go_wp2_with ((with_reducible (first | apply Gives.call_bw (Nat.le_refl _) | apply Gives.call)); (focus (first | (with_reducible exact hw _) | (with_reducible exact hv _))); intro x; (try dsimp only [drew_heap] at x))
  go_ret
  exact ⟨rfl, by (first | ((repeat (with_reducible first | assumption | exact Below.refl _ _ | (refine below_bw _ ?_ ?_; rotate_left; focus (((repeat (with_reducible first | assumption | exact Nat.le_refl _ | refine BW.le_of ?_ | refine le_alloc ?_ | refine le_drew ?_ | refine le_drewN ?_ | refine le_set ?_ | refine le_plus ?_ | omega | refine le_setA ?_)); done))) | (refine Below.alloc ?_ ?_ _; rotate_left; focus (((repeat (with_reducible first | assumption | exact Nat.le_refl _ | refine BW.le_of ?_ | refine le_alloc ?_ | refine le_drew ?_ | refine le_drewN ?_ | refine le_set ?_ | refine le_plus ?_ | omega | refine le_setA ?_)); done))) | (refine Below.setCell ?_ ?_ _; rotate_left; focus (((repeat (with_reducible first | assumption | exact Nat.le_refl _ | refine BW.le_of ?_ | refine le_alloc ?_ | refine le_drew ?_ | refine le_drewN ?_ | refine le_set ?_ | refine le_plus ?_ | omega | refine le_setA ?_)); done))) | refine Below.drew ?_ | refine below_drewN ?_ _ | (refine below_setCells ?_ ?_ _ _; rotate_left; focus (((repeat (with_reducible first | assumption | exact Nat.le_refl _ | refine BW.le_of ?_ | refine le_alloc ?_ | refine le_drew ?_ | refine le_drewN ?_ | refine le_set ?_ | refine le_plus ?_ | omega | refine le_setA ?_)); done))))); done) | (simp; done) | (repeat (first | assumption | exact Below.refl _ _ | (refine below_bw _ ?_ ?_; rotate_left; focus ((first | omega | (repeat (first | with_reducible assumption | with_reducible exact Nat.le_refl _ | refine BW.le_of ?_ | refine le_alloc ?_ | refine le_drew ?_ | refine le_drewN ?_ | refine le_set ?_ | refine le_plus ?_ | assumption | exact Nat.le_refl _))))) | (refine Below.alloc ?_ ?_ _; rotate_left; focus ((first | omega | (repeat (first | with_reducible assumption | with_reducible exact Nat.le_refl _ | refine BW.le_of ?_ | refine le_alloc ?_ | refine le_drew ?_ | refine le_drewN ?_ | refine le_set ?_ | refine le_plus ?_ | assumption | exact Nat.le_refl _))))) | (refine Below.setCell ?_ ?_ _; rotate_left; focus ((first | omega | (repeat (first | with_reducible assumption | with_reducible exact Nat.le_refl _ | refine BW.le_of ?_ | refine le_alloc ?_ | refine le_drew ?_ | refine le_drewN ?_ | refine le_set ?_ | refine le_plus ?_ | assumption | exact Nat.le_refl _))))) | refine Below.drew ?_ | refine below_drewN ?_ _ | (refine below_setCells ?_ ?_ _ _; rotate_left; focus ((first | omega | (repeat (first | with_reducible assumption | with_reducible exact Nat.le_refl _ | refine BW.le_of ?_ | refine le_alloc ?_ | refine le_drew ?_ | refine le_drewN ?_ | refine le_set ?_ | refine le_plus ?_ | assumption | exact Nat.le_refl _))))))))⟩
theorem rCode16_any {n : Int} {r : Nat} {w : World} (hr : IsCode 4096 n.toNat r) (hn : -9223372036854775808 ≤ n ∧ n ≤ 9223372036854775807) : Gives Try.prog 32 #[.int .i64 n] w (.int .i64 (r : Int)) := by
  refine Gives.of ?_
  have h : ∀ w, Gives Try.prog 42 #[.int .i64 n, .int .i64 4096, .int .i64 65535] w (.int .i64 (r : Int)) := fun w => rcode_any (u := 4096) (M := 65535) (by omega) (by omega) (by omega) hr hn
  clear hr
  go_enter Try.func32, Try.ntmps32
  go_wp2_with ((with_reducible (first | apply Gives.call_bw (Nat.le_refl _) | apply Gives.call)); (focus (first | (with_reducible exact h _))); intro x; (try dsimp only [drew_heap] at x))
  go_ret
  exact ⟨rfl, by (first | ((repeat (with_reducible first | assumption | exact Below.refl _ _ | (refine below_bw _ ?_ ?_; rotate_left; focus (((repeat (with_reducible first | assumption | exact Nat.le_refl _ | refine BW.le_of ?_ | refine le_alloc ?_ | refine le_drew ?_ | refine le_drewN ?_ | refine le_set ?_ | refine le_plus ?_ | omega | refine le_setA ?_)); done))) | (refine Below.alloc ?_ ?_ _; rotate_left; focus (((repeat (with_reducible first | assumption | exact Nat.le_refl _ | refine BW.le_of ?_ | refine le_alloc ?_ | refine le_drew ?_ | refine le_drewN ?_ | refine le_set ?_ | refine le_plus ?_ | omega | refine le_setA ?_)); done))) | (refine Below.setCell ?_ ?_ _; rotate_left; focus (((repeat (with_reducible first | assumption | exact Nat.le_refl _ | refine BW.le_of ?_ | refine le_alloc ?_ | refine le_drew ?_ | refine le_drewN ?_ | refine le_set ?_ | refine le_plus ?_ | omega | refine le_setA ?_)); done))) | refine Below.drew ?_ | refine below_drewN ?_ _ | (refine below_setCells ?_ ?_ _ _; rotate_left; focus (((repeat (with_reducible first | assumption | exact Nat.le_refl _ | refine BW.le_of ?_ | refine le_alloc ?_ | refine le_drew ?_ | refine le_drewN ?_ | refine le_set ?_ | refine le_plus ?_ | omega | refine le_setA ?_)); done))))); done) | (simp; done) | (repeat (first | assumption | exact Below.refl _ _ | (refine below_bw _ ?_ ?_; rotate_left; focus ((first | omega | (repeat (first | with_reducible assumption | with_reducible exact Nat.le_refl _ | refine BW.le_of ?_ | refine le_alloc ?_ | refine le_drew ?_ | refine le_drewN ?_ | refine le_set ?_ | refine le_plus ?_ | assumption | exact Nat.le_refl _))))) | (refine Below.alloc ?_ ?_ _; rotate_left; focus ((first | omega | (repeat (first | with_reducible assumption | with_reducible exact Nat.le_refl _ | refine BW.le_of ?_ | refine le_alloc ?_ | refine le_drew ?_ | refine le_drewN ?_ | refine le_set ?_ | refine le_plus ?_ | assumption | exact Nat.le_refl _))))) | (refine Below.setCell ?_ ?_ _; rotate_left; focus ((first | omega | (repeat (first | with_reducible assumption | with_reducible exact Nat.le_refl _ | refine BW.le_of ?_ | refine le_alloc ?_ | refine le_drew ?_ | refine le_drewN ?_ | refine le_set ?_ | refine le_plus ?_ | assumption | exact Nat.le_refl _))))) | refine Below.drew ?_ | refine below_drewN ?_ _ | (refine below_setCells ?_ ?_ _ _; rotate_left; focus ((first | omega | (repeat (first | with_reducible assumption | with_reducible exact Nat.le_refl _ | refine BW.le_of ?_ | refine le_alloc ?_ | refine le_drew ?_ | refine le_drewN ?_ | refine le_set ?_ | refine le_plus ?_ | assumption | exact Nat.le_refl _))))))))⟩
end Go.Proofs.Ytdhkinonfnfmoaa

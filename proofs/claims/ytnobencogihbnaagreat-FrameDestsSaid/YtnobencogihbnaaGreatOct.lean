/-
  Contracts of package octet and of its reference, as far as numbers and bits go.
-/
import Derived.Test.YtnobencogihbnaaGreatRows
import Derived.Test.YtnobencogihbnaaGreatMem
namespace Go.Proofs.YtnobencogihbnaaGreat
open Go.ChangeShapes Go.WideShapes Go.ChangeAt Go.RowKit
set_option linter.unusedVariables false
set_option linter.unusedSimpArgs false

theorem elemU8 : Elem1 Tryz.prog 82 5 1 := elem1_mk Tryz.underlying82 (z := .int .u8 0) (by kernel_rfl) rfl
def within (n lo hi : Int) : Int := if n < lo then lo else if hi < n then hi else n
theorem within_lo {n lo hi : Int} (h : n < lo) : within n lo hi = lo := by simp [within, h]
theorem within_hi {n lo hi : Int} (h : lo ≤ hi) (h' : hi < n) : within n lo hi = hi := by unfold within; rw [if_neg (by omega), if_pos h']
theorem within_in {n lo hi : Int} (h : lo ≤ n) (h' : n ≤ hi) : within n lo hi = n := by unfold within; rw [if_neg (by omega), if_neg (by omega)]
theorem within_bd {n lo hi : Int} (h : lo ≤ hi) : lo ≤ within n lo hi ∧ within n lo hi ≤ hi := by
  unfold within
  split
  · omega
  · split <;> omega
/-- .. as a natural number -/
def wn (n : Int) (m : Nat) : Nat := (within n 0 m).toNat
theorem wn_le (n : Int) (m : Nat) : wn n m ≤ m := by have := within_bd (n := n) (lo := 0) (hi := m) (by omega); unfold wn; omega
theorem wn_cast (n : Int) (m : Nat) : within n 0 m = (wn n m : Int) := by have := within_bd (n := n) (lo := 0) (hi := m) (by omega); unfold wn; omega

theorem rwithin_any {n lo hi : Int} {w : World} : Gives Tryz.prog 47 #[.int .i64 n, .int .i64 lo, .int .i64 hi] w (.int .i64 (within n lo hi)) := by
  refine Gives.of ?_
  unfold within
  go_enter Tryz.func47, Tryz.ntmps47
  go_wp2
  all_goals go_ret
  all_goals exact ⟨by simp [*]; try omega, by simp⟩
theorem rwithin8 {n : Int} {w : World} : Gives Tryz.prog 47 #[.int .i64 n, .int .i64 0, .int .i64 8] w (.int .i64 (wn n 8 : Int)) := by
  rw [← wn_cast]; exact rwithin_any
theorem rwithin64 {n : Int} {w : World} : Gives Tryz.prog 47 #[.int .i64 n, .int .i64 0, .int .i64 64] w (.int .i64 (wn n 64 : Int)) := by
  rw [← wn_cast]; exact rwithin_any
theorem within_any {n lo hi : Int} {w : World} (h : lo ≤ hi) : Gives Tryz.prog 95 #[.int .i64 n, .int .i64 lo, .int .i64 hi] w (.int .i64 (within n lo hi)) := by
  refine Gives.of ?_
  unfold within
  go_enter Tryz.func95, Tryz.ntmps95
  go_wp2
  all_goals go_ret
  all_goals refine ⟨congrArg (fun b => Ending.returned (.int .i64 b)) ?_, by simp⟩
  all_goals (simp; repeat' split) <;> omega
theorem within8 {n : Int} {w : World} : Gives Tryz.prog 95 #[.int .i64 n, .int .i64 0, .int .i64 8] w (.int .i64 (wn n 8 : Int)) := by
  rw [← wn_cast]; exact within_any (by omega)
theorem within64 {n : Int} {w : World} : Gives Tryz.prog 95 #[.int .i64 n, .int .i64 0, .int .i64 64] w (.int .i64 (wn n 64 : Int)) := by
  rw [← wn_cast]; exact within_any (by omega)
theorem mask_any {n : Nat} {w : World} (h : n ≤ 64) : Gives Tryz.prog 96 #[.int .i64 n] w (.int .u64 ((2 ^ n - 1 : Nat) : Int)) := by
  refine Gives.of ?_
  go_enter Tryz.func96, Tryz.ntmps96
  go_wp2
  go_ret
  exact ⟨congrArg (fun b => Ending.returned (.int .u64 b)) (u64_pow h), by simp⟩
theorem num_any {s : ByteArray} {w : World} (h : s.size ≤ 8) : Gives Tryz.prog 93 #[.string s] w (.int .u64 (numL s.data.toList : Int)) := by
  refine Gives.of ?_
  go_enter Tryz.func93, Tryz.ntmps93
  go_wp2
  go_loop [3, 4, 7] (fun n j i => ∃ k : Nat, k ≤ s.size ∧ i = .int .i64 k ∧ n = .int .u64 (numL (s.data.toList.take k) : Int)) (fun _ _ i => s.size - (intOf i).toNat)
  case atStart => exact ⟨0, by omega, rfl, by simp [numL]⟩
  case round =>
    obtain ⟨k, hk, rfl, rfl⟩ := hrel
    by_cases hlt : k < s.size
    · have hl : numL (s.data.toList.take k) < 72057594037927936 := by
        have h1 := numL_lt (s.data.toList.take k)
        rw [List.length_take, size_toList] at h1
        have h2 : 256 ^ min k s.size ≤ 256 ^ 7 := pow256_le (by omega)
        omega
      have hs := Lib.hid (take_snocB s k hlt)
      go_wp2
      exact ⟨⟨k + 1, by omega, by go_num, by rw [hs.out, numL_snoc, u64_mul8or hl]⟩, by simp [intOf]; omega⟩
    · go_wp2
      go_ret
      exact ⟨congrArg (fun b => Ending.returned (.int .u64 b)) (by rw [List.take_of_length_le (by rw [size_toList]; omega)]), by simp⟩
theorem bits_any {n : Nat} {a b : Int} {w : World} (hn : n < 18446744073709551616) : Gives Tryz.prog 65 #[.int .u64 n, .int .i64 a, .int .i64 b] w (.int .u64 (lowN n (wn a 64) (wn b 64) : Int)) := by
  refine Gives.of ?_
  have h1 := wn_le a 64
  have h2 := wn_le b 64
  go_enter Tryz.func65, Tryz.ntmps65
  go_wp2_with ((with_reducible (first | apply Gives.call_bw (Nat.le_refl _) | apply Gives.call)); (focus (first | (with_reducible exact within64) | (with_reducible exact mask_any (by assumption)))); intro x; (try dsimp only [drew_heap] at x))
  go_ret
  exact ⟨congrArg (fun b => Ending.returned (.int .u64 b)) (u64_andMask hn h2), by simp⟩

theorem put_any {n : Nat} {wide : Int} {w : World} (hn : n < 18446744073709551616) : Gives Tryz.prog 126 #[.int .u64 n, .int .i64 wide] w (.string (str (putL n (wn wide 8)))) := by
  refine Gives.of ?_
  have h1 := wn_le wide 8
  have hmk := run_make1 elemU8 (z := .int .u8 0) (by kernel_rfl) rfl (wn wide 8) (wn wide 8) (Nat.le_refl _) (by omega) (by omega)
  go_enter Tryz.func126, Tryz.ntmps126
  go_wp2_with ((with_reducible (first | apply Gives.call_bw (Nat.le_refl _) | apply Gives.call)); (focus (first | (with_reducible exact within8))); intro x; (try dsimp only [drew_heap] at x))
  have hnew := fun (W : World) => Row.new W 5 (Array.replicate (wn wide 8) (.int .u8 0))
  go_loopw [0, 6] (fun v i wr => ∃ q j : Nat, q + j = wn wide 8 ∧ i = .int .i64 ((q : Int) - 1) ∧ v = .int .u64 (shr8 n j : Int) ∧ Row wr x.w.heap.size 5 (List.replicate q (Value.int .u8 0) ++ (putL n j).map byteV).toArray ∧ Below w.heap.size w wr) (fun _ i _ => (intOf i + 1).toNat)
  case atStart => exact ⟨wn wide 8, 0, by omega, rfl, by rw [shr8_zero], by simpa [putL] using hnew x.w, by (first | ((repeat (with_reducible first | assumption | exact Below.refl _ _ | (refine below_bw _ ?_ ?_; rotate_left; focus (((repeat (with_reducible first | assumption | exact Nat.le_refl _ | refine BW.le_of ?_ | refine le_alloc ?_ | refine le_drew ?_ | refine le_drewN ?_ | refine le_set ?_ | refine le_plus ?_ | omega | refine le_setA ?_)); done))) | (refine Below.alloc ?_ ?_ _; rotate_left; focus (((repeat (with_reducible first | assumption | exact Nat.le_refl _ | refine BW.le_of ?_ | refine le_alloc ?_ | refine le_drew ?_ | refine le_drewN ?_ | refine le_set ?_ | refine le_plus ?_ | omega | refine le_setA ?_)); done))) | (refine Below.setCell ?_ ?_ _; rotate_left; focus (((repeat (with_reducible first | assumption | exact Nat.le_refl _ | refine BW.le_of ?_ | refine le_alloc ?_ | refine le_drew ?_ | refine le_drewN ?_ | refine le_set ?_ | refine le_plus ?_ | omega | refine le_setA ?_)); done))) | refine Below.drew ?_ | refine below_drewN ?_ _ | (refine below_setCells ?_ ?_ _ _; rotate_left; focus (((repeat (with_reducible first | assumption | exact Nat.le_refl _ | refine BW.le_of ?_ | refine le_alloc ?_ | refine le_drew ?_ | refine le_drewN ?_ | refine le_set ?_ | refine le_plus ?_ | omega | refine le_setA ?_)); done))))); done) | (simp; done) | (repeat (first | assumption | exact Below.refl _ _ | (refine below_bw _ ?_ ?_; rotate_left; focus ((first | omega | (repeat (first | with_reducible assumption | with_reducible exact Nat.le_refl _ | refine BW.le_of ?_ | refine le_alloc ?_ | refine le_drew ?_ | refine le_drewN ?_ | refine le_set ?_ | refine le_plus ?_ | assumption | exact Nat.le_refl _))))) | (refine Below.alloc ?_ ?_ _; rotate_left; focus ((first | omega | (repeat (first | with_reducible assumption | with_reducible exact Nat.le_refl _ | refine BW.le_of ?_ | refine le_alloc ?_ | refine le_drew ?_ | refine le_drewN ?_ | refine le_set ?_ | refine le_plus ?_ | assumption | exact Nat.le_refl _))))) | (refine Below.setCell ?_ ?_ _; rotate_left; focus ((first | omega | (repeat (first | with_reducible assumption | with_reducible exact Nat.le_refl _ | refine BW.le_of ?_ | refine le_alloc ?_ | refine le_drew ?_ | refine le_drewN ?_ | refine le_set ?_ | refine le_plus ?_ | assumption | exact Nat.le_refl _))))) | refine Below.drew ?_ | refine below_drewN ?_ _ | (refine below_setCells ?_ ?_ _ _; rotate_left; focus ((first | omega | (repeat (first | with_reducible assumption | with_reducible exact Nat.le_refl _ | refine BW.le_of ?_ | refine le_alloc ?_ | refine le_drew ?_ | refine le_drewN ?_ | refine le_set ?_ | refine le_plus ?_ | assumption | exact Nat.le_refl _))))))))⟩
  case round =>
    clear hnew
    obtain ⟨q, j, hq, rfl, rfl, hrow, hbel⟩ := hrel
    by_cases h0 : 0 < q
    · obtain ⟨p, rfl⟩ : ∃ p, q = p + 1 := ⟨q - 1, by omega⟩
      rw [show (((p + 1 : Nat) : Int) - 1) = (p : Int) by omega]
      have hcell : wr.cell? ⟨x.w.heap.size, p, none⟩ = some (.int .u8 0) := by
        rw [hrow.cell]
        simp [List.getElem?_append, List.getElem?_replicate]
      have hfr := hrow.frozen p
      have HR := Lib.hid hrow; clear hrow
      have hs := shr8_le n j
      go_wp2
      refine ⟨⟨p, j + 1, by omega, rfl, by rw [shr8_div], ?_, by have := x.below.size; (first | ((repeat (with_reducible first | assumption | exact Below.refl _ _ | (refine below_bw _ ?_ ?_; rotate_left; focus (((repeat (with_reducible first | assumption | exact Nat.le_refl _ | refine BW.le_of ?_ | refine le_alloc ?_ | refine le_drew ?_ | refine le_drewN ?_ | refine le_set ?_ | refine le_plus ?_ | omega | refine le_setA ?_)); done))) | (refine Below.alloc ?_ ?_ _; rotate_left; focus (((repeat (with_reducible first | assumption | exact Nat.le_refl _ | refine BW.le_of ?_ | refine le_alloc ?_ | refine le_drew ?_ | refine le_drewN ?_ | refine le_set ?_ | refine le_plus ?_ | omega | refine le_setA ?_)); done))) | (refine Below.setCell ?_ ?_ _; rotate_left; focus (((repeat (with_reducible first | assumption | exact Nat.le_refl _ | refine BW.le_of ?_ | refine le_alloc ?_ | refine le_drew ?_ | refine le_drewN ?_ | refine le_set ?_ | refine le_plus ?_ | omega | refine le_setA ?_)); done))) | refine Below.drew ?_ | refine below_drewN ?_ _ | (refine below_setCells ?_ ?_ _ _; rotate_left; focus (((repeat (with_reducible first | assumption | exact Nat.le_refl _ | refine BW.le_of ?_ | refine le_alloc ?_ | refine le_drew ?_ | refine le_drewN ?_ | refine le_set ?_ | refine le_plus ?_ | omega | refine le_setA ?_)); done))))); done) | (simp; done) | (repeat (first | assumption | exact Below.refl _ _ | (refine below_bw _ ?_ ?_; rotate_left; focus ((first | omega | (repeat (first | with_reducible assumption | with_reducible exact Nat.le_refl _ | refine BW.le_of ?_ | refine le_alloc ?_ | refine le_drew ?_ | refine le_drewN ?_ | refine le_set ?_ | refine le_plus ?_ | assumption | exact Nat.le_refl _))))) | (refine Below.alloc ?_ ?_ _; rotate_left; focus ((first | omega | (repeat (first | with_reducible assumption | with_reducible exact Nat.le_refl _ | refine BW.le_of ?_ | refine le_alloc ?_ | refine le_drew ?_ | refine le_drewN ?_ | refine le_set ?_ | refine le_plus ?_ | assumption | exact Nat.le_refl _))))) | (refine Below.setCell ?_ ?_ _; rotate_left; focus ((first | omega | (repeat (first | with_reducible assumption | with_reducible exact Nat.le_refl _ | refine BW.le_of ?_ | refine le_alloc ?_ | refine le_drew ?_ | refine le_drewN ?_ | refine le_set ?_ | refine le_plus ?_ | assumption | exact Nat.le_refl _))))) | refine Below.drew ?_ | refine below_drewN ?_ _ | (refine below_setCells ?_ ?_ _ _; rotate_left; focus ((first | omega | (repeat (first | with_reducible assumption | with_reducible exact Nat.le_refl _ | refine BW.le_of ?_ | refine le_alloc ?_ | refine le_drew ?_ | refine le_drewN ?_ | refine le_set ?_ | refine le_plus ?_ | assumption | exact Nat.le_refl _))))))))⟩, by simp [intOf]⟩
      have h2 := HR.out.set p (.int .u8 ((shr8 n j : Int) % 256))
      rw [List.setIfInBounds_toArray, set_replicate, shr8_mod] at h2
      rw [shr8_mod]
      exact h2
    · obtain rfl : q = 0 := by omega
      have hm : j = wn wide 8 := by omega
      subst hm
      have hconv := run_str_of (P := Tryz.prog) (w := wr) (l := putL n (wn wide 8)) (len := wn wide 8) (cap := wn wide 8) (off := 0) (g := x.w.heap.size) Tryz.underlying82 Tryz.underlying5 Tryz.underlying9 (by rw [putL_length]) (by
        intro i b hb
        rw [hrow.cell]
        simp [hb])
      clear hrow
      go_wp2
      go_ret
      exact ⟨rfl, hbel⟩
theorem Put_any {n : Nat} {wide : Int} {w : World} (hn : n < 18446744073709551616) : Gives Tryz.prog 91 #[.int .u64 n, .int .i64 wide] w (.string (str (putL n (wn wide 8)))) := by
  refine Gives.of ?_
  go_enter Tryz.func91, Tryz.ntmps91
  go_wp2_with ((with_reducible (first | apply Gives.call_bw (Nat.le_refl _) | apply Gives.call)); (focus (first | (with_reducible exact put_any (by assumption)))); intro x; (try dsimp only [drew_heap] at x))
  go_ret
  exact ⟨rfl, by (first | ((repeat (with_reducible first | assumption | exact Below.refl _ _ | (refine below_bw _ ?_ ?_; rotate_left; focus (((repeat (with_reducible first | assumption | exact Nat.le_refl _ | refine BW.le_of ?_ | refine le_alloc ?_ | refine le_drew ?_ | refine le_drewN ?_ | refine le_set ?_ | refine le_plus ?_ | omega | refine le_setA ?_)); done))) | (refine Below.alloc ?_ ?_ _; rotate_left; focus (((repeat (with_reducible first | assumption | exact Nat.le_refl _ | refine BW.le_of ?_ | refine le_alloc ?_ | refine le_drew ?_ | refine le_drewN ?_ | refine le_set ?_ | refine le_plus ?_ | omega | refine le_setA ?_)); done))) | (refine Below.setCell ?_ ?_ _; rotate_left; focus (((repeat (with_reducible first | assumption | exact Nat.le_refl _ | refine BW.le_of ?_ | refine le_alloc ?_ | refine le_drew ?_ | refine le_drewN ?_ | refine le_set ?_ | refine le_plus ?_ | omega | refine le_setA ?_)); done))) | refine Below.drew ?_ | refine below_drewN ?_ _ | (refine below_setCells ?_ ?_ _ _; rotate_left; focus (((repeat (with_reducible first | assumption | exact Nat.le_refl _ | refine BW.le_of ?_ | refine le_alloc ?_ | refine le_drew ?_ | refine le_drewN ?_ | refine le_set ?_ | refine le_plus ?_ | omega | refine le_setA ?_)); done))))); done) | (simp; done) | (repeat (first | assumption | exact Below.refl _ _ | (refine below_bw _ ?_ ?_; rotate_left; focus ((first | omega | (repeat (first | with_reducible assumption | with_reducible exact Nat.le_refl _ | refine BW.le_of ?_ | refine le_alloc ?_ | refine le_drew ?_ | refine le_drewN ?_ | refine le_set ?_ | refine le_plus ?_ | assumption | exact Nat.le_refl _))))) | (refine Below.alloc ?_ ?_ _; rotate_left; focus ((first | omega | (repeat (first | with_reducible assumption | with_reducible exact Nat.le_refl _ | refine BW.le_of ?_ | refine le_alloc ?_ | refine le_drew ?_ | refine le_drewN ?_ | refine le_set ?_ | refine le_plus ?_ | assumption | exact Nat.le_refl _))))) | (refine Below.setCell ?_ ?_ _; rotate_left; focus ((first | omega | (repeat (first | with_reducible assumption | with_reducible exact Nat.le_refl _ | refine BW.le_of ?_ | refine le_alloc ?_ | refine le_drew ?_ | refine le_drewN ?_ | refine le_set ?_ | refine le_plus ?_ | assumption | exact Nat.le_refl _))))) | refine Below.drew ?_ | refine below_drewN ?_ _ | (refine below_setCells ?_ ?_ _ _; rotate_left; focus ((first | omega | (repeat (first | with_reducible assumption | with_reducible exact Nat.le_refl _ | refine BW.le_of ?_ | refine le_alloc ?_ | refine le_drew ?_ | refine le_drewN ?_ | refine le_set ?_ | refine le_plus ?_ | assumption | exact Nat.le_refl _))))))))⟩

end Go.Proofs.YtnobencogihbnaaGreat

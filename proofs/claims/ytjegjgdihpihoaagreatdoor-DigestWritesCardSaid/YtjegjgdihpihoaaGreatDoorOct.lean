/-
  Contracts of package octet and of its reference, as far as numbers and bits go.
-/
import Derived.Test.YtjegjgdihpihoaaGreatDoorRows
import Derived.Test.YtjegjgdihpihoaaGreatDoorMem
namespace Go.Proofs.YtjegjgdihpihoaaGreatDoor
open Go.ChangeShapes Go.WideShapes Go.ChangeAt Go.RowKit
set_option linter.unusedVariables false
set_option linter.unusedSimpArgs false

theorem elemU8 : Elem1 Tryz.prog 72 5 1 := elem1_mk Tryz.underlying72 (z := .int .u8 0) (by kernel_rfl) rfl
def within (n lo hi : Int) : Int := if n < lo then lo else if hi < n then hi else n
theorem within_bd {n lo hi : Int} (h : lo ≤ hi) : lo ≤ within n lo hi ∧ within n lo hi ≤ hi := by
  unfold within
  split
  · omega
  · split <;> omega
/-- .. as a natural number -/
def wn (n : Int) (m : Nat) : Nat := (within n 0 m).toNat
theorem wn_le (n : Int) (m : Nat) : wn n m ≤ m := by have := within_bd (n := n) (lo := 0) (hi := m) (by omega); unfold wn; omega
theorem wn_cast (n : Int) (m : Nat) : within n 0 m = (wn n m : Int) := by have := within_bd (n := n) (lo := 0) (hi := m) (by omega); unfold wn; omega

theorem rwithin_any {n lo hi : Int} {w : World} : Gives Tryz.prog 54 #[.int .i64 n, .int .i64 lo, .int .i64 hi] w (.int .i64 (within n lo hi)) := by
  refine Gives.of ?_
  unfold within
  go_enter Tryz.func54, Tryz.ntmps54
  go_wp2
  all_goals go_ret
  all_goals exact ⟨by simp [*]; try omega, by simp⟩
theorem rwithin8 {n : Int} {w : World} : Gives Tryz.prog 54 #[.int .i64 n, .int .i64 0, .int .i64 8] w (.int .i64 (wn n 8 : Int)) := by
  rw [← wn_cast]; exact rwithin_any
theorem within_any {n lo hi : Int} {w : World} (h : lo ≤ hi) : Gives Tryz.prog 78 #[.int .i64 n, .int .i64 lo, .int .i64 hi] w (.int .i64 (within n lo hi)) := by
  refine Gives.of ?_
  unfold within
  go_enter Tryz.func78, Tryz.ntmps78
  go_wp2
  all_goals go_ret
  all_goals refine ⟨congrArg (fun b => Ending.returned (.int .i64 b)) ?_, by simp⟩
  all_goals (simp; repeat' split) <;> omega
theorem within8 {n : Int} {w : World} : Gives Tryz.prog 78 #[.int .i64 n, .int .i64 0, .int .i64 8] w (.int .i64 (wn n 8 : Int)) := by
  rw [← wn_cast]; exact within_any (by omega)
theorem num_any {s : ByteArray} {w : World} (h : s.size ≤ 8) : Gives Tryz.prog 76 #[.string s] w (.int .u64 (numL s.data.toList : Int)) := by
  refine Gives.of ?_
  go_enter Tryz.func76, Tryz.ntmps76
  go_wp2
  go_loop [3, 4, 7] (fun n j i => ∃ k : Nat, k ≤ s.size ∧ i = .int .i64 k ∧ n = .int .u64 (numL (s.data.toList.take k) : Int)) (fun _ _ i => s.size - (intOf i).toNat)
  case atStart => exact ⟨0, by omega, rfl, by simp [numL]⟩
  case round =>
    obtain ⟨k, hk, rfl, rfl⟩ := hrel
    by_cases hlt : k < s.size
    · have hl : numL (s.data.toList.take k) < 72057594037927936 := by
        have h1 := numL_lt (s.data.toList.take k)
        rw [List.length_take, size_toList] at h1
        have h2 : 256 ^ min k s.size ≤ 256 ^ 7 := pow256_le (by omega)
        omega
      have hs := Lib.hid (take_snocB s k hlt)
      go_wp2
      exact ⟨⟨k + 1, by omega, by go_num, by rw [hs.out, numL_snoc, u64_mul8or hl]⟩, by simp [intOf]; omega⟩
    · go_wp2
      go_ret
      exact ⟨congrArg (fun b => Ending.returned (.int .u64 b)) (by rw [List.take_of_length_le (by rw [size_toList]; omega)]), by simp⟩
theorem rbit_any {n : Nat} {k : Int} {w : World} (hn : n < 18446744073709551616) : Gives Tryz.prog 55 #[.int .u64 n, .int .i64 k] w (.int .u64 (if k < 0 then 0 else (bitN n k.toNat : Int))) := by
  refine Gives.of ?_
  by_cases hk : k < 0
  · go_enter Tryz.func55, Tryz.ntmps55
    go_wp2
    go_ret
    exact ⟨by simp [hk], by simp⟩
  by_cases hk' : 63 < k
  · have hz : bitN n k.toNat = 0 := bitN_high hn (by omega)
    go_enter Tryz.func55, Tryz.ntmps55
    go_wp2
    go_ret
    exact ⟨by simp [hk, hz], by simp⟩
  · obtain ⟨m, rfl⟩ := Int.eq_ofNat_of_zero_le (show 0 ≤ k by omega)
    have hm : m ≤ 63 := by omega
    go_enter Tryz.func55, Tryz.ntmps55
    go_wp2
    go_loop [0, 1] (fun x i => ∃ j : Nat, j ≤ m ∧ i = .int .i64 j ∧ x = .int .u64 ((n / 2 ^ (m - j) : Nat) : Int)) (fun _ i => (intOf i).toNat)
    case atStart => exact ⟨m, by omega, rfl, by simp⟩
    case round =>
      obtain ⟨j, hj, rfl, rfl⟩ := hrel
      by_cases h0 : 0 < j
      · go_wp2
        refine ⟨⟨j - 1, by omega, by rw [show ((j - 1 : Nat) : Int) = (j : Int) - 1 by omega], ?_⟩, by simp [intOf]; omega⟩
        have h1 : n / 2 ^ (m - j) ≤ n := Nat.div_le_self _ _
        rw [cast_div_pow, u64_half (by omega), Nat.div_div_eq_div_mul, ← Nat.pow_succ, show (m - j).succ = m - (j - 1) by omega]
      · obtain rfl : j = 0 := by omega
        go_wp2
        go_ret
        refine ⟨?_, by simp⟩
        simp only [Nat.sub_zero, cast_div_pow, tmod2_nat]
        rfl
theorem rbit_int {n : Nat} {k : Int} {w : World} (hn : n < 18446744073709551616) (hk : 0 ≤ k) : Gives Tryz.prog 55 #[.int .u64 n, .int .i64 k] w (.int .u64 (bitN n k.toNat : Int)) := by
  have h := rbit_any (n := n) (k := k) (w := w) hn
  rw [if_neg (by omega)] at h
  exact h

theorem put_any {n : Nat} {wide : Int} {w : World} (hn : n < 18446744073709551616) : Gives Tryz.prog 68 #[.int .u64 n, .int .i64 wide] w (.string (str (putL n (wn wide 8)))) := by
  refine Gives.of ?_
  have h1 := wn_le wide 8
  have hmk := run_make1 elemU8 (z := .int .u8 0) (by kernel_rfl) rfl (wn wide 8) (wn wide 8) (Nat.le_refl _) (by omega) (by omega)
  go_enter Tryz.func68, Tryz.ntmps68
  go_wp2_with ((with_reducible (first | apply Gives.call_bw (Nat.le_refl _) | apply Gives.call)); (focus (first | (with_reducible exact within8))); intro x; (try dsimp only [drew_heap] at x))
  have hnew := fun (W : World) => Row.new W 5 (Array.replicate (wn wide 8) (.int .u8 0))
  go_loopw [0, 6] (fun v i wr => ∃ q j : Nat, q + j = wn wide 8 ∧ i = .int .i64 ((q : Int) - 1) ∧ v = .int .u64 (shr8 n j : Int) ∧ Row wr x.w.heap.size 5 (List.replicate q (Value.int .u8 0) ++ (putL n j).map byteV).toArray ∧ Below w.heap.size w wr) (fun _ i _ => (intOf i + 1).toNat)
  case atStart => exact ⟨wn wide 8, 0, by omega, rfl, by rw [shr8_zero], by simpa [putL] using hnew x.w, by (first | ((repeat (with_reducible first | assumption | exact Below.refl _ _ | (refine below_bw _ ?_ ?_; rotate_left; focus (((repeat (with_reducible first | assumption | exact Nat.le_refl _ | refine BW.le_of ?_ | refine le_alloc ?_ | refine le_drew ?_ | refine le_drewN ?_ | refine le_set ?_ | refine le_plus ?_ | omega | refine le_setA ?_)); done))) | (refine Below.alloc ?_ ?_ _; rotate_left; focus (((repeat (with_reducible first | assumption | exact Nat.le_refl _ | refine BW.le_of ?_ | refine le_alloc ?_ | refine le_drew ?_ | refine le_drewN ?_ | refine le_set ?_ | refine le_plus ?_ | omega | refine le_setA ?_)); done))) | (refine Below.setCell ?_ ?_ _; rotate_left; focus (((repeat (with_reducible first | assumption | exact Nat.le_refl _ | refine BW.le_of ?_ | refine le_alloc ?_ | refine le_drew ?_ | refine le_drewN ?_ | refine le_set ?_ | refine le_plus ?_ | omega | refine le_setA ?_)); done))) | refine Below.drew ?_ | refine below_drewN ?_ _ | (refine below_setCells ?_ ?_ _ _; rotate_left; focus (((repeat (with_reducible first | assumption | exact Nat.le_refl _ | refine BW.le_of ?_ | refine le_alloc ?_ | refine le_drew ?_ | refine le_drewN ?_ | refine le_set ?_ | refine le_plus ?_ | omega | refine le_setA ?_)); done))))); done) | (simp; done) | (repeat (first | assumption | exact Below.refl _ _ | (refine below_bw _ ?_ ?_; rotate_left; focus ((first | omega | (repeat (first | with_reducible assumption | with_reducible exact Nat.le_refl _ | refine BW.le_of ?_ | refine le_alloc ?_ | refine le_drew ?_ | refine le_drewN ?_ | refine le_set ?_ | refine le_plus ?_ | assumption | exact Nat.le_refl _))))) | (refine Below.alloc ?_ ?_ _; rotate_left; focus ((first | omega | (repeat (first | with_reducible assumption | with_reducible exact Nat.le_refl _ | refine BW.le_of ?_ | refine le_alloc ?_ | refine le_drew ?_ | refine le_drewN ?_ | refine le_set ?_ | refine le_plus ?_ | assumption | exact Nat.le_refl _))))) | (refine Below.setCell ?_ ?_ _; rotate_left; focus ((first | omega | (repeat (first | with_reducible assumption | with_reducible exact Nat.le_refl _ | refine BW.le_of ?_ | refine le_alloc ?_ | refine le_drew ?_ | refine le_drewN ?_ | refine le_set ?_ | refine le_plus ?_ | assumption | exact Nat.le_refl _))))) | refine Below.drew ?_ | refine below_drewN ?_ _ | (refine below_setCells ?_ ?_ _ _; rotate_left; focus ((first | omega | (repeat (first | with_reducible assumption | with_reducible exact Nat.le_refl _ | refine BW.le_of ?_ | refine le_alloc ?_ | refine le_drew ?_ | refine le_drewN ?_ | refine le_set ?_ | refine le_plus ?_ | assumption | exact Nat.le_refl _))))))))⟩
  case round =>
    clear hnew
    obtain ⟨q, j, hq, rfl, rfl, hrow, hbel⟩ := hrel
    by_cases h0 : 0 < q
    · obtain ⟨p, rfl⟩ : ∃ p, q = p + 1 := ⟨q - 1, by omega⟩
      rw [show (((p + 1 : Nat) : Int) - 1) = (p : Int) by omega]
      have hcell : wr.cell? ⟨x.w.heap.size, p, none⟩ = some (.int .u8 0) := by
        rw [hrow.cell]
        simp [List.getElem?_append, List.getElem?_replicate]
      have hfr := hrow.frozen p
      have HR := Lib.hid hrow; clear hrow
      have hs := shr8_le n j
      go_wp2
      refine ⟨⟨p, j + 1, by omega, rfl, by rw [shr8_div], ?_, by have := x.below.size; (first | ((repeat (with_reducible first | assumption | exact Below.refl _ _ | (refine below_bw _ ?_ ?_; rotate_left; focus (((repeat (with_reducible first | assumption | exact Nat.le_refl _ | refine BW.le_of ?_ | refine le_alloc ?_ | refine le_drew ?_ | refine le_drewN ?_ | refine le_set ?_ | refine le_plus ?_ | omega | refine le_setA ?_)); done))) | (refine Below.alloc ?_ ?_ _; rotate_left; focus (((repeat (with_reducible first | assumption | exact Nat.le_refl _ | refine BW.le_of ?_ | refine le_alloc ?_ | refine le_drew ?_ | refine le_drewN ?_ | refine le_set ?_ | refine le_plus ?_ | omega | refine le_setA ?_)); done))) | (refine Below.setCell ?_ ?_ _; rotate_left; focus (((repeat (with_reducible first | assumption | exact Nat.le_refl _ | refine BW.le_of ?_ | refine le_alloc ?_ | refine le_drew ?_ | refine le_drewN ?_ | refine le_set ?_ | refine le_plus ?_ | omega | refine le_setA ?_)); done))) | refine Below.drew ?_ | refine below_drewN ?_ _ | (refine below_setCells ?_ ?_ _ _; rotate_left; focus (((repeat (with_reducible first | assumption | exact Nat.le_refl _ | refine BW.le_of ?_ | refine le_alloc ?_ | refine le_drew ?_ | refine le_drewN ?_ | refine le_set ?_ | refine le_plus ?_ | omega | refine le_setA ?_)); done))))); done) | (simp; done) | (repeat (first | assumption | exact Below.refl _ _ | (refine below_bw _ ?_ ?_; rotate_left; focus ((first | omega | (repeat (first | with_reducible assumption | with_reducible exact Nat.le_refl _ | refine BW.le_of ?_ | refine le_alloc ?_ | refine le_drew ?_ | refine le_drewN ?_ | refine le_set ?_ | refine le_plus ?_ | assumption | exact Nat.le_refl _))))) | (refine Below.alloc ?_ ?_ _; rotate_left; focus ((first | omega | (repeat (first | with_reducible assumption | with_reducible exact Nat.le_refl _ | refine BW.le_of ?_ | refine le_alloc ?_ | refine le_drew ?_ | refine le_drewN ?_ | refine le_set ?_ | refine le_plus ?_ | assumption | exact Nat.le_refl _))))) | (refine Below.setCell ?_ ?_ _; rotate_left; focus ((first | omega | (repeat (first | with_reducible assumption | with_reducible exact Nat.le_refl _ | refine BW.le_of ?_ | refine le_alloc ?_ | refine le_drew ?_ | refine le_drewN ?_ | refine le_set ?_ | refine le_plus ?_ | assumption | exact Nat.le_refl _))))) | refine Below.drew ?_ | refine below_drewN ?_ _ | (refine below_setCells ?_ ?_ _ _; rotate_left; focus ((first | omega | (repeat (first | with_reducible assumption | with_reducible exact Nat.le_refl _ | refine BW.le_of ?_ | refine le_alloc ?_ | refine le_drew ?_ | refine le_drewN ?_ | refine le_set ?_ | refine le_plus ?_ | assumption | exact Nat.le_refl _))))))))⟩, by simp [intOf]⟩
      have h2 := HR.out.set p (.int .u8 ((shr8 n j : Int) % 256))
      rw [List.setIfInBounds_toArray, set_replicate, shr8_mod] at h2
      rw [shr8_mod]
      exact h2
    · obtain rfl : q = 0 := by omega
      have hm : j = wn wide 8 := by omega
      subst hm
      have hconv := run_str_of (P := Tryz.prog) (w := wr) (l := putL n (wn wide 8)) (len := wn wide 8) (cap := wn wide 8) (off := 0) (g := x.w.heap.size) Tryz.underlying72 Tryz.underlying5 Tryz.underlying9 (by rw [putL_length]) (by
        intro i b hb
        rw [hrow.cell]
        simp [hb])
      clear hrow
      go_wp2
      go_ret
      exact ⟨rfl, hbel⟩
theorem Put_any {n : Nat} {wide : Int} {w : World} (hn : n < 18446744073709551616) : Gives Tryz.prog 37 #[.int .u64 n, .int .i64 wide] w (.string (str (putL n (wn wide 8)))) := by
  refine Gives.of ?_
  go_enter Tryz.func37, Tryz.ntmps37
  go_wp2_with ((with_reducible (first | apply Gives.call_bw (Nat.le_refl _) | apply Gives.call)); (focus (first | (with_reducible exact put_any (by assumption)))); intro x; (try dsimp only [drew_heap] at x))
  go_ret
  exact ⟨rfl, by (first | ((repeat (with_reducible first | assumption | exact Below.refl _ _ | (refine below_bw _ ?_ ?_; rotate_left; focus (((repeat (with_reducible first | assumption | exact Nat.le_refl _ | refine BW.le_of ?_ | refine le_alloc ?_ | refine le_drew ?_ | refine le_drewN ?_ | refine le_set ?_ | refine le_plus ?_ | omega | refine le_setA ?_)); done))) | (refine Below.alloc ?_ ?_ _; rotate_left; focus (((repeat (with_reducible first | assumption | exact Nat.le_refl _ | refine BW.le_of ?_ | refine le_alloc ?_ | refine le_drew ?_ | refine le_drewN ?_ | refine le_set ?_ | refine le_plus ?_ | omega | refine le_setA ?_)); done))) | (refine Below.setCell ?_ ?_ _; rotate_left; focus (((repeat (with_reducible first | assumption | exact Nat.le_refl _ | refine BW.le_of ?_ | refine le_alloc ?_ | refine le_drew ?_ | refine le_drewN ?_ | refine le_set ?_ | refine le_plus ?_ | omega | refine le_setA ?_)); done))) | refine Below.drew ?_ | refine below_drewN ?_ _ | (refine below_setCells ?_ ?_ _ _; rotate_left; focus (((repeat (with_reducible first | assumption | exact Nat.le_refl _ | refine BW.le_of ?_ | refine le_alloc ?_ | refine le_drew ?_ | refine le_drewN ?_ | refine le_set ?_ | refine le_plus ?_ | omega | refine le_setA ?_)); done))))); done) | (simp; done) | (repeat (first | assumption | exact Below.refl _ _ | (refine below_bw _ ?_ ?_; rotate_left; focus ((first | omega | (repeat (first | with_reducible assumption | with_reducible exact Nat.le_refl _ | refine BW.le_of ?_ | refine le_alloc ?_ | refine le_drew ?_ | refine le_drewN ?_ | refine le_set ?_ | refine le_plus ?_ | assumption | exact Nat.le_refl _))))) | (refine Below.alloc ?_ ?_ _; rotate_left; focus ((first | omega | (repeat (first | with_reducible assumption | with_reducible exact Nat.le_refl _ | refine BW.le_of ?_ | refine le_alloc ?_ | refine le_drew ?_ | refine le_drewN ?_ | refine le_set ?_ | refine le_plus ?_ | assumption | exact Nat.le_refl _))))) | (refine Below.setCell ?_ ?_ _; rotate_left; focus ((first | omega | (repeat (first | with_reducible assumption | with_reducible exact Nat.le_refl _ | refine BW.le_of ?_ | refine le_alloc ?_ | refine le_drew ?_ | refine le_drewN ?_ | refine le_set ?_ | refine le_plus ?_ | assumption | exact Nat.le_refl _))))) | refine Below.drew ?_ | refine below_drewN ?_ _ | (refine below_setCells ?_ ?_ _ _; rotate_left; focus ((first | omega | (repeat (first | with_reducible assumption | with_reducible exact Nat.le_refl _ | refine BW.le_of ?_ | refine le_alloc ?_ | refine le_drew ?_ | refine le_drewN ?_ | refine le_set ?_ | refine le_plus ?_ | assumption | exact Nat.le_refl _))))))))⟩
theorem cut_any {s : ByteArray} {m : Nat} {w : World} : Gives Tryz.prog 5 #[.string s, .int .i64 m] w (.string (s.extract 0 m)) := by
  refine Gives.of ?_
  go_enter Tryz.func5, Tryz.ntmps5
  go_wp2
  · go_ret
    exact ⟨rfl, by simp⟩
  · go_ret
    refine ⟨congrArg (fun b => Ending.returned (.string b)) ?_, by simp⟩
    apply data_inj
    have : s.data.toList.length ≤ m := by rw [size_toList]; omega
    rw [toList_extract, List.drop_zero, Nat.sub_zero, List.take_of_length_le this]
/-- eight bits of a number, from a place on, the highest first: so many of them -/
theorem rput_any {n : Nat} {wide : Int} {w : World} (hn : n < 18446744073709551616) : Gives Tryz.prog 26 #[.int .u64 n, .int .i64 wide] w (.string (str (putL n (wn wide 8)))) := by
  refine Gives.of ?_
  have h1 := wn_le wide 8
  go_enter Tryz.func26, Tryz.ntmps26
  go_wp2_with ((with_reducible (first | apply Gives.call_bw (Nat.le_refl _) | apply Gives.call)); (focus (first | (with_reducible exact rwithin8))); intro x; (try dsimp only [drew_heap] at x))
  go_loopw [5, 6, 7, 8] (fun v i _ _ wr => ∃ (q : Nat) (L : List UInt8), q ≤ wn wide 8 ∧ L ++ putL n q = putL n (wn wide 8) ∧ i = .int .i64 ((q : Int) - 1) ∧ wr.ownsRow w.heap.size 5 1 v L.length (L.map byteV) ∧ Below w.heap.size w wr) (fun _ i _ _ _ => (intOf i + 1).toNat)
  case atStart => exact ⟨wn wide 8, [], Nat.le_refl _, rfl, rfl, ⟨rfl, .inr ⟨w.heap.size, 0, #[], rfl, Nat.le_refl _, (Row.new w 5 #[]).bw (by simp), Nat.le_refl _, by simp, rfl, rfl⟩⟩, by (first | ((repeat (with_reducible first | assumption | exact Below.refl _ _ | (refine below_bw _ ?_ ?_; rotate_left; focus (((repeat (with_reducible first | assumption | exact Nat.le_refl _ | refine BW.le_of ?_ | refine le_alloc ?_ | refine le_drew ?_ | refine le_drewN ?_ | refine le_set ?_ | refine le_plus ?_ | omega | refine le_setA ?_)); done))) | (refine Below.alloc ?_ ?_ _; rotate_left; focus (((repeat (with_reducible first | assumption | exact Nat.le_refl _ | refine BW.le_of ?_ | refine le_alloc ?_ | refine le_drew ?_ | refine le_drewN ?_ | refine le_set ?_ | refine le_plus ?_ | omega | refine le_setA ?_)); done))) | (refine Below.setCell ?_ ?_ _; rotate_left; focus (((repeat (with_reducible first | assumption | exact Nat.le_refl _ | refine BW.le_of ?_ | refine le_alloc ?_ | refine le_drew ?_ | refine le_drewN ?_ | refine le_set ?_ | refine le_plus ?_ | omega | refine le_setA ?_)); done))) | refine Below.drew ?_ | refine below_drewN ?_ _ | (refine below_setCells ?_ ?_ _ _; rotate_left; focus (((repeat (with_reducible first | assumption | exact Nat.le_refl _ | refine BW.le_of ?_ | refine le_alloc ?_ | refine le_drew ?_ | refine le_drewN ?_ | refine le_set ?_ | refine le_plus ?_ | omega | refine le_setA ?_)); done))))); done) | (simp; done) | (repeat (first | assumption | exact Below.refl _ _ | (refine below_bw _ ?_ ?_; rotate_left; focus ((first | omega | (repeat (first | with_reducible assumption | with_reducible exact Nat.le_refl _ | refine BW.le_of ?_ | refine le_alloc ?_ | refine le_drew ?_ | refine le_drewN ?_ | refine le_set ?_ | refine le_plus ?_ | assumption | exact Nat.le_refl _))))) | (refine Below.alloc ?_ ?_ _; rotate_left; focus ((first | omega | (repeat (first | with_reducible assumption | with_reducible exact Nat.le_refl _ | refine BW.le_of ?_ | refine le_alloc ?_ | refine le_drew ?_ | refine le_drewN ?_ | refine le_set ?_ | refine le_plus ?_ | assumption | exact Nat.le_refl _))))) | (refine Below.setCell ?_ ?_ _; rotate_left; focus ((first | omega | (repeat (first | with_reducible assumption | with_reducible exact Nat.le_refl _ | refine BW.le_of ?_ | refine le_alloc ?_ | refine le_drew ?_ | refine le_drewN ?_ | refine le_set ?_ | refine le_plus ?_ | assumption | exact Nat.le_refl _))))) | refine Below.drew ?_ | refine below_drewN ?_ _ | (refine below_setCells ?_ ?_ _ _; rotate_left; focus ((first | omega | (repeat (first | with_reducible assumption | with_reducible exact Nat.le_refl _ | refine BW.le_of ?_ | refine le_alloc ?_ | refine le_drew ?_ | refine le_drewN ?_ | refine le_set ?_ | refine le_plus ?_ | assumption | exact Nat.le_refl _))))))))⟩
  case round =>
    obtain ⟨q, L, hq, hL, rfl, hown, hbel⟩ := hrel
    by_cases h0 : 0 < q
    · obtain ⟨p, rfl⟩ : ∃ p, q = p + 1 := ⟨q - 1, by omega⟩
      rw [show (((p + 1 : Nat) : Int) - 1) = (p : Int) by omega]
      have hsz := hbel.size
      have HO := Lib.hid hown; clear hown
      have HL := Lib.hid hL; clear hL
      obtain ⟨wo, rfl⟩ : ∃ wo : World, wo = wr := ⟨_, rfl⟩
      go_wp2_with fail
      go_loopw [7, 8] (fun x k wi => ∃ t : Nat, t ≤ 8 ∧ k = .int .i64 (7 - (t : Int)) ∧ x = .int .u64 (lowN n (8 * p + (8 - t)) t : Int) ∧ ∃ y : BW wo.heap.size wo, wi = y.w) (fun _ k _ => (intOf k + 1).toNat)
      case atStart => exact ⟨0, by omega, rfl, by rw [lowN_zero]; rfl, BW.mk (Below.refl _ _), rfl⟩
      case round =>
        obtain ⟨t, ht, rfl, rfl, y, rfl⟩ := hrel
        by_cases hlt : t < 8
        · have hlow := lowN_lt n (8 * p + (8 - t)) t
          have hlow2 : lowN n (8 * p + (8 - t)) t < 256 := Nat.lt_of_lt_of_le hlow (Nat.pow_le_pow_right (by omega) (show t ≤ 8 by omega))
          have hbit := bitN_lt n (8 * p + (7 - t))
          clear hlow
          go_wp2_with ((with_reducible (first | apply Gives.call_bw (Nat.le_refl _) | apply Gives.call)); (focus (first | (with_reducible exact rbit_int (by assumption) (by omega)))); intro x; (try dsimp only [drew_heap] at x))
          refine ⟨⟨t + 1, by omega, by rw [show (7 - ((t + 1 : Nat) : Int)) = 7 - (t : Int) - 1 by omega], ?_, _, rfl⟩, by simp [intOf]; omega⟩
          have hup := lowN_up n (8 * p + (8 - (t + 1))) t
          rw [show 8 * p + (8 - (t + 1)) + 1 = 8 * p + (8 - t) by omega, show 8 * p + (8 - (t + 1)) = 8 * p + (7 - t) by omega] at hup
          rw [show 8 * p + (8 - (t + 1)) = 8 * p + (7 - t) by omega, hup]
          first | rfl | (congr 1; omega)
        · obtain rfl : t = 8 := by omega
          have hlow2 : lowN n (8 * p + (8 - 8)) 8 < 256 := lowN_lt _ _ 8
          have hown := own_below HO.out y.below
          have hlen : L.length ≤ 8 := by have := congrArg List.length HL.out; simp only [List.length_append, putL_length] at this; omega
          go_wp2_with (at_builtin; refine wpList_app1 elemU8 rfl _ _ rfl rfl rfl hown rfl (by omega) (by simp only [maxLen]; omega) (by have := y.below.size; omega) ?_; intro v' w' hown' hbel')
          refine ⟨⟨p, L ++ [byteAt n p], by omega, ?_, rfl, ?_, hbel.trans (y.below.mono hsz |>.trans hbel')⟩, by simp [intOf]⟩
          · rw [List.append_assoc]
            exact HL.out
          · rw [lowN_byte_mod] at hown'
            simpa [byteV] using hown'
    · obtain rfl : q = 0 := by omega
      have hL : L = putL n (wn wide 8) := by simpa [putL] using hL
      have hconv := run_str_own (P := Tryz.prog) (w := wr) (dst := 9) Tryz.underlying72 Tryz.underlying5 Tryz.underlying9 hown
      clear hown
      go_wp2
      go_ret
      exact ⟨by rw [← hL]; rfl, hbel⟩

end Go.Proofs.YtjegjgdihpihoaaGreatDoor

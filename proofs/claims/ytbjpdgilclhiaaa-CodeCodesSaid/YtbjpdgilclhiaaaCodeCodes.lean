/-
  'CodeCodes': any number's codes, which count no more than it, and the next ones more.
-/
import Derived.Test.YtbjpdgilclhiaaaCodeExact
namespace Go.Proofs.Ytbjpdgilclhiaaa
open Go.ChangeShapes Go.WideShapes Go.ChangeAt Go.RowKit
set_option linter.unusedVariables false
set_option linter.unusedSimpArgs false

set_option maxHeartbeats 8000000 in
theorem codes_core {n : Int} {a b va vb pa pb : Int} {x y : Bool} {w : World} (hn : -9223372036854775808 ≤ n ∧ n ≤ 9223372036854775807)
    (c8 : ∀ w, Gives Try.prog 13 #[.int .i64 n] w (.int .i64 a)) (c16 : ∀ w, Gives Try.prog 14 #[.int .i64 n] w (.int .i64 b))
    (r8 : ∀ w, Gives Try.prog 15 #[.int .i64 n] w (.int .i64 a)) (r16 : ∀ w, Gives Try.prog 16 #[.int .i64 n] w (.int .i64 b))
    (v8 : ∀ w, Gives Try.prog 9 #[.int .i64 a] w (.int .i64 va)) (v16 : ∀ w, Gives Try.prog 10 #[.int .i64 b] w (.int .i64 vb))
    (p8 : ∀ w, Gives Try.prog 9 #[.int .i64 (a + 1)] w (.int .i64 pa)) (p16 : ∀ w, Gives Try.prog 10 #[.int .i64 (b + 1)] w (.int .i64 pb))
    (x8 : ∀ w, Gives Try.prog 11 #[.int .i64 n] w (.bool x)) (x16 : ∀ w, Gives Try.prog 12 #[.int .i64 n] w (.bool y))
    (ha : 0 ≤ a ∧ a ≤ 255) (hb : 0 ≤ b ∧ b ≤ 65535) (hva : 0 ≤ n → va ≤ n) (hvb : 0 ≤ n → vb ≤ n) (hpa : 0 ≤ n → a < 255 → n < pa) (hpb : 0 ≤ n → b < 65535 → n < pb)
    (hx : x = true ↔ 0 ≤ n ∧ va = n) (hy : y = true ↔ 0 ≤ n ∧ vb = n) : Gives Try.prog 5 #[.int .i64 n] w (.bool true) := by
  refine Gives.of ?_
  by_cases h0 : n < 0
  · obtain rfl : x = false := by cases x <;> simp_all <;> omega
    obtain rfl : y = false := by cases y <;> simp_all <;> omega
    clear hva hvb hpa hpb hx hy p8 p16 v8 v16
    go_enter Try.func5, Try.ntmps5
    go_wp2_with ((with_reducible (first | apply Gives.call_bw (Nat.le_refl _) | apply Gives.call)); (focus (first | (with_reducible exact c8 _) | (with_reducible exact c16 _) | (with_reducible exact r8 _) | (with_reducible exact r16 _) | (with_reducible exact v8 _) | (with_reducible exact v16 _) | (with_reducible exact p8 _) | (with_reducible exact p16 _) | (with_reducible exact x8 _) | (with_reducible exact x16 _) | (with_reducible exact lives07_any))); intro x)
    all_goals first | (exfalso; omega) | (go_ret; exact ⟨rfl, by (first | (simp; done) | (repeat (first | assumption | exact Below.refl _ _ | (refine below_bw _ ?_ ?_; rotate_left; focus ((first | omega | (repeat (first | assumption | exact Nat.le_refl _ | refine BW.le_of ?_ | refine le_alloc ?_ | refine le_drew ?_ | refine le_drewN ?_ | refine le_set ?_ | refine le_plus ?_ ))))) | (refine Below.alloc ?_ ?_ _; rotate_left; focus ((first | omega | (repeat (first | assumption | exact Nat.le_refl _ | refine BW.le_of ?_ | refine le_alloc ?_ | refine le_drew ?_ | refine le_drewN ?_ | refine le_set ?_ | refine le_plus ?_ ))))) | (refine Below.setCell ?_ ?_ _; rotate_left; focus ((first | omega | (repeat (first | assumption | exact Nat.le_refl _ | refine BW.le_of ?_ | refine le_alloc ?_ | refine le_drew ?_ | refine le_drewN ?_ | refine le_set ?_ | refine le_plus ?_ ))))) | refine Below.drew ?_ | refine below_drewN ?_ _)))⟩)
  have h0 : 0 ≤ n := by omega
  replace hva := hva h0
  replace hvb := hvb h0
  replace hpa := hpa h0
  replace hpb := hpb h0
  by_cases k0 : a < 255
  · replace hpa := hpa k0
    by_cases k1 : b < 65535
    · replace hpb := hpb k1
      by_cases k2 : va = n
      · obtain rfl : x = true := by first | exact hx.2 ⟨h0, k2⟩ | (cases x <;> simp_all)
        clear hx
        rw [k2] at v8 hva
        by_cases k3 : vb = n
        · obtain rfl : y = true := by first | exact hy.2 ⟨h0, k3⟩ | (cases y <;> simp_all)
          clear hy
          rw [k3] at v16 hvb
          go_enter Try.func5, Try.ntmps5
          go_wp2_with ((with_reducible (first | apply Gives.call_bw (Nat.le_refl _) | apply Gives.call)); (focus (first | (with_reducible exact c8 _) | (with_reducible exact c16 _) | (with_reducible exact r8 _) | (with_reducible exact r16 _) | (with_reducible exact v8 _) | (with_reducible exact v16 _) | (with_reducible exact p8 _) | (with_reducible exact p16 _) | (with_reducible exact x8 _) | (with_reducible exact x16 _) | (with_reducible exact lives07_any))); intro x)
          all_goals first | (exfalso; omega) | (go_ret; exact ⟨rfl, by (first | (simp; done) | (repeat (first | assumption | exact Below.refl _ _ | (refine below_bw _ ?_ ?_; rotate_left; focus ((first | omega | (repeat (first | assumption | exact Nat.le_refl _ | refine BW.le_of ?_ | refine le_alloc ?_ | refine le_drew ?_ | refine le_drewN ?_ | refine le_set ?_ | refine le_plus ?_ ))))) | (refine Below.alloc ?_ ?_ _; rotate_left; focus ((first | omega | (repeat (first | assumption | exact Nat.le_refl _ | refine BW.le_of ?_ | refine le_alloc ?_ | refine le_drew ?_ | refine le_drewN ?_ | refine le_set ?_ | refine le_plus ?_ ))))) | (refine Below.setCell ?_ ?_ _; rotate_left; focus ((first | omega | (repeat (first | assumption | exact Nat.le_refl _ | refine BW.le_of ?_ | refine le_alloc ?_ | refine le_drew ?_ | refine le_drewN ?_ | refine le_set ?_ | refine le_plus ?_ ))))) | refine Below.drew ?_ | refine below_drewN ?_ _)))⟩)
        · obtain rfl : y = false := by first | exact hy.2 ⟨h0, k3⟩ | (cases y <;> simp_all)
          clear hy
          go_enter Try.func5, Try.ntmps5
          go_wp2_with ((with_reducible (first | apply Gives.call_bw (Nat.le_refl _) | apply Gives.call)); (focus (first | (with_reducible exact c8 _) | (with_reducible exact c16 _) | (with_reducible exact r8 _) | (with_reducible exact r16 _) | (with_reducible exact v8 _) | (with_reducible exact v16 _) | (with_reducible exact p8 _) | (with_reducible exact p16 _) | (with_reducible exact x8 _) | (with_reducible exact x16 _) | (with_reducible exact lives07_any))); intro x)
          all_goals first | (exfalso; omega) | (go_ret; exact ⟨rfl, by (first | (simp; done) | (repeat (first | assumption | exact Below.refl _ _ | (refine below_bw _ ?_ ?_; rotate_left; focus ((first | omega | (repeat (first | assumption | exact Nat.le_refl _ | refine BW.le_of ?_ | refine le_alloc ?_ | refine le_drew ?_ | refine le_drewN ?_ | refine le_set ?_ | refine le_plus ?_ ))))) | (refine Below.alloc ?_ ?_ _; rotate_left; focus ((first | omega | (repeat (first | assumption | exact Nat.le_refl _ | refine BW.le_of ?_ | refine le_alloc ?_ | refine le_drew ?_ | refine le_drewN ?_ | refine le_set ?_ | refine le_plus ?_ ))))) | (refine Below.setCell ?_ ?_ _; rotate_left; focus ((first | omega | (repeat (first | assumption | exact Nat.le_refl _ | refine BW.le_of ?_ | refine le_alloc ?_ | refine le_drew ?_ | refine le_drewN ?_ | refine le_set ?_ | refine le_plus ?_ ))))) | refine Below.drew ?_ | refine below_drewN ?_ _)))⟩)
      · obtain rfl : x = false := by first | exact hx.2 ⟨h0, k2⟩ | (cases x <;> simp_all)
        clear hx
        by_cases k3 : vb = n
        · obtain rfl : y = true := by first | exact hy.2 ⟨h0, k3⟩ | (cases y <;> simp_all)
          clear hy
          rw [k3] at v16 hvb
          go_enter Try.func5, Try.ntmps5
          go_wp2_with ((with_reducible (first | apply Gives.call_bw (Nat.le_refl _) | apply Gives.call)); (focus (first | (with_reducible exact c8 _) | (with_reducible exact c16 _) | (with_reducible exact r8 _) | (with_reducible exact r16 _) | (with_reducible exact v8 _) | (with_reducible exact v16 _) | (with_reducible exact p8 _) | (with_reducible exact p16 _) | (with_reducible exact x8 _) | (with_reducible exact x16 _) | (with_reducible exact lives07_any))); intro x)
          all_goals first | (exfalso; omega) | (go_ret; exact ⟨rfl, by (first | (simp; done) | (repeat (first | assumption | exact Below.refl _ _ | (refine below_bw _ ?_ ?_; rotate_left; focus ((first | omega | (repeat (first | assumption | exact Nat.le_refl _ | refine BW.le_of ?_ | refine le_alloc ?_ | refine le_drew ?_ | refine le_drewN ?_ | refine le_set ?_ | refine le_plus ?_ ))))) | (refine Below.alloc ?_ ?_ _; rotate_left; focus ((first | omega | (repeat (first | assumption | exact Nat.le_refl _ | refine BW.le_of ?_ | refine le_alloc ?_ | refine le_drew ?_ | refine le_drewN ?_ | refine le_set ?_ | refine le_plus ?_ ))))) | (refine Below.setCell ?_ ?_ _; rotate_left; focus ((first | omega | (repeat (first | assumption | exact Nat.le_refl _ | refine BW.le_of ?_ | refine le_alloc ?_ | refine le_drew ?_ | refine le_drewN ?_ | refine le_set ?_ | refine le_plus ?_ ))))) | refine Below.drew ?_ | refine below_drewN ?_ _)))⟩)
        · obtain rfl : y = false := by first | exact hy.2 ⟨h0, k3⟩ | (cases y <;> simp_all)
          clear hy
          go_enter Try.func5, Try.ntmps5
          go_wp2_with ((with_reducible (first | apply Gives.call_bw (Nat.le_refl _) | apply Gives.call)); (focus (first | (with_reducible exact c8 _) | (with_reducible exact c16 _) | (with_reducible exact r8 _) | (with_reducible exact r16 _) | (with_reducible exact v8 _) | (with_reducible exact v16 _) | (with_reducible exact p8 _) | (with_reducible exact p16 _) | (with_reducible exact x8 _) | (with_reducible exact x16 _) | (with_reducible exact lives07_any))); intro x)
          all_goals first | (exfalso; omega) | (go_ret; exact ⟨rfl, by (first | (simp; done) | (repeat (first | assumption | exact Below.refl _ _ | (refine below_bw _ ?_ ?_; rotate_left; focus ((first | omega | (repeat (first | assumption | exact Nat.le_refl _ | refine BW.le_of ?_ | refine le_alloc ?_ | refine le_drew ?_ | refine le_drewN ?_ | refine le_set ?_ | refine le_plus ?_ ))))) | (refine Below.alloc ?_ ?_ _; rotate_left; focus ((first | omega | (repeat (first | assumption | exact Nat.le_refl _ | refine BW.le_of ?_ | refine le_alloc ?_ | refine le_drew ?_ | refine le_drewN ?_ | refine le_set ?_ | refine le_plus ?_ ))))) | (refine Below.setCell ?_ ?_ _; rotate_left; focus ((first | omega | (repeat (first | assumption | exact Nat.le_refl _ | refine BW.le_of ?_ | refine le_alloc ?_ | refine le_drew ?_ | refine le_drewN ?_ | refine le_set ?_ | refine le_plus ?_ ))))) | refine Below.drew ?_ | refine below_drewN ?_ _)))⟩)
    · clear hpb
      by_cases k2 : va = n
      · obtain rfl : x = true := by first | exact hx.2 ⟨h0, k2⟩ | (cases x <;> simp_all)
        clear hx
        rw [k2] at v8 hva
        by_cases k3 : vb = n
        · obtain rfl : y = true := by first | exact hy.2 ⟨h0, k3⟩ | (cases y <;> simp_all)
          clear hy
          rw [k3] at v16 hvb
          go_enter Try.func5, Try.ntmps5
          go_wp2_with ((with_reducible (first | apply Gives.call_bw (Nat.le_refl _) | apply Gives.call)); (focus (first | (with_reducible exact c8 _) | (with_reducible exact c16 _) | (with_reducible exact r8 _) | (with_reducible exact r16 _) | (with_reducible exact v8 _) | (with_reducible exact v16 _) | (with_reducible exact p8 _) | (with_reducible exact p16 _) | (with_reducible exact x8 _) | (with_reducible exact x16 _) | (with_reducible exact lives07_any))); intro x)
          all_goals first | (exfalso; omega) | (go_ret; exact ⟨rfl, by (first | (simp; done) | (repeat (first | assumption | exact Below.refl _ _ | (refine below_bw _ ?_ ?_; rotate_left; focus ((first | omega | (repeat (first | assumption | exact Nat.le_refl _ | refine BW.le_of ?_ | refine le_alloc ?_ | refine le_drew ?_ | refine le_drewN ?_ | refine le_set ?_ | refine le_plus ?_ ))))) | (refine Below.alloc ?_ ?_ _; rotate_left; focus ((first | omega | (repeat (first | assumption | exact Nat.le_refl _ | refine BW.le_of ?_ | refine le_alloc ?_ | refine le_drew ?_ | refine le_drewN ?_ | refine le_set ?_ | refine le_plus ?_ ))))) | (refine Below.setCell ?_ ?_ _; rotate_left; focus ((first | omega | (repeat (first | assumption | exact Nat.le_refl _ | refine BW.le_of ?_ | refine le_alloc ?_ | refine le_drew ?_ | refine le_drewN ?_ | refine le_set ?_ | refine le_plus ?_ ))))) | refine Below.drew ?_ | refine below_drewN ?_ _)))⟩)
        · obtain rfl : y = false := by first | exact hy.2 ⟨h0, k3⟩ | (cases y <;> simp_all)
          clear hy
          go_enter Try.func5, Try.ntmps5
          go_wp2_with ((with_reducible (first | apply Gives.call_bw (Nat.le_refl _) | apply Gives.call)); (focus (first | (with_reducible exact c8 _) | (with_reducible exact c16 _) | (with_reducible exact r8 _) | (with_reducible exact r16 _) | (with_reducible exact v8 _) | (with_reducible exact v16 _) | (with_reducible exact p8 _) | (with_reducible exact p16 _) | (with_reducible exact x8 _) | (with_reducible exact x16 _) | (with_reducible exact lives07_any))); intro x)
          all_goals first | (exfalso; omega) | (go_ret; exact ⟨rfl, by (first | (simp; done) | (repeat (first | assumption | exact Below.refl _ _ | (refine below_bw _ ?_ ?_; rotate_left; focus ((first | omega | (repeat (first | assumption | exact Nat.le_refl _ | refine BW.le_of ?_ | refine le_alloc ?_ | refine le_drew ?_ | refine le_drewN ?_ | refine le_set ?_ | refine le_plus ?_ ))))) | (refine Below.alloc ?_ ?_ _; rotate_left; focus ((first | omega | (repeat (first | assumption | exact Nat.le_refl _ | refine BW.le_of ?_ | refine le_alloc ?_ | refine le_drew ?_ | refine le_drewN ?_ | refine le_set ?_ | refine le_plus ?_ ))))) | (refine Below.setCell ?_ ?_ _; rotate_left; focus ((first | omega | (repeat (first | assumption | exact Nat.le_refl _ | refine BW.le_of ?_ | refine le_alloc ?_ | refine le_drew ?_ | refine le_drewN ?_ | refine le_set ?_ | refine le_plus ?_ ))))) | refine Below.drew ?_ | refine below_drewN ?_ _)))⟩)
      · obtain rfl : x = false := by first | exact hx.2 ⟨h0, k2⟩ | (cases x <;> simp_all)
        clear hx
        by_cases k3 : vb = n
        · obtain rfl : y = true := by first | exact hy.2 ⟨h0, k3⟩ | (cases y <;> simp_all)
          clear hy
          rw [k3] at v16 hvb
          go_enter Try.func5, Try.ntmps5
          go_wp2_with ((with_reducible (first | apply Gives.call_bw (Nat.le_refl _) | apply Gives.call)); (focus (first | (with_reducible exact c8 _) | (with_reducible exact c16 _) | (with_reducible exact r8 _) | (with_reducible exact r16 _) | (with_reducible exact v8 _) | (with_reducible exact v16 _) | (with_reducible exact p8 _) | (with_reducible exact p16 _) | (with_reducible exact x8 _) | (with_reducible exact x16 _) | (with_reducible exact lives07_any))); intro x)
          all_goals first | (exfalso; omega) | (go_ret; exact ⟨rfl, by (first | (simp; done) | (repeat (first | assumption | exact Below.refl _ _ | (refine below_bw _ ?_ ?_; rotate_left; focus ((first | omega | (repeat (first | assumption | exact Nat.le_refl _ | refine BW.le_of ?_ | refine le_alloc ?_ | refine le_drew ?_ | refine le_drewN ?_ | refine le_set ?_ | refine le_plus ?_ ))))) | (refine Below.alloc ?_ ?_ _; rotate_left; focus ((first | omega | (repeat (first | assumption | exact Nat.le_refl _ | refine BW.le_of ?_ | refine le_alloc ?_ | refine le_drew ?_ | refine le_drewN ?_ | refine le_set ?_ | refine le_plus ?_ ))))) | (refine Below.setCell ?_ ?_ _; rotate_left; focus ((first | omega | (repeat (first | assumption | exact Nat.le_refl _ | refine BW.le_of ?_ | refine le_alloc ?_ | refine le_drew ?_ | refine le_drewN ?_ | refine le_set ?_ | refine le_plus ?_ ))))) | refine Below.drew ?_ | refine below_drewN ?_ _)))⟩)
        · obtain rfl : y = false := by first | exact hy.2 ⟨h0, k3⟩ | (cases y <;> simp_all)
          clear hy
          go_enter Try.func5, Try.ntmps5
          go_wp2_with ((with_reducible (first | apply Gives.call_bw (Nat.le_refl _) | apply Gives.call)); (focus (first | (with_reducible exact c8 _) | (with_reducible exact c16 _) | (with_reducible exact r8 _) | (with_reducible exact r16 _) | (with_reducible exact v8 _) | (with_reducible exact v16 _) | (with_reducible exact p8 _) | (with_reducible exact p16 _) | (with_reducible exact x8 _) | (with_reducible exact x16 _) | (with_reducible exact lives07_any))); intro x)
          all_goals first | (exfalso; omega) | (go_ret; exact ⟨rfl, by (first | (simp; done) | (repeat (first | assumption | exact Below.refl _ _ | (refine below_bw _ ?_ ?_; rotate_left; focus ((first | omega | (repeat (first | assumption | exact Nat.le_refl _ | refine BW.le_of ?_ | refine le_alloc ?_ | refine le_drew ?_ | refine le_drewN ?_ | refine le_set ?_ | refine le_plus ?_ ))))) | (refine Below.alloc ?_ ?_ _; rotate_left; focus ((first | omega | (repeat (first | assumption | exact Nat.le_refl _ | refine BW.le_of ?_ | refine le_alloc ?_ | refine le_drew ?_ | refine le_drewN ?_ | refine le_set ?_ | refine le_plus ?_ ))))) | (refine Below.setCell ?_ ?_ _; rotate_left; focus ((first | omega | (repeat (first | assumption | exact Nat.le_refl _ | refine BW.le_of ?_ | refine le_alloc ?_ | refine le_drew ?_ | refine le_drewN ?_ | refine le_set ?_ | refine le_plus ?_ ))))) | refine Below.drew ?_ | refine below_drewN ?_ _)))⟩)
  · clear hpa
    by_cases k1 : b < 65535
    · replace hpb := hpb k1
      by_cases k2 : va = n
      · obtain rfl : x = true := by first | exact hx.2 ⟨h0, k2⟩ | (cases x <;> simp_all)
        clear hx
        rw [k2] at v8 hva
        by_cases k3 : vb = n
        · obtain rfl : y = true := by first | exact hy.2 ⟨h0, k3⟩ | (cases y <;> simp_all)
          clear hy
          rw [k3] at v16 hvb
          go_enter Try.func5, Try.ntmps5
          go_wp2_with ((with_reducible (first | apply Gives.call_bw (Nat.le_refl _) | apply Gives.call)); (focus (first | (with_reducible exact c8 _) | (with_reducible exact c16 _) | (with_reducible exact r8 _) | (with_reducible exact r16 _) | (with_reducible exact v8 _) | (with_reducible exact v16 _) | (with_reducible exact p8 _) | (with_reducible exact p16 _) | (with_reducible exact x8 _) | (with_reducible exact x16 _) | (with_reducible exact lives07_any))); intro x)
          all_goals first | (exfalso; omega) | (go_ret; exact ⟨rfl, by (first | (simp; done) | (repeat (first | assumption | exact Below.refl _ _ | (refine below_bw _ ?_ ?_; rotate_left; focus ((first | omega | (repeat (first | assumption | exact Nat.le_refl _ | refine BW.le_of ?_ | refine le_alloc ?_ | refine le_drew ?_ | refine le_drewN ?_ | refine le_set ?_ | refine le_plus ?_ ))))) | (refine Below.alloc ?_ ?_ _; rotate_left; focus ((first | omega | (repeat (first | assumption | exact Nat.le_refl _ | refine BW.le_of ?_ | refine le_alloc ?_ | refine le_drew ?_ | refine le_drewN ?_ | refine le_set ?_ | refine le_plus ?_ ))))) | (refine Below.setCell ?_ ?_ _; rotate_left; focus ((first | omega | (repeat (first | assumption | exact Nat.le_refl _ | refine BW.le_of ?_ | refine le_alloc ?_ | refine le_drew ?_ | refine le_drewN ?_ | refine le_set ?_ | refine le_plus ?_ ))))) | refine Below.drew ?_ | refine below_drewN ?_ _)))⟩)
        · obtain rfl : y = false := by first | exact hy.2 ⟨h0, k3⟩ | (cases y <;> simp_all)
          clear hy
          go_enter Try.func5, Try.ntmps5
          go_wp2_with ((with_reducible (first | apply Gives.call_bw (Nat.le_refl _) | apply Gives.call)); (focus (first | (with_reducible exact c8 _) | (with_reducible exact c16 _) | (with_reducible exact r8 _) | (with_reducible exact r16 _) | (with_reducible exact v8 _) | (with_reducible exact v16 _) | (with_reducible exact p8 _) | (with_reducible exact p16 _) | (with_reducible exact x8 _) | (with_reducible exact x16 _) | (with_reducible exact lives07_any))); intro x)
          all_goals first | (exfalso; omega) | (go_ret; exact ⟨rfl, by (first | (simp; done) | (repeat (first | assumption | exact Below.refl _ _ | (refine below_bw _ ?_ ?_; rotate_left; focus ((first | omega | (repeat (first | assumption | exact Nat.le_refl _ | refine BW.le_of ?_ | refine le_alloc ?_ | refine le_drew ?_ | refine le_drewN ?_ | refine le_set ?_ | refine le_plus ?_ ))))) | (refine Below.alloc ?_ ?_ _; rotate_left; focus ((first | omega | (repeat (first | assumption | exact Nat.le_refl _ | refine BW.le_of ?_ | refine le_alloc ?_ | refine le_drew ?_ | refine le_drewN ?_ | refine le_set ?_ | refine le_plus ?_ ))))) | (refine Below.setCell ?_ ?_ _; rotate_left; focus ((first | omega | (repeat (first | assumption | exact Nat.le_refl _ | refine BW.le_of ?_ | refine le_alloc ?_ | refine le_drew ?_ | refine le_drewN ?_ | refine le_set ?_ | refine le_plus ?_ ))))) | refine Below.drew ?_ | refine below_drewN ?_ _)))⟩)
      · obtain rfl : x = false := by first | exact hx.2 ⟨h0, k2⟩ | (cases x <;> simp_all)
        clear hx
        by_cases k3 : vb = n
        · obtain rfl : y = true := by first | exact hy.2 ⟨h0, k3⟩ | (cases y <;> simp_all)
          clear hy
          rw [k3] at v16 hvb
          go_enter Try.func5, Try.ntmps5
          go_wp2_with ((with_reducible (first | apply Gives.call_bw (Nat.le_refl _) | apply Gives.call)); (focus (first | (with_reducible exact c8 _) | (with_reducible exact c16 _) | (with_reducible exact r8 _) | (with_reducible exact r16 _) | (with_reducible exact v8 _) | (with_reducible exact v16 _) | (with_reducible exact p8 _) | (with_reducible exact p16 _) | (with_reducible exact x8 _) | (with_reducible exact x16 _) | (with_reducible exact lives07_any))); intro x)
          all_goals first | (exfalso; omega) | (go_ret; exact ⟨rfl, by (first | (simp; done) | (repeat (first | assumption | exact Below.refl _ _ | (refine below_bw _ ?_ ?_; rotate_left; focus ((first | omega | (repeat (first | assumption | exact Nat.le_refl _ | refine BW.le_of ?_ | refine le_alloc ?_ | refine le_drew ?_ | refine le_drewN ?_ | refine le_set ?_ | refine le_plus ?_ ))))) | (refine Below.alloc ?_ ?_ _; rotate_left; focus ((first | omega | (repeat (first | assumption | exact Nat.le_refl _ | refine BW.le_of ?_ | refine le_alloc ?_ | refine le_drew ?_ | refine le_drewN ?_ | refine le_set ?_ | refine le_plus ?_ ))))) | (refine Below.setCell ?_ ?_ _; rotate_left; focus ((first | omega | (repeat (first | assumption | exact Nat.le_refl _ | refine BW.le_of ?_ | refine le_alloc ?_ | refine le_drew ?_ | refine le_drewN ?_ | refine le_set ?_ | refine le_plus ?_ ))))) | refine Below.drew ?_ | refine below_drewN ?_ _)))⟩)
        · obtain rfl : y = false := by first | exact hy.2 ⟨h0, k3⟩ | (cases y <;> simp_all)
          clear hy
          go_enter Try.func5, Try.ntmps5
          go_wp2_with ((with_reducible (first | apply Gives.call_bw (Nat.le_refl _) | apply Gives.call)); (focus (first | (with_reducible exact c8 _) | (with_reducible exact c16 _) | (with_reducible exact r8 _) | (with_reducible exact r16 _) | (with_reducible exact v8 _) | (with_reducible exact v16 _) | (with_reducible exact p8 _) | (with_reducible exact p16 _) | (with_reducible exact x8 _) | (with_reducible exact x16 _) | (with_reducible exact lives07_any))); intro x)
          all_goals first | (exfalso; omega) | (go_ret; exact ⟨rfl, by (first | (simp; done) | (repeat (first | assumption | exact Below.refl _ _ | (refine below_bw _ ?_ ?_; rotate_left; focus ((first | omega | (repeat (first | assumption | exact Nat.le_refl _ | refine BW.le_of ?_ | refine le_alloc ?_ | refine le_drew ?_ | refine le_drewN ?_ | refine le_set ?_ | refine le_plus ?_ ))))) | (refine Below.alloc ?_ ?_ _; rotate_left; focus ((first | omega | (repeat (first | assumption | exact Nat.le_refl _ | refine BW.le_of ?_ | refine le_alloc ?_ | refine le_drew ?_ | refine le_drewN ?_ | refine le_set ?_ | refine le_plus ?_ ))))) | (refine Below.setCell ?_ ?_ _; rotate_left; focus ((first | omega | (repeat (first | assumption | exact Nat.le_refl _ | refine BW.le_of ?_ | refine le_alloc ?_ | refine le_drew ?_ | refine le_drewN ?_ | refine le_set ?_ | refine le_plus ?_ ))))) | refine Below.drew ?_ | refine below_drewN ?_ _)))⟩)
    · clear hpb
      by_cases k2 : va = n
      · obtain rfl : x = true := by first | exact hx.2 ⟨h0, k2⟩ | (cases x <;> simp_all)
        clear hx
        rw [k2] at v8 hva
        by_cases k3 : vb = n
        · obtain rfl : y = true := by first | exact hy.2 ⟨h0, k3⟩ | (cases y <;> simp_all)
          clear hy
          rw [k3] at v16 hvb
          go_enter Try.func5, Try.ntmps5
          go_wp2_with ((with_reducible (first | apply Gives.call_bw (Nat.le_refl _) | apply Gives.call)); (focus (first | (with_reducible exact c8 _) | (with_reducible exact c16 _) | (with_reducible exact r8 _) | (with_reducible exact r16 _) | (with_reducible exact v8 _) | (with_reducible exact v16 _) | (with_reducible exact p8 _) | (with_reducible exact p16 _) | (with_reducible exact x8 _) | (with_reducible exact x16 _) | (with_reducible exact lives07_any))); intro x)
          all_goals first | (exfalso; omega) | (go_ret; exact ⟨rfl, by (first | (simp; done) | (repeat (first | assumption | exact Below.refl _ _ | (refine below_bw _ ?_ ?_; rotate_left; focus ((first | omega | (repeat (first | assumption | exact Nat.le_refl _ | refine BW.le_of ?_ | refine le_alloc ?_ | refine le_drew ?_ | refine le_drewN ?_ | refine le_set ?_ | refine le_plus ?_ ))))) | (refine Below.alloc ?_ ?_ _; rotate_left; focus ((first | omega | (repeat (first | assumption | exact Nat.le_refl _ | refine BW.le_of ?_ | refine le_alloc ?_ | refine le_drew ?_ | refine le_drewN ?_ | refine le_set ?_ | refine le_plus ?_ ))))) | (refine Below.setCell ?_ ?_ _; rotate_left; focus ((first | omega | (repeat (first | assumption | exact Nat.le_refl _ | refine BW.le_of ?_ | refine le_alloc ?_ | refine le_drew ?_ | refine le_drewN ?_ | refine le_set ?_ | refine le_plus ?_ ))))) | refine Below.drew ?_ | refine below_drewN ?_ _)))⟩)
        · obtain rfl : y = false := by first | exact hy.2 ⟨h0, k3⟩ | (cases y <;> simp_all)
          clear hy
          go_enter Try.func5, Try.ntmps5
          go_wp2_with ((with_reducible (first | apply Gives.call_bw (Nat.le_refl _) | apply Gives.call)); (focus (first | (with_reducible exact c8 _) | (with_reducible exact c16 _) | (with_reducible exact r8 _) | (with_reducible exact r16 _) | (with_reducible exact v8 _) | (with_reducible exact v16 _) | (with_reducible exact p8 _) | (with_reducible exact p16 _) | (with_reducible exact x8 _) | (with_reducible exact x16 _) | (with_reducible exact lives07_any))); intro x)
          all_goals first | (exfalso; omega) | (go_ret; exact ⟨rfl, by (first | (simp; done) | (repeat (first | assumption | exact Below.refl _ _ | (refine below_bw _ ?_ ?_; rotate_left; focus ((first | omega | (repeat (first | assumption | exact Nat.le_refl _ | refine BW.le_of ?_ | refine le_alloc ?_ | refine le_drew ?_ | refine le_drewN ?_ | refine le_set ?_ | refine le_plus ?_ ))))) | (refine Below.alloc ?_ ?_ _; rotate_left; focus ((first | omega | (repeat (first | assumption | exact Nat.le_refl _ | refine BW.le_of ?_ | refine le_alloc ?_ | refine le_drew ?_ | refine le_drewN ?_ | refine le_set ?_ | refine le_plus ?_ ))))) | (refine Below.setCell ?_ ?_ _; rotate_left; focus ((first | omega | (repeat (first | assumption | exact Nat.le_refl _ | refine BW.le_of ?_ | refine le_alloc ?_ | refine le_drew ?_ | refine le_drewN ?_ | refine le_set ?_ | refine le_plus ?_ ))))) | refine Below.drew ?_ | refine below_drewN ?_ _)))⟩)
      · obtain rfl : x = false := by first | exact hx.2 ⟨h0, k2⟩ | (cases x <;> simp_all)
        clear hx
        by_cases k3 : vb = n
        · obtain rfl : y = true := by first | exact hy.2 ⟨h0, k3⟩ | (cases y <;> simp_all)
          clear hy
          rw [k3] at v16 hvb
          go_enter Try.func5, Try.ntmps5
          go_wp2_with ((with_reducible (first | apply Gives.call_bw (Nat.le_refl _) | apply Gives.call)); (focus (first | (with_reducible exact c8 _) | (with_reducible exact c16 _) | (with_reducible exact r8 _) | (with_reducible exact r16 _) | (with_reducible exact v8 _) | (with_reducible exact v16 _) | (with_reducible exact p8 _) | (with_reducible exact p16 _) | (with_reducible exact x8 _) | (with_reducible exact x16 _) | (with_reducible exact lives07_any))); intro x)
          all_goals first | (exfalso; omega) | (go_ret; exact ⟨rfl, by (first | (simp; done) | (repeat (first | assumption | exact Below.refl _ _ | (refine below_bw _ ?_ ?_; rotate_left; focus ((first | omega | (repeat (first | assumption | exact Nat.le_refl _ | refine BW.le_of ?_ | refine le_alloc ?_ | refine le_drew ?_ | refine le_drewN ?_ | refine le_set ?_ | refine le_plus ?_ ))))) | (refine Below.alloc ?_ ?_ _; rotate_left; focus ((first | omega | (repeat (first | assumption | exact Nat.le_refl _ | refine BW.le_of ?_ | refine le_alloc ?_ | refine le_drew ?_ | refine le_drewN ?_ | refine le_set ?_ | refine le_plus ?_ ))))) | (refine Below.setCell ?_ ?_ _; rotate_left; focus ((first | omega | (repeat (first | assumption | exact Nat.le_refl _ | refine BW.le_of ?_ | refine le_alloc ?_ | refine le_drew ?_ | refine le_drewN ?_ | refine le_set ?_ | refine le_plus ?_ ))))) | refine Below.drew ?_ | refine below_drewN ?_ _)))⟩)
        · obtain rfl : y = false := by first | exact hy.2 ⟨h0, k3⟩ | (cases y <;> simp_all)
          clear hy
          go_enter Try.func5, Try.ntmps5
          go_wp2_with ((with_reducible (first | apply Gives.call_bw (Nat.le_refl _) | apply Gives.call)); (focus (first | (with_reducible exact c8 _) | (with_reducible exact c16 _) | (with_reducible exact r8 _) | (with_reducible exact r16 _) | (with_reducible exact v8 _) | (with_reducible exact v16 _) | (with_reducible exact p8 _) | (with_reducible exact p16 _) | (with_reducible exact x8 _) | (with_reducible exact x16 _) | (with_reducible exact lives07_any))); intro x)
          all_goals first | (exfalso; omega) | (go_ret; exact ⟨rfl, by (first | (simp; done) | (repeat (first | assumption | exact Below.refl _ _ | (refine below_bw _ ?_ ?_; rotate_left; focus ((first | omega | (repeat (first | assumption | exact Nat.le_refl _ | refine BW.le_of ?_ | refine le_alloc ?_ | refine le_drew ?_ | refine le_drewN ?_ | refine le_set ?_ | refine le_plus ?_ ))))) | (refine Below.alloc ?_ ?_ _; rotate_left; focus ((first | omega | (repeat (first | assumption | exact Nat.le_refl _ | refine BW.le_of ?_ | refine le_alloc ?_ | refine le_drew ?_ | refine le_drewN ?_ | refine le_set ?_ | refine le_plus ?_ ))))) | (refine Below.setCell ?_ ?_ _; rotate_left; focus ((first | omega | (repeat (first | assumption | exact Nat.le_refl _ | refine BW.le_of ?_ | refine le_alloc ?_ | refine le_drew ?_ | refine le_drewN ?_ | refine le_set ?_ | refine le_plus ?_ ))))) | refine Below.drew ?_ | refine below_drewN ?_ _)))⟩)
theorem codes_walk {n : Int} {w : World} (hn : -9223372036854775808 ≤ n ∧ n ≤ 9223372036854775807) : Gives Try.prog 5 #[.int .i64 n] w (.bool true) := by
  obtain ⟨a, ia⟩ := exists_code 16 (by omega) n.toNat
  obtain ⟨b, ib⟩ := exists_code 4096 (by omega) n.toNat
  have ha : a ≤ 255 := by have := ia.1; omega
  have hb : b ≤ 65535 := by have := ib.1; omega
  have v8 : ∀ w, Gives Try.prog 9 #[.int .i64 a] w (.int .i64 (valN 16 a : Int)) := fun w => by
    have h := rValue8_any (c := (a : Int)) (w := w)
    rwa [clampN_in ha] at h
  have v16 : ∀ w, Gives Try.prog 10 #[.int .i64 b] w (.int .i64 (valN 4096 b : Int)) := fun w => by
    have h := rValue16_any (c := (b : Int)) (w := w)
    rwa [clampN_in hb] at h
  refine codes_core hn (fun _ => Code8_any ia) (fun _ => Code16_any ib) (fun _ => rCode8_any ia hn) (fun _ => rCode16_any ib hn) v8 v16 (fun _ => rValue8_any) (fun _ => rValue16_any)
    (x := decide (0 ≤ n ∧ (valN 16 a : Int) = n)) (y := decide (0 ≤ n ∧ (valN 4096 b : Int) = n)) ?_ ?_ (by omega) (by omega) ?_ ?_ ?_ ?_ (by simp) (by simp)
  · intro w
    by_cases h : 0 ≤ n
    · have e := Exact8_pos (w := w) h ia
      rwa [show ((valN 16 a : Int) == n) = decide (0 ≤ n ∧ (valN 16 a : Int) = n) by rw [Bool.eq_iff_iff]; simp [h]] at e
    · have e := Exact8_neg (n := n) (w := w) (by omega)
      rwa [show false = decide (0 ≤ n ∧ (valN 16 a : Int) = n) by symm; simp [h]] at e
  · intro w
    by_cases h : 0 ≤ n
    · have e := Exact16_pos (w := w) h ib
      rwa [show ((valN 4096 b : Int) == n) = decide (0 ≤ n ∧ (valN 4096 b : Int) = n) by rw [Bool.eq_iff_iff]; simp [h]] at e
    · have e := Exact16_neg (n := n) (w := w) (by omega)
      rwa [show false = decide (0 ≤ n ∧ (valN 4096 b : Int) = n) by symm; simp [h]] at e
  · intro h; have := ia.2.1; omega
  · intro h; have := ib.2.1; omega
  · intro h h2
    have e := ia.2.2 (by omega)
    rw [show (a : Int) + 1 = ((a + 1 : Nat) : Int) by omega, clampN_in (by omega)]
    omega
  · intro h h2
    have e := ib.2.2 (by omega)
    rw [show (b : Int) + 1 = ((b + 1 : Nat) : Int) by omega, clampN_in (by omega)]
    omega
set_option maxRecDepth 100000 in
theorem codeCodes_lifted (os : Os) (started : os.Started) (H : Type) (enc : TypeId × Value → H) :
    ReturnsInHanded {} Try.checked os 5 .any (Rows.codeCodesSpec.pre6 enc Try.prog Try.f5 Rows.codeCodesRow.domain false) (Rows.codeCodesSpec.post enc Try.prog Try.f5 false true false false) := by
  refine lifted_of_walk (C := Try.checked) (tb := 4) own started (by kernel_rfl) Try.func5
    (ChangeSpec.witness6 (enc := enc) (C := Try.checked) false ⟨#[], #[.int .i64 0], []⟩ 8 (by kernel_rfl) (by kernel_rfl) (by kernel_rfl) (by kernel_rfl))
    (by kernel_rfl) Try.underlying4 (by kernel_rfl) (by kernel_rfl) rfl ?_ ?_
  · intro ds hl
    match ds, hl with
    | [d0], _ => exact ⟨rfl, rfl, rfl⟩
  · intro W base args ds ps hval hA hfz
    have hA' : DataW.TrodAll enc Try.prog W 0 (fun _ => true) true Try.f5.params.toList args.toList ds ps := hA
    rw [Try.params5] at hA'
    obtain ⟨v0, vs0, d0, ds0, p0, q0, hargs0, rfl, rfl, h0, r0⟩ := trodAll_cons hA'
    obtain ⟨hvs, rfl, rfl⟩ := trodAll_nil r0
    obtain rfl : args = #[v0] := by cases args; simp_all
    have g0 := hval 0 3 v0 rfl rfl
    obtain ⟨n, rfl, hn⟩ := open_i64 Try.underlying3 g0
    exact codes_walk hn
theorem codeCodes_proved : Rows.CodeCodesSaid :=
  OpenClaim.holds_of_wide 5 Try.f5 rfl rfl rfl rfl rfl rfl rfl ⟨rfl, rfl, rfl, rfl, rfl⟩ rfl rfl rfl rfl rfl (by kernel_rfl) Try.func5 (by kernel_rfl)
    (of_decide_eq_true (by kernel_rfl)) (by unfold Func.isWrapper; first | (rw [if_pos (by decide +kernel)]; kernel_rfl) | (rw [if_neg (by decide +kernel)]; exact ⟨rfl, rfl⟩))
    (fun os started H enc _ => codeCodes_lifted os started H enc)
end Go.Proofs.Ytbjpdgilclhiaaa

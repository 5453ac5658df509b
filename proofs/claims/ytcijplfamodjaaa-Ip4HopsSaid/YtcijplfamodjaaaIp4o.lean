/-
  Contracts of package ip4 and of its reference: options.
-/
import Derived.Test.YtcijplfamodjaaaIp4d
namespace Go.Proofs.Ytcijplfamodjaaa
open Go.ChangeShapes Go.WideShapes Go.ChangeAt Go.RowKit
set_option linter.unusedVariables false
set_option linter.unusedSimpArgs false

set_option maxHeartbeats 2000000 in
theorem options4_any {T : ByteArray} {w : World} (hT : T.size ≤ 100000) : Gives Try.prog 34 #[.string T] w (.tuple #[.bool ((opt4 T.data.toList false).getD false), .bool (opt4 T.data.toList false).isSome]) := by
  refine Gives.of ?_
  obtain ⟨R, hR⟩ : ∃ R, opt4 T.data.toList false = R := ⟨_, rfl⟩
  rw [hR]
  have HR := Lib.hid hR
  clear hR
  go_enter Try.func34, Try.ntmps34
  go_wp2
  go_loopw [0, 2] (fun s i wr => ∃ (S : ByteArray) (x : Bool), s = .string S ∧ i = .bool x ∧ opt4 S.data.toList x = R ∧ S.size ≤ T.size ∧ ∃ y : BW w.heap.size w, wr = y.w) (fun s _ _ => match s with | .string S => S.size | _ => 0)
  case atStart => exact ⟨T, false, rfl, rfl, HR.out, Nat.le_refl _, BW.mk (by (first | ((repeat (with_reducible first | assumption | exact Below.refl _ _ | (refine below_bw _ ?_ ?_; rotate_left; focus (((repeat (with_reducible first | assumption | exact Nat.le_refl _ | refine BW.le_of ?_ | refine le_alloc ?_ | refine le_drew ?_ | refine le_drewN ?_ | refine le_set ?_ | refine le_plus ?_ | omega | refine le_setA ?_)); done))) | (refine Below.alloc ?_ ?_ _; rotate_left; focus (((repeat (with_reducible first | assumption | exact Nat.le_refl _ | refine BW.le_of ?_ | refine le_alloc ?_ | refine le_drew ?_ | refine le_drewN ?_ | refine le_set ?_ | refine le_plus ?_ | omega | refine le_setA ?_)); done))) | (refine Below.setCell ?_ ?_ _; rotate_left; focus (((repeat (with_reducible first | assumption | exact Nat.le_refl _ | refine BW.le_of ?_ | refine le_alloc ?_ | refine le_drew ?_ | refine le_drewN ?_ | refine le_set ?_ | refine le_plus ?_ | omega | refine le_setA ?_)); done))) | refine Below.drew ?_ | refine below_drewN ?_ _ | (refine below_setCells ?_ ?_ _ _; rotate_left; focus (((repeat (with_reducible first | assumption | exact Nat.le_refl _ | refine BW.le_of ?_ | refine le_alloc ?_ | refine le_drew ?_ | refine le_drewN ?_ | refine le_set ?_ | refine le_plus ?_ | omega | refine le_setA ?_)); done))))); done) | (simp; done) | (repeat (first | assumption | exact Below.refl _ _ | (refine below_bw _ ?_ ?_; rotate_left; focus ((first | omega | (repeat (first | with_reducible assumption | with_reducible exact Nat.le_refl _ | refine BW.le_of ?_ | refine le_alloc ?_ | refine le_drew ?_ | refine le_drewN ?_ | refine le_set ?_ | refine le_plus ?_ | assumption | exact Nat.le_refl _))))) | (refine Below.alloc ?_ ?_ _; rotate_left; focus ((first | omega | (repeat (first | with_reducible assumption | with_reducible exact Nat.le_refl _ | refine BW.le_of ?_ | refine le_alloc ?_ | refine le_drew ?_ | refine le_drewN ?_ | refine le_set ?_ | refine le_plus ?_ | assumption | exact Nat.le_refl _))))) | (refine Below.setCell ?_ ?_ _; rotate_left; focus ((first | omega | (repeat (first | with_reducible assumption | with_reducible exact Nat.le_refl _ | refine BW.le_of ?_ | refine le_alloc ?_ | refine le_drew ?_ | refine le_drewN ?_ | refine le_set ?_ | refine le_plus ?_ | assumption | exact Nat.le_refl _))))) | refine Below.drew ?_ | refine below_drewN ?_ _ | (refine below_setCells ?_ ?_ _ _; rotate_left; focus ((first | omega | (repeat (first | with_reducible assumption | with_reducible exact Nat.le_refl _ | refine BW.le_of ?_ | refine le_alloc ?_ | refine le_drew ?_ | refine le_drewN ?_ | refine le_set ?_ | refine le_plus ?_ | assumption | exact Nat.le_refl _))))))))), rfl⟩
  case round =>
    obtain ⟨S, x, rfl, rfl, hS, hle, y, rfl⟩ := hrel
    have HS := Lib.hid hS
    clear hS
    have hl := size_toList S
    by_cases h0 : S.size = 0
    · obtain rfl : S = ⟨#[]⟩ := data_inj (List.eq_nil_of_length_eq_zero (by omega))
      have hx := Lib.hid (show R = some x by rw [← HS.out]; exact opt4_nil x)
      clear HS
      go_wp2
      go_ret2
      exact ⟨by rw [hx.out]; rfl, by (first | ((repeat (with_reducible first | assumption | exact Below.refl _ _ | (refine below_bw _ ?_ ?_; rotate_left; focus (((repeat (with_reducible first | assumption | exact Nat.le_refl _ | refine BW.le_of ?_ | refine le_alloc ?_ | refine le_drew ?_ | refine le_drewN ?_ | refine le_set ?_ | refine le_plus ?_ | omega | refine le_setA ?_)); done))) | (refine Below.alloc ?_ ?_ _; rotate_left; focus (((repeat (with_reducible first | assumption | exact Nat.le_refl _ | refine BW.le_of ?_ | refine le_alloc ?_ | refine le_drew ?_ | refine le_drewN ?_ | refine le_set ?_ | refine le_plus ?_ | omega | refine le_setA ?_)); done))) | (refine Below.setCell ?_ ?_ _; rotate_left; focus (((repeat (with_reducible first | assumption | exact Nat.le_refl _ | refine BW.le_of ?_ | refine le_alloc ?_ | refine le_drew ?_ | refine le_drewN ?_ | refine le_set ?_ | refine le_plus ?_ | omega | refine le_setA ?_)); done))) | refine Below.drew ?_ | refine below_drewN ?_ _ | (refine below_setCells ?_ ?_ _ _; rotate_left; focus (((repeat (with_reducible first | assumption | exact Nat.le_refl _ | refine BW.le_of ?_ | refine le_alloc ?_ | refine le_drew ?_ | refine le_drewN ?_ | refine le_set ?_ | refine le_plus ?_ | omega | refine le_setA ?_)); done))))); done) | (simp; done) | (repeat (first | assumption | exact Below.refl _ _ | (refine below_bw _ ?_ ?_; rotate_left; focus ((first | omega | (repeat (first | with_reducible assumption | with_reducible exact Nat.le_refl _ | refine BW.le_of ?_ | refine le_alloc ?_ | refine le_drew ?_ | refine le_drewN ?_ | refine le_set ?_ | refine le_plus ?_ | assumption | exact Nat.le_refl _))))) | (refine Below.alloc ?_ ?_ _; rotate_left; focus ((first | omega | (repeat (first | with_reducible assumption | with_reducible exact Nat.le_refl _ | refine BW.le_of ?_ | refine le_alloc ?_ | refine le_drew ?_ | refine le_drewN ?_ | refine le_set ?_ | refine le_plus ?_ | assumption | exact Nat.le_refl _))))) | (refine Below.setCell ?_ ?_ _; rotate_left; focus ((first | omega | (repeat (first | with_reducible assumption | with_reducible exact Nat.le_refl _ | refine BW.le_of ?_ | refine le_alloc ?_ | refine le_drew ?_ | refine le_drewN ?_ | refine le_set ?_ | refine le_plus ?_ | assumption | exact Nat.le_refl _))))) | refine Below.drew ?_ | refine below_drewN ?_ _ | (refine below_setCells ?_ ?_ _ _; rotate_left; focus ((first | omega | (repeat (first | with_reducible assumption | with_reducible exact Nat.le_refl _ | refine BW.le_of ?_ | refine le_alloc ?_ | refine le_drew ?_ | refine le_drewN ?_ | refine le_set ?_ | refine le_plus ?_ | assumption | exact Nat.le_refl _))))))))⟩
    have hne : S.toList.isEmpty = false := notEmpty h0
    have hix : ∀ W, (Instr.index 9 (.string S) (.int .i64 0)).run Try.prog W = .ok (.int .u8 (S[0].toNat : Int)) W := fun W => run_idx Try.underlying9 S 0 (by omega) _ rfl W
    have hc := Lib.hid (show ∃ r, S.data.toList = S[0] :: r ∧ r.length + 1 = S.size by
      have h := getElem_toList S 0 (by omega)
      cases hL : S.data.toList with
      | nil => rw [hL] at h; cases h
      | cons b r => rw [hL] at h; injection h with h; exact ⟨r, by rw [h], by rw [← hl, hL]; rfl⟩)
    have hb8 := S[0].toNat_lt
    generalize S[0] = b at *
    by_cases hb0 : b = 0
    · subst hb0
      have hix : ∀ W, (Instr.index 9 (.string S) (.int .i64 0)).run Try.prog W = .ok (.int .u8 0) W := hix
      have hx := Lib.hid (show R = some x by
        obtain ⟨r, hr, _⟩ := hc.out
        rw [← HS.out, hr]; exact opt4_zero r x)
      clear HS
      go_wp2
      go_ret2
      exact ⟨by rw [hx.out]; rfl, by (first | ((repeat (with_reducible first | assumption | exact Below.refl _ _ | (refine below_bw _ ?_ ?_; rotate_left; focus (((repeat (with_reducible first | assumption | exact Nat.le_refl _ | refine BW.le_of ?_ | refine le_alloc ?_ | refine le_drew ?_ | refine le_drewN ?_ | refine le_set ?_ | refine le_plus ?_ | omega | refine le_setA ?_)); done))) | (refine Below.alloc ?_ ?_ _; rotate_left; focus (((repeat (with_reducible first | assumption | exact Nat.le_refl _ | refine BW.le_of ?_ | refine le_alloc ?_ | refine le_drew ?_ | refine le_drewN ?_ | refine le_set ?_ | refine le_plus ?_ | omega | refine le_setA ?_)); done))) | (refine Below.setCell ?_ ?_ _; rotate_left; focus (((repeat (with_reducible first | assumption | exact Nat.le_refl _ | refine BW.le_of ?_ | refine le_alloc ?_ | refine le_drew ?_ | refine le_drewN ?_ | refine le_set ?_ | refine le_plus ?_ | omega | refine le_setA ?_)); done))) | refine Below.drew ?_ | refine below_drewN ?_ _ | (refine below_setCells ?_ ?_ _ _; rotate_left; focus (((repeat (with_reducible first | assumption | exact Nat.le_refl _ | refine BW.le_of ?_ | refine le_alloc ?_ | refine le_drew ?_ | refine le_drewN ?_ | refine le_set ?_ | refine le_plus ?_ | omega | refine le_setA ?_)); done))))); done) | (simp; done) | (repeat (first | assumption | exact Below.refl _ _ | (refine below_bw _ ?_ ?_; rotate_left; focus ((first | omega | (repeat (first | with_reducible assumption | with_reducible exact Nat.le_refl _ | refine BW.le_of ?_ | refine le_alloc ?_ | refine le_drew ?_ | refine le_drewN ?_ | refine le_set ?_ | refine le_plus ?_ | assumption | exact Nat.le_refl _))))) | (refine Below.alloc ?_ ?_ _; rotate_left; focus ((first | omega | (repeat (first | with_reducible assumption | with_reducible exact Nat.le_refl _ | refine BW.le_of ?_ | refine le_alloc ?_ | refine le_drew ?_ | refine le_drewN ?_ | refine le_set ?_ | refine le_plus ?_ | assumption | exact Nat.le_refl _))))) | (refine Below.setCell ?_ ?_ _; rotate_left; focus ((first | omega | (repeat (first | with_reducible assumption | with_reducible exact Nat.le_refl _ | refine BW.le_of ?_ | refine le_alloc ?_ | refine le_drew ?_ | refine le_drewN ?_ | refine le_set ?_ | refine le_plus ?_ | assumption | exact Nat.le_refl _))))) | refine Below.drew ?_ | refine below_drewN ?_ _ | (refine below_setCells ?_ ?_ _ _; rotate_left; focus ((first | omega | (repeat (first | with_reducible assumption | with_reducible exact Nat.le_refl _ | refine BW.le_of ?_ | refine le_alloc ?_ | refine le_drew ?_ | refine le_drewN ?_ | refine le_set ?_ | refine le_plus ?_ | assumption | exact Nat.le_refl _))))))))⟩
    have hn0 : ((b.toNat : Int) != 0) = true := by
      have : b.toNat ≠ 0 := fun e => hb0 (UInt8.toNat.inj e)
      simp; omega
    by_cases hb1 : b = 1
    · subst hb1
      have hix : ∀ W, (Instr.index 9 (.string S) (.int .i64 0)).run Try.prog W = .ok (.int .u8 1) W := hix
      have hx := Lib.hid (show opt4 (S.extract 1 S.size).data.toList x = R by
        obtain ⟨r, hr, hrl⟩ := hc.out
        rw [← HS.out, toList_extract, hr, opt4_one, List.drop_succ_cons, List.drop_zero, List.take_of_length_le (by omega)])
      have hsz := Lib.hid (show (S.extract 1 S.size).size + 1 = S.size by
        rw [← size_toList, toList_extract, List.length_take, List.length_drop, hl]; omega)
      clear HS
      go_wp2
      refine ⟨⟨_, x, rfl, rfl, hx.out, by have := hsz.out; omega, _, rfl⟩, ?_⟩
      have := hsz.out
      simp
      omega
    have hn1 : ((b.toNat : Int) == 1) = false := by
      have : b.toNat ≠ 1 := fun e => hb1 (UInt8.toNat.inj e)
      simp; omega
    by_cases h1 : S.size < 2
    · have hx := Lib.hid (show R = none by
        obtain ⟨r, hr, hrl⟩ := hc.out
        obtain rfl : r = [] := List.eq_nil_of_length_eq_zero (by omega)
        rw [← HS.out, hr]; exact opt4_short hb0 hb1 x)
      clear HS
      go_wp2
      go_ret2
      exact ⟨by rw [hx.out]; rfl, by (first | ((repeat (with_reducible first | assumption | exact Below.refl _ _ | (refine below_bw _ ?_ ?_; rotate_left; focus (((repeat (with_reducible first | assumption | exact Nat.le_refl _ | refine BW.le_of ?_ | refine le_alloc ?_ | refine le_drew ?_ | refine le_drewN ?_ | refine le_set ?_ | refine le_plus ?_ | omega | refine le_setA ?_)); done))) | (refine Below.alloc ?_ ?_ _; rotate_left; focus (((repeat (with_reducible first | assumption | exact Nat.le_refl _ | refine BW.le_of ?_ | refine le_alloc ?_ | refine le_drew ?_ | refine le_drewN ?_ | refine le_set ?_ | refine le_plus ?_ | omega | refine le_setA ?_)); done))) | (refine Below.setCell ?_ ?_ _; rotate_left; focus (((repeat (with_reducible first | assumption | exact Nat.le_refl _ | refine BW.le_of ?_ | refine le_alloc ?_ | refine le_drew ?_ | refine le_drewN ?_ | refine le_set ?_ | refine le_plus ?_ | omega | refine le_setA ?_)); done))) | refine Below.drew ?_ | refine below_drewN ?_ _ | (refine below_setCells ?_ ?_ _ _; rotate_left; focus (((repeat (with_reducible first | assumption | exact Nat.le_refl _ | refine BW.le_of ?_ | refine le_alloc ?_ | refine le_drew ?_ | refine le_drewN ?_ | refine le_set ?_ | refine le_plus ?_ | omega | refine le_setA ?_)); done))))); done) | (simp; done) | (repeat (first | assumption | exact Below.refl _ _ | (refine below_bw _ ?_ ?_; rotate_left; focus ((first | omega | (repeat (first | with_reducible assumption | with_reducible exact Nat.le_refl _ | refine BW.le_of ?_ | refine le_alloc ?_ | refine le_drew ?_ | refine le_drewN ?_ | refine le_set ?_ | refine le_plus ?_ | assumption | exact Nat.le_refl _))))) | (refine Below.alloc ?_ ?_ _; rotate_left; focus ((first | omega | (repeat (first | with_reducible assumption | with_reducible exact Nat.le_refl _ | refine BW.le_of ?_ | refine le_alloc ?_ | refine le_drew ?_ | refine le_drewN ?_ | refine le_set ?_ | refine le_plus ?_ | assumption | exact Nat.le_refl _))))) | (refine Below.setCell ?_ ?_ _; rotate_left; focus ((first | omega | (repeat (first | with_reducible assumption | with_reducible exact Nat.le_refl _ | refine BW.le_of ?_ | refine le_alloc ?_ | refine le_drew ?_ | refine le_drewN ?_ | refine le_set ?_ | refine le_plus ?_ | assumption | exact Nat.le_refl _))))) | refine Below.drew ?_ | refine below_drewN ?_ _ | (refine below_setCells ?_ ?_ _ _; rotate_left; focus ((first | omega | (repeat (first | with_reducible assumption | with_reducible exact Nat.le_refl _ | refine BW.le_of ?_ | refine le_alloc ?_ | refine le_drew ?_ | refine le_drewN ?_ | refine le_set ?_ | refine le_plus ?_ | assumption | exact Nat.le_refl _))))))))⟩
    have hix1 : ∀ W, (Instr.index 9 (.string S) (.int .i64 1)).run Try.prog W = .ok (.int .u8 (S[1].toNat : Int)) W := fun W => run_idx Try.underlying9 S 1 (by omega) _ rfl W
    have hc1 := Lib.hid (show ∃ r, S.data.toList = b :: S[1] :: r ∧ r.length + 2 = S.size by
      obtain ⟨r, hr, hrl⟩ := hc.out
      have h := getElem_toList S 1 (by omega)
      rw [hr] at h
      cases r with
      | nil => simp at hrl; omega
      | cons n r => injection h with h; exact ⟨r, by rw [hr]; simpa using h, by simpa using hrl⟩)
    have hn8 := S[1].toNat_lt
    generalize S[1] = n at *
    by_cases hw : 2 ≤ n.toNat ∧ n.toNat ≤ S.size
    · have hx := Lib.hid (show opt4 (S.extract n.toNat S.size).data.toList (x || (S.extract 0 n.toNat).toList == [148, 4, 0, 0]) = R by
        obtain ⟨r, hr, hrl⟩ := hc1.out
        rw [← HS.out, hr, opt4_opt r hb0 hb1 (by omega), ByteArray.toList_eq, toList_extract, toList_extract, hr, List.take_of_length_le (i := S.size - n.toNat) (by simp; omega), List.drop_zero, Nat.sub_zero])
      have hsz := Lib.hid (show (S.extract n.toNat S.size).size + n.toNat = S.size by
        rw [← size_toList, toList_extract, List.length_take, List.length_drop, hl]; omega)
      have h2 := hw.1
      have h3 := hw.2
      have d0 : decide ((S.size : Int) < 2) = false := decide_eq_false (by omega)
      have d1 : decide ((n.toNat : Int) < 2) = false := decide_eq_false (by omega)
      have d2 : decide ((S.size : Int) < (n.toNat : Int)) = false := decide_eq_false (by omega)
      clear HS hw
      cases x
      · go_wp2
        ((with_reducible first | refine wp_region_bx (Nat.le_refl _) (by kernel_rfl) (by kernel_rfl) ?_ | refine wp_region_bw (by kernel_rfl) (by kernel_rfl) ?_); (repeat (go_big_quiet_step (fail))); refine wpQuiet_nil ?_; rintro _ ⟨x, rfl⟩)
        go_wp2
        exact ⟨⟨_, _, rfl, rfl, hx.out, by have := hsz.out; omega, _, rfl⟩, by have := hsz.out; simp; omega⟩
      · go_wp2
        ((with_reducible first | refine wp_region_bx (Nat.le_refl _) (by kernel_rfl) (by kernel_rfl) ?_ | refine wp_region_bw (by kernel_rfl) (by kernel_rfl) ?_); (repeat (go_big_quiet_step (fail))); refine wpQuiet_nil ?_; rintro _ ⟨x, rfl⟩)
        go_wp2
        exact ⟨⟨_, _, rfl, rfl, hx.out, by have := hsz.out; omega, _, rfl⟩, by have := hsz.out; simp; omega⟩
    · have hx := Lib.hid (show R = none by
        obtain ⟨r, hr, hrl⟩ := hc1.out
        rw [← HS.out, hr]; exact opt4_bad r hb0 hb1 (by omega) x)
      clear HS
      go_wp2
      all_goals first
        | (exfalso; omega)
        | (go_ret2; exact ⟨by rw [hx.out]; rfl, by (first | ((repeat (with_reducible first | assumption | exact Below.refl _ _ | (refine below_bw _ ?_ ?_; rotate_left; focus (((repeat (with_reducible first | assumption | exact Nat.le_refl _ | refine BW.le_of ?_ | refine le_alloc ?_ | refine le_drew ?_ | refine le_drewN ?_ | refine le_set ?_ | refine le_plus ?_ | omega | refine le_setA ?_)); done))) | (refine Below.alloc ?_ ?_ _; rotate_left; focus (((repeat (with_reducible first | assumption | exact Nat.le_refl _ | refine BW.le_of ?_ | refine le_alloc ?_ | refine le_drew ?_ | refine le_drewN ?_ | refine le_set ?_ | refine le_plus ?_ | omega | refine le_setA ?_)); done))) | (refine Below.setCell ?_ ?_ _; rotate_left; focus (((repeat (with_reducible first | assumption | exact Nat.le_refl _ | refine BW.le_of ?_ | refine le_alloc ?_ | refine le_drew ?_ | refine le_drewN ?_ | refine le_set ?_ | refine le_plus ?_ | omega | refine le_setA ?_)); done))) | refine Below.drew ?_ | refine below_drewN ?_ _ | (refine below_setCells ?_ ?_ _ _; rotate_left; focus (((repeat (with_reducible first | assumption | exact Nat.le_refl _ | refine BW.le_of ?_ | refine le_alloc ?_ | refine le_drew ?_ | refine le_drewN ?_ | refine le_set ?_ | refine le_plus ?_ | omega | refine le_setA ?_)); done))))); done) | (simp; done) | (repeat (first | assumption | exact Below.refl _ _ | (refine below_bw _ ?_ ?_; rotate_left; focus ((first | omega | (repeat (first | with_reducible assumption | with_reducible exact Nat.le_refl _ | refine BW.le_of ?_ | refine le_alloc ?_ | refine le_drew ?_ | refine le_drewN ?_ | refine le_set ?_ | refine le_plus ?_ | assumption | exact Nat.le_refl _))))) | (refine Below.alloc ?_ ?_ _; rotate_left; focus ((first | omega | (repeat (first | with_reducible assumption | with_reducible exact Nat.le_refl _ | refine BW.le_of ?_ | refine le_alloc ?_ | refine le_drew ?_ | refine le_drewN ?_ | refine le_set ?_ | refine le_plus ?_ | assumption | exact Nat.le_refl _))))) | (refine Below.setCell ?_ ?_ _; rotate_left; focus ((first | omega | (repeat (first | with_reducible assumption | with_reducible exact Nat.le_refl _ | refine BW.le_of ?_ | refine le_alloc ?_ | refine le_drew ?_ | refine le_drewN ?_ | refine le_set ?_ | refine le_plus ?_ | assumption | exact Nat.le_refl _))))) | refine Below.drew ?_ | refine below_drewN ?_ _ | (refine below_setCells ?_ ?_ _ _; rotate_left; focus ((first | omega | (repeat (first | with_reducible assumption | with_reducible exact Nat.le_refl _ | refine BW.le_of ?_ | refine le_alloc ?_ | refine le_drew ?_ | refine le_drewN ?_ | refine le_set ?_ | refine le_plus ?_ | assumption | exact Nat.le_refl _))))))))⟩)
theorem al_take {S : List UInt8} {b n a c : UInt8} {r : List UInt8} (h2 : 2 ≤ n.toNat) (hS : S = b :: n :: r) (h3 : n.toNat ≤ S.length) :
    (S.take n.toNat == [148, 4, 0, 0]) = (n == 4 && b == 148 && S[2]? == some 0 && S[3]? == some 0) := by
  subst hS
  rw [Bool.eq_iff_iff]
  simp only [beq_iff_eq, Bool.and_eq_true]
  constructor
  · intro h
    have hl := congrArg List.length h
    rw [List.length_take, Nat.min_eq_left h3] at hl
    have hn : n = 4 := UInt8.toNat.inj hl
    rw [hl] at h
    match r, h3, hl with
    | r0 :: r1 :: r, _, _ => simp at h; simp [h, hn]
    | [r0], h3, hl => simp at h3; simp at hl; omega
    | [], h3, hl => simp at h3; simp at hl; omega
  · rintro ⟨⟨⟨rfl, rfl⟩, h5⟩, h6⟩
    match r, h5, h6 with
    | r0 :: r1 :: r, h5, h6 => simp at h5 h6; simp [h5, h6]
    | [r0], _, h6 => simp at h6
    | [], h5, _ => simp at h5
set_option maxHeartbeats 4000000 in
theorem rAlert_any {T : ByteArray} {w : World} (hT : T.size ≤ 100000) : Gives Try.prog 20 #[.string T] w (.tuple #[.bool ((opt4 T.data.toList false).getD false), .bool (opt4 T.data.toList false).isSome]) := by
  refine Gives.of ?_
  obtain ⟨R, hR⟩ : ∃ R, opt4 T.data.toList false = R := ⟨_, rfl⟩
  rw [hR]
  have HR := Lib.hid hR
  have hl := size_toList T
  clear hR
  go_enter Try.func20, Try.ntmps20
  go_wp2
  go_loopw [4, 5] (fun x i wr => ∃ (k : Nat) (q : Bool), k ≤ T.size ∧ i = .int .i64 k ∧ x = .bool q ∧ opt4 (T.data.toList.drop k) q = R ∧ ∃ y : BW w.heap.size w, wr = y.w) (fun _ i _ => T.size - (intOf i).toNat)
  case atStart => exact ⟨0, false, by omega, rfl, rfl, HR.out, BW.mk (by (first | ((repeat (with_reducible first | assumption | exact Below.refl _ _ | (refine below_bw _ ?_ ?_; rotate_left; focus (((repeat (with_reducible first | assumption | exact Nat.le_refl _ | refine BW.le_of ?_ | refine le_alloc ?_ | refine le_drew ?_ | refine le_drewN ?_ | refine le_set ?_ | refine le_plus ?_ | omega | refine le_setA ?_)); done))) | (refine Below.alloc ?_ ?_ _; rotate_left; focus (((repeat (with_reducible first | assumption | exact Nat.le_refl _ | refine BW.le_of ?_ | refine le_alloc ?_ | refine le_drew ?_ | refine le_drewN ?_ | refine le_set ?_ | refine le_plus ?_ | omega | refine le_setA ?_)); done))) | (refine Below.setCell ?_ ?_ _; rotate_left; focus (((repeat (with_reducible first | assumption | exact Nat.le_refl _ | refine BW.le_of ?_ | refine le_alloc ?_ | refine le_drew ?_ | refine le_drewN ?_ | refine le_set ?_ | refine le_plus ?_ | omega | refine le_setA ?_)); done))) | refine Below.drew ?_ | refine below_drewN ?_ _ | (refine below_setCells ?_ ?_ _ _; rotate_left; focus (((repeat (with_reducible first | assumption | exact Nat.le_refl _ | refine BW.le_of ?_ | refine le_alloc ?_ | refine le_drew ?_ | refine le_drewN ?_ | refine le_set ?_ | refine le_plus ?_ | omega | refine le_setA ?_)); done))))); done) | (simp; done) | (repeat (first | assumption | exact Below.refl _ _ | (refine below_bw _ ?_ ?_; rotate_left; focus ((first | omega | (repeat (first | with_reducible assumption | with_reducible exact Nat.le_refl _ | refine BW.le_of ?_ | refine le_alloc ?_ | refine le_drew ?_ | refine le_drewN ?_ | refine le_set ?_ | refine le_plus ?_ | assumption | exact Nat.le_refl _))))) | (refine Below.alloc ?_ ?_ _; rotate_left; focus ((first | omega | (repeat (first | with_reducible assumption | with_reducible exact Nat.le_refl _ | refine BW.le_of ?_ | refine le_alloc ?_ | refine le_drew ?_ | refine le_drewN ?_ | refine le_set ?_ | refine le_plus ?_ | assumption | exact Nat.le_refl _))))) | (refine Below.setCell ?_ ?_ _; rotate_left; focus ((first | omega | (repeat (first | with_reducible assumption | with_reducible exact Nat.le_refl _ | refine BW.le_of ?_ | refine le_alloc ?_ | refine le_drew ?_ | refine le_drewN ?_ | refine le_set ?_ | refine le_plus ?_ | assumption | exact Nat.le_refl _))))) | refine Below.drew ?_ | refine below_drewN ?_ _ | (refine below_setCells ?_ ?_ _ _; rotate_left; focus ((first | omega | (repeat (first | with_reducible assumption | with_reducible exact Nat.le_refl _ | refine BW.le_of ?_ | refine le_alloc ?_ | refine le_drew ?_ | refine le_drewN ?_ | refine le_set ?_ | refine le_plus ?_ | assumption | exact Nat.le_refl _))))))))), rfl⟩
  case round =>
    obtain ⟨k, q, hk, rfl, rfl, hS, y, rfl⟩ := hrel
    have HS := Lib.hid hS
    clear hS
    by_cases hlt : k < T.size
    · have hix : ∀ W, (Instr.index 9 (.string T) (.int .i64 (k : Int))).run Try.prog W = .ok (.int .u8 (T[k].toNat : Int)) W := fun W => run_idx Try.underlying9 T k hlt _ rfl W
      have hc := Lib.hid (show T.data.toList.drop k = T[k] :: T.data.toList.drop (k + 1) by
        rw [List.drop_eq_getElem_cons (by omega)]; rfl)
      have hb8 := T[k].toNat_lt
      generalize T[k] = b at *
      by_cases hb0 : b = 0
      · subst hb0
        have hix : ∀ W, (Instr.index 9 (.string T) (.int .i64 (k : Int))).run Try.prog W = .ok (.int .u8 0) W := hix
        have hx := Lib.hid (show R = some q by rw [← HS.out, hc.out]; exact opt4_zero _ q)
        clear HS
        go_wp2
        go_ret2
        exact ⟨by rw [hx.out]; rfl, by (first | ((repeat (with_reducible first | assumption | exact Below.refl _ _ | (refine below_bw _ ?_ ?_; rotate_left; focus (((repeat (with_reducible first | assumption | exact Nat.le_refl _ | refine BW.le_of ?_ | refine le_alloc ?_ | refine le_drew ?_ | refine le_drewN ?_ | refine le_set ?_ | refine le_plus ?_ | omega | refine le_setA ?_)); done))) | (refine Below.alloc ?_ ?_ _; rotate_left; focus (((repeat (with_reducible first | assumption | exact Nat.le_refl _ | refine BW.le_of ?_ | refine le_alloc ?_ | refine le_drew ?_ | refine le_drewN ?_ | refine le_set ?_ | refine le_plus ?_ | omega | refine le_setA ?_)); done))) | (refine Below.setCell ?_ ?_ _; rotate_left; focus (((repeat (with_reducible first | assumption | exact Nat.le_refl _ | refine BW.le_of ?_ | refine le_alloc ?_ | refine le_drew ?_ | refine le_drewN ?_ | refine le_set ?_ | refine le_plus ?_ | omega | refine le_setA ?_)); done))) | refine Below.drew ?_ | refine below_drewN ?_ _ | (refine below_setCells ?_ ?_ _ _; rotate_left; focus (((repeat (with_reducible first | assumption | exact Nat.le_refl _ | refine BW.le_of ?_ | refine le_alloc ?_ | refine le_drew ?_ | refine le_drewN ?_ | refine le_set ?_ | refine le_plus ?_ | omega | refine le_setA ?_)); done))))); done) | (simp; done) | (repeat (first | assumption | exact Below.refl _ _ | (refine below_bw _ ?_ ?_; rotate_left; focus ((first | omega | (repeat (first | with_reducible assumption | with_reducible exact Nat.le_refl _ | refine BW.le_of ?_ | refine le_alloc ?_ | refine le_drew ?_ | refine le_drewN ?_ | refine le_set ?_ | refine le_plus ?_ | assumption | exact Nat.le_refl _))))) | (refine Below.alloc ?_ ?_ _; rotate_left; focus ((first | omega | (repeat (first | with_reducible assumption | with_reducible exact Nat.le_refl _ | refine BW.le_of ?_ | refine le_alloc ?_ | refine le_drew ?_ | refine le_drewN ?_ | refine le_set ?_ | refine le_plus ?_ | assumption | exact Nat.le_refl _))))) | (refine Below.setCell ?_ ?_ _; rotate_left; focus ((first | omega | (repeat (first | with_reducible assumption | with_reducible exact Nat.le_refl _ | refine BW.le_of ?_ | refine le_alloc ?_ | refine le_drew ?_ | refine le_drewN ?_ | refine le_set ?_ | refine le_plus ?_ | assumption | exact Nat.le_refl _))))) | refine Below.drew ?_ | refine below_drewN ?_ _ | (refine below_setCells ?_ ?_ _ _; rotate_left; focus ((first | omega | (repeat (first | with_reducible assumption | with_reducible exact Nat.le_refl _ | refine BW.le_of ?_ | refine le_alloc ?_ | refine le_drew ?_ | refine le_drewN ?_ | refine le_set ?_ | refine le_plus ?_ | assumption | exact Nat.le_refl _))))))))⟩
      have hn0 : ((b.toNat : Int) == 0) = false := by
        have : b.toNat ≠ 0 := fun e => hb0 (UInt8.toNat.inj e)
        simp; omega
      by_cases hb1 : b = 1
      · subst hb1
        have hix : ∀ W, (Instr.index 9 (.string T) (.int .i64 (k : Int))).run Try.prog W = .ok (.int .u8 1) W := hix
        have hx := Lib.hid (show opt4 (T.data.toList.drop (k + 1)) q = R by rw [← HS.out, hc.out, opt4_one])
        clear HS
        go_wp2
        exact ⟨⟨k + 1, q, by omega, by go_num, rfl, hx.out, _, rfl⟩, by simp [intOf]; omega⟩
      have hn1 : ((b.toNat : Int) == 1) = false := by
        have : b.toNat ≠ 1 := fun e => hb1 (UInt8.toNat.inj e)
        simp; omega
      by_cases h1 : k + 1 = T.size
      · have hx := Lib.hid (show R = none by rw [← HS.out, hc.out, List.drop_of_length_le (by omega)]; exact opt4_short hb0 hb1 q)
        have he : ((k : Int) + 1 == (T.size : Int)) = true := by simp; omega
        clear HS
        go_wp2
        go_ret2
        exact ⟨by rw [hx.out]; rfl, by (first | ((repeat (with_reducible first | assumption | exact Below.refl _ _ | (refine below_bw _ ?_ ?_; rotate_left; focus (((repeat (with_reducible first | assumption | exact Nat.le_refl _ | refine BW.le_of ?_ | refine le_alloc ?_ | refine le_drew ?_ | refine le_drewN ?_ | refine le_set ?_ | refine le_plus ?_ | omega | refine le_setA ?_)); done))) | (refine Below.alloc ?_ ?_ _; rotate_left; focus (((repeat (with_reducible first | assumption | exact Nat.le_refl _ | refine BW.le_of ?_ | refine le_alloc ?_ | refine le_drew ?_ | refine le_drewN ?_ | refine le_set ?_ | refine le_plus ?_ | omega | refine le_setA ?_)); done))) | (refine Below.setCell ?_ ?_ _; rotate_left; focus (((repeat (with_reducible first | assumption | exact Nat.le_refl _ | refine BW.le_of ?_ | refine le_alloc ?_ | refine le_drew ?_ | refine le_drewN ?_ | refine le_set ?_ | refine le_plus ?_ | omega | refine le_setA ?_)); done))) | refine Below.drew ?_ | refine below_drewN ?_ _ | (refine below_setCells ?_ ?_ _ _; rotate_left; focus (((repeat (with_reducible first | assumption | exact Nat.le_refl _ | refine BW.le_of ?_ | refine le_alloc ?_ | refine le_drew ?_ | refine le_drewN ?_ | refine le_set ?_ | refine le_plus ?_ | omega | refine le_setA ?_)); done))))); done) | (simp; done) | (repeat (first | assumption | exact Below.refl _ _ | (refine below_bw _ ?_ ?_; rotate_left; focus ((first | omega | (repeat (first | with_reducible assumption | with_reducible exact Nat.le_refl _ | refine BW.le_of ?_ | refine le_alloc ?_ | refine le_drew ?_ | refine le_drewN ?_ | refine le_set ?_ | refine le_plus ?_ | assumption | exact Nat.le_refl _))))) | (refine Below.alloc ?_ ?_ _; rotate_left; focus ((first | omega | (repeat (first | with_reducible assumption | with_reducible exact Nat.le_refl _ | refine BW.le_of ?_ | refine le_alloc ?_ | refine le_drew ?_ | refine le_drewN ?_ | refine le_set ?_ | refine le_plus ?_ | assumption | exact Nat.le_refl _))))) | (refine Below.setCell ?_ ?_ _; rotate_left; focus ((first | omega | (repeat (first | with_reducible assumption | with_reducible exact Nat.le_refl _ | refine BW.le_of ?_ | refine le_alloc ?_ | refine le_drew ?_ | refine le_drewN ?_ | refine le_set ?_ | refine le_plus ?_ | assumption | exact Nat.le_refl _))))) | refine Below.drew ?_ | refine below_drewN ?_ _ | (refine below_setCells ?_ ?_ _ _; rotate_left; focus ((first | omega | (repeat (first | with_reducible assumption | with_reducible exact Nat.le_refl _ | refine BW.le_of ?_ | refine le_alloc ?_ | refine le_drew ?_ | refine le_drewN ?_ | refine le_set ?_ | refine le_plus ?_ | assumption | exact Nat.le_refl _))))))))⟩
      have he : ((k : Int) + 1 == (T.size : Int)) = false := by simp; omega
      have hix1 : ∀ W, (Instr.index 9 (.string T) (.int .i64 ((k : Int) + 1))).run Try.prog W = .ok (.int .u8 (T[k + 1].toNat : Int)) W := fun W => run_idx Try.underlying9 T (k + 1) (by omega) _ (by omega) W
      have hc1 := Lib.hid (show T.data.toList.drop k = b :: T[k + 1] :: T.data.toList.drop (k + 2) by
        rw [hc.out, List.drop_eq_getElem_cons (i := k + 1) (by omega)]; rfl)
      have hn8 := T[k + 1].toNat_lt
      generalize T[k + 1] = n at *
      by_cases hw : 2 ≤ n.toNat ∧ n.toNat + k ≤ T.size
      · have hx := Lib.hid (show opt4 (T.data.toList.drop (k + n.toNat)) (q || (T.data.toList.drop k).take n.toNat == [148, 4, 0, 0]) = R by
          rw [← HS.out]
          conv => rhs; rw [hc1.out, opt4_opt _ hb0 hb1 (by rw [List.length_drop, hl]; omega), ← hc1.out]
          rw [List.drop_drop])
        have hal := Lib.hid (al_take (a := 0) (c := 0) hw.1 hc1.out (by rw [List.length_drop, hl]; omega))
        have h2 := hw.1
        have h3 := hw.2
        have d1 : decide ((n.toNat : Int) < 2) = false := decide_eq_false (by omega)
        have d2 : decide ((T.size : Int) - (k : Int) < (n.toNat : Int)) = false := decide_eq_false (by omega)
        clear HS hw
        by_cases hn4 : n = 4
        · subst hn4
          have h3 : 4 + k ≤ T.size := h3
          have hix1 : ∀ W, (Instr.index 9 (.string T) (.int .i64 ((k : Int) + 1))).run Try.prog W = .ok (.int .u8 4) W := hix1
          have hix2 : ∀ W, (Instr.index 9 (.string T) (.int .i64 ((k : Int) + 2))).run Try.prog W = .ok (.int .u8 (T[k + 2].toNat : Int)) W := fun W => run_idx Try.underlying9 T (k + 2) (by omega) _ (by omega) W
          have hix3 : ∀ W, (Instr.index 9 (.string T) (.int .i64 ((k : Int) + 3))).run Try.prog W = .ok (.int .u8 (T[k + 3].toNat : Int)) W := fun W => run_idx Try.underlying9 T (k + 3) (by omega) _ (by omega) W
          have e2 := Lib.hid (show (T.data.toList.drop k)[2]? = some T[k + 2] by rw [List.getElem?_drop]; exact getElem_toList T _ (by omega))
          have e3 := Lib.hid (show (T.data.toList.drop k)[3]? = some T[k + 3] by rw [List.getElem?_drop]; exact getElem_toList T _ (by omega))
          generalize T[k + 2] = c at *
          generalize T[k + 3] = d at *
          have hx2 := Lib.hid (show opt4 (T.data.toList.drop (k + 4)) (q || (b == 148 && c == 0 && d == 0)) = R by
            rw [← hx.out, hal.out, e2.out, e3.out]
            first | rfl | (congr 1; cases q <;> simp))
          have t1 : ((b.toNat : Int) == 148) = (b == 148) := by
            rw [Bool.eq_iff_iff]; simp only [beq_iff_eq]
            constructor
            · intro e; exact UInt8.toNat.inj (show b.toNat = 148 by omega)
            · rintro rfl; rfl
          have t2 : ((c.toNat : Int) == 0) = (c == 0) := by
            rw [Bool.eq_iff_iff]; simp only [beq_iff_eq]
            constructor
            · intro e; exact UInt8.toNat.inj (show c.toNat = 0 by omega)
            · rintro rfl; rfl
          have t3 : ((d.toNat : Int) == 0) = (d == 0) := by
            rw [Bool.eq_iff_iff]; simp only [beq_iff_eq]
            constructor
            · intro e; exact UInt8.toNat.inj (show d.toNat = 0 by omega)
            · rintro rfl; rfl
          clear hx hal e2 e3
          generalize (b == 148) = b1 at *
          generalize (c == 0) = b2 at *
          generalize (d == 0) = b3 at *
          cases b1 <;> cases b2 <;> cases b3
          all_goals go_wp2
          all_goals exact ⟨⟨k + 4, _, by omega, by go_num, rfl, by have := hx2.out; simpa using this, _, rfl⟩, by simp [intOf]; omega⟩
        · have hx2 := Lib.hid (show opt4 (T.data.toList.drop (k + n.toNat)) q = R by
            rw [← hx.out, hal.out, beq_eq_false_iff_ne.2 hn4]; simp)
          have t4 : ((n.toNat : Int) == 4) = false := by
            have : n.toNat ≠ 4 := fun e => hn4 (UInt8.toNat.inj e)
            simp; omega
          clear hx hal
          go_wp2
          exact ⟨⟨k + n.toNat, q, by omega, by go_num, rfl, hx2.out, _, rfl⟩, by simp [intOf]; omega⟩
      · have hx := Lib.hid (show R = none by
          rw [← HS.out, hc1.out]; exact opt4_bad _ hb0 hb1 (by rw [List.length_drop, hl]; omega) q)
        clear HS
        go_wp2
        all_goals first
          | (exfalso; omega)
          | (go_ret2; exact ⟨by rw [hx.out]; rfl, by (first | ((repeat (with_reducible first | assumption | exact Below.refl _ _ | (refine below_bw _ ?_ ?_; rotate_left; focus (((repeat (with_reducible first | assumption | exact Nat.le_refl _ | refine BW.le_of ?_ | refine le_alloc ?_ | refine le_drew ?_ | refine le_drewN ?_ | refine le_set ?_ | refine le_plus ?_ | omega | refine le_setA ?_)); done))) | (refine Below.alloc ?_ ?_ _; rotate_left; focus (((repeat (with_reducible first | assumption | exact Nat.le_refl _ | refine BW.le_of ?_ | refine le_alloc ?_ | refine le_drew ?_ | refine le_drewN ?_ | refine le_set ?_ | refine le_plus ?_ | omega | refine le_setA ?_)); done))) | (refine Below.setCell ?_ ?_ _; rotate_left; focus (((repeat (with_reducible first | assumption | exact Nat.le_refl _ | refine BW.le_of ?_ | refine le_alloc ?_ | refine le_drew ?_ | refine le_drewN ?_ | refine le_set ?_ | refine le_plus ?_ | omega | refine le_setA ?_)); done))) | refine Below.drew ?_ | refine below_drewN ?_ _ | (refine below_setCells ?_ ?_ _ _; rotate_left; focus (((repeat (with_reducible first | assumption | exact Nat.le_refl _ | refine BW.le_of ?_ | refine le_alloc ?_ | refine le_drew ?_ | refine le_drewN ?_ | refine le_set ?_ | refine le_plus ?_ | omega | refine le_setA ?_)); done))))); done) | (simp; done) | (repeat (first | assumption | exact Below.refl _ _ | (refine below_bw _ ?_ ?_; rotate_left; focus ((first | omega | (repeat (first | with_reducible assumption | with_reducible exact Nat.le_refl _ | refine BW.le_of ?_ | refine le_alloc ?_ | refine le_drew ?_ | refine le_drewN ?_ | refine le_set ?_ | refine le_plus ?_ | assumption | exact Nat.le_refl _))))) | (refine Below.alloc ?_ ?_ _; rotate_left; focus ((first | omega | (repeat (first | with_reducible assumption | with_reducible exact Nat.le_refl _ | refine BW.le_of ?_ | refine le_alloc ?_ | refine le_drew ?_ | refine le_drewN ?_ | refine le_set ?_ | refine le_plus ?_ | assumption | exact Nat.le_refl _))))) | (refine Below.setCell ?_ ?_ _; rotate_left; focus ((first | omega | (repeat (first | with_reducible assumption | with_reducible exact Nat.le_refl _ | refine BW.le_of ?_ | refine le_alloc ?_ | refine le_drew ?_ | refine le_drewN ?_ | refine le_set ?_ | refine le_plus ?_ | assumption | exact Nat.le_refl _))))) | refine Below.drew ?_ | refine below_drewN ?_ _ | (refine below_setCells ?_ ?_ _ _; rotate_left; focus ((first | omega | (repeat (first | with_reducible assumption | with_reducible exact Nat.le_refl _ | refine BW.le_of ?_ | refine le_alloc ?_ | refine le_drew ?_ | refine le_drewN ?_ | refine le_set ?_ | refine le_plus ?_ | assumption | exact Nat.le_refl _))))))))⟩)
    · have hx := Lib.hid (show R = some q by rw [← HS.out, List.drop_of_length_le (by omega)]; exact opt4_nil q)
      clear HS
      go_wp2
      go_ret2
      exact ⟨by rw [hx.out]; rfl, by (first | ((repeat (with_reducible first | assumption | exact Below.refl _ _ | (refine below_bw _ ?_ ?_; rotate_left; focus (((repeat (with_reducible first | assumption | exact Nat.le_refl _ | refine BW.le_of ?_ | refine le_alloc ?_ | refine le_drew ?_ | refine le_drewN ?_ | refine le_set ?_ | refine le_plus ?_ | omega | refine le_setA ?_)); done))) | (refine Below.alloc ?_ ?_ _; rotate_left; focus (((repeat (with_reducible first | assumption | exact Nat.le_refl _ | refine BW.le_of ?_ | refine le_alloc ?_ | refine le_drew ?_ | refine le_drewN ?_ | refine le_set ?_ | refine le_plus ?_ | omega | refine le_setA ?_)); done))) | (refine Below.setCell ?_ ?_ _; rotate_left; focus (((repeat (with_reducible first | assumption | exact Nat.le_refl _ | refine BW.le_of ?_ | refine le_alloc ?_ | refine le_drew ?_ | refine le_drewN ?_ | refine le_set ?_ | refine le_plus ?_ | omega | refine le_setA ?_)); done))) | refine Below.drew ?_ | refine below_drewN ?_ _ | (refine below_setCells ?_ ?_ _ _; rotate_left; focus (((repeat (with_reducible first | assumption | exact Nat.le_refl _ | refine BW.le_of ?_ | refine le_alloc ?_ | refine le_drew ?_ | refine le_drewN ?_ | refine le_set ?_ | refine le_plus ?_ | omega | refine le_setA ?_)); done))))); done) | (simp; done) | (repeat (first | assumption | exact Below.refl _ _ | (refine below_bw _ ?_ ?_; rotate_left; focus ((first | omega | (repeat (first | with_reducible assumption | with_reducible exact Nat.le_refl _ | refine BW.le_of ?_ | refine le_alloc ?_ | refine le_drew ?_ | refine le_drewN ?_ | refine le_set ?_ | refine le_plus ?_ | assumption | exact Nat.le_refl _))))) | (refine Below.alloc ?_ ?_ _; rotate_left; focus ((first | omega | (repeat (first | with_reducible assumption | with_reducible exact Nat.le_refl _ | refine BW.le_of ?_ | refine le_alloc ?_ | refine le_drew ?_ | refine le_drewN ?_ | refine le_set ?_ | refine le_plus ?_ | assumption | exact Nat.le_refl _))))) | (refine Below.setCell ?_ ?_ _; rotate_left; focus ((first | omega | (repeat (first | with_reducible assumption | with_reducible exact Nat.le_refl _ | refine BW.le_of ?_ | refine le_alloc ?_ | refine le_drew ?_ | refine le_drewN ?_ | refine le_set ?_ | refine le_plus ?_ | assumption | exact Nat.le_refl _))))) | refine Below.drew ?_ | refine below_drewN ?_ _ | (refine below_setCells ?_ ?_ _ _; rotate_left; focus ((first | omega | (repeat (first | with_reducible assumption | with_reducible exact Nat.le_refl _ | refine BW.le_of ?_ | refine le_alloc ?_ | refine le_drew ?_ | refine le_drewN ?_ | refine le_set ?_ | refine le_plus ?_ | assumption | exact Nat.le_refl _))))))))⟩
end Go.Proofs.Ytcijplfamodjaaa

/-
  'CodeRises': of any two codes the greater one counts more.
-/
import Derived.Test.YtbjpdgilclhiaaaCodeWalk
namespace Go.Proofs.Ytbjpdgilclhiaaa
open Go.ChangeShapes Go.WideShapes Go.ChangeAt Go.RowKit
set_option linter.unusedVariables false
set_option linter.unusedSimpArgs false

theorem own : ownKnob Try.prog.godebug = none := by kernel_rfl
theorem clampN_in {m c : Nat} (h : c ≤ m) : clampN m (c : Int) = c := by unfold clampN; omega
theorem lives07_any {w : World} : Gives Try.prog 8 #[] w (.bool true) := by
  refine Gives.of ?_
  have h1 : ∀ w, Gives Try.prog 6 #[.int .i64 143] w (.int .i64 248) := fun w => by
    have h := Value8_any (c := 143) (w := w)
    rwa [show ((valN 16 (clampN 255 143) : Nat) : Int) = 248 by decide +kernel] at h
  have h2 : ∀ w, Gives Try.prog 13 #[.int .i64 255] w (.int .i64 143) := fun w => Code8_any (n := 255) (r := 143) (by unfold IsCode; decide +kernel)
  have h3 : ∀ w, Gives Try.prog 13 #[.int .i64 256] w (.int .i64 144) := fun w => Code8_any (n := 256) (r := 144) (by unfold IsCode; decide +kernel)
  have h4 : ∀ w, Gives Try.prog 7 #[.int .i64 32768] w (.int .i64 32768) := fun w => by
    have h := Value16_any (c := 32768) (w := w)
    rwa [show ((valN 4096 (clampN 65535 32768) : Nat) : Int) = 32768 by decide +kernel] at h
  go_enter Try.func8, Try.ntmps8
  go_wp2_with ((with_reducible (first | apply Gives.call_bw (Nat.le_refl _) | apply Gives.call)); (focus (first | (with_reducible exact h1 _) | (with_reducible exact h2 _) | (with_reducible exact h3 _) | (with_reducible exact h4 _))); intro x)
  go_ret
  exact ⟨rfl, by (first | (simp; done) | (repeat (first | assumption | exact Below.refl _ _ | (refine below_bw _ ?_ ?_; rotate_left; focus ((first | omega | (repeat (first | assumption | exact Nat.le_refl _ | refine BW.le_of ?_ | refine le_alloc ?_ | refine le_drew ?_ | refine le_drewN ?_ | refine le_set ?_ | refine le_plus ?_ ))))) | (refine Below.alloc ?_ ?_ _; rotate_left; focus ((first | omega | (repeat (first | assumption | exact Nat.le_refl _ | refine BW.le_of ?_ | refine le_alloc ?_ | refine le_drew ?_ | refine le_drewN ?_ | refine le_set ?_ | refine le_plus ?_ ))))) | (refine Below.setCell ?_ ?_ _; rotate_left; focus ((first | omega | (repeat (first | assumption | exact Nat.le_refl _ | refine BW.le_of ?_ | refine le_alloc ?_ | refine le_drew ?_ | refine le_drewN ?_ | refine le_set ?_ | refine le_plus ?_ ))))) | refine Below.drew ?_ | refine below_drewN ?_ _)))⟩
theorem rises_walk {a b : Nat} {w : World} (ha : a < 65536) (hb : b < 65536) : Gives Try.prog 3 #[.int .u16 a, .int .u16 b] w (.bool true) := by
  refine Gives.of ?_
  have h8 : ∀ (a : Nat) w, Gives Try.prog 6 #[.int .i64 ((a : Int) % 256)] w (.int .i64 (valN 16 (a % 256) : Int)) := fun a w => by
    have h := Value8_any (c := ((a % 256 : Nat) : Int)) (w := w)
    rw [clampN_in (by omega)] at h
    exact h
  have h16 : ∀ (a : Nat) w, a < 65536 → Gives Try.prog 7 #[.int .i64 (a : Int)] w (.int .i64 (valN 4096 a : Int)) := fun a w h => by
    have h := Value16_any (c := (a : Int)) (w := w)
    rw [clampN_in (by omega)] at h
    exact h
  have e8 : ((valN 16 (a % 256) : Int) < (valN 16 (b % 256) : Int)) = ((a : Int) % 256 < (b : Int) % 256) := by
    have h := valN_lt_iff (u := 16) (a := a % 256) (b := b % 256) (by omega) (by omega) (by omega)
    apply propext
    constructor
    · intro h1; have := h.1 (by omega); omega
    · intro h1; have := h.2 (by omega); omega
  have e16 : ((valN 4096 a : Int) < (valN 4096 b : Int)) = ((a : Int) < (b : Int)) := by
    have h := valN_lt_iff (u := 4096) (a := a) (b := b) (by omega) (by omega) (by omega)
    apply propext
    constructor
    · intro h1; have := h.1 (by omega); omega
    · intro h1; have := h.2 (by omega); omega
  have ha8 := fun w => h8 a w
  have hb8 := fun w => h8 b w
  have ha16 := fun w => h16 a w ha
  have hb16 := fun w => h16 b w hb
  clear h8 h16
  generalize valN 16 (a % 256) = x at *
  generalize valN 16 (b % 256) = y at *
  generalize valN 4096 a = x2 at *
  generalize valN 4096 b = y2 at *
  go_enter Try.func3, Try.ntmps3
  go_wp2_with ((with_reducible (first | apply Gives.call_bw (Nat.le_refl _) | apply Gives.call)); (focus (first | (with_reducible exact ha8 _) | (with_reducible exact hb8 _) | (with_reducible exact ha16 _) | (with_reducible exact hb16 _) | (with_reducible exact lives07_any))); intro x)
  all_goals (go_ret; exact ⟨rfl, by (first | (simp; done) | (repeat (first | assumption | exact Below.refl _ _ | (refine below_bw _ ?_ ?_; rotate_left; focus ((first | omega | (repeat (first | assumption | exact Nat.le_refl _ | refine BW.le_of ?_ | refine le_alloc ?_ | refine le_drew ?_ | refine le_drewN ?_ | refine le_set ?_ | refine le_plus ?_ ))))) | (refine Below.alloc ?_ ?_ _; rotate_left; focus ((first | omega | (repeat (first | assumption | exact Nat.le_refl _ | refine BW.le_of ?_ | refine le_alloc ?_ | refine le_drew ?_ | refine le_drewN ?_ | refine le_set ?_ | refine le_plus ?_ ))))) | (refine Below.setCell ?_ ?_ _; rotate_left; focus ((first | omega | (repeat (first | assumption | exact Nat.le_refl _ | refine BW.le_of ?_ | refine le_alloc ?_ | refine le_drew ?_ | refine le_drewN ?_ | refine le_set ?_ | refine le_plus ?_ ))))) | refine Below.drew ?_ | refine below_drewN ?_ _)))⟩)
set_option maxRecDepth 100000 in
theorem codeRises_lifted (os : Os) (started : os.Started) (H : Type) (enc : TypeId × Value → H) :
    ReturnsInHanded {} Try.checked os 3 .any (Rows.codeRisesSpec.pre6 enc Try.prog Try.f3 Rows.codeRisesRow.domain false) (Rows.codeRisesSpec.post enc Try.prog Try.f3 false true false false) := by
  refine lifted_of_walk (C := Try.checked) (tb := 4) own started (by kernel_rfl) Try.func3
    (ChangeSpec.witness6 (enc := enc) (C := Try.checked) false ⟨#[], #[.int .u16 0, .int .u16 0], []⟩ 8 (by kernel_rfl) (by kernel_rfl) (by kernel_rfl) (by kernel_rfl))
    (by kernel_rfl) Try.underlying4 (by kernel_rfl) (by kernel_rfl) rfl ?_ ?_
  · intro ds hl
    match ds, hl with
    | [d0, d1], _ => exact ⟨rfl, rfl, rfl⟩
  · intro W base args ds ps hval hA hfz
    have hA' : DataW.TrodAll enc Try.prog W 0 (fun _ => true) true Try.f3.params.toList args.toList ds ps := hA
    rw [Try.params3] at hA'
    obtain ⟨v0, vs0, d0, ds0, p0, q0, hargs0, rfl, rfl, h0, r0⟩ := trodAll_cons hA'
    obtain ⟨v1, vs1, d1, ds1, p1, q1, hargs1, rfl, rfl, h1, r1⟩ := trodAll_cons r0
    obtain ⟨hvs, rfl, rfl⟩ := trodAll_nil r1
    obtain rfl : args = #[v0, v1] := by cases args; simp_all
    have g0 := hval 0 22 v0 rfl rfl
    have g1 := hval 1 22 v1 rfl rfl
    obtain ⟨a, rfl, ha⟩ := open_u16 Try.underlying22 g0
    obtain ⟨b, rfl, hb⟩ := open_u16 Try.underlying22 g1
    exact rises_walk ha hb
theorem codeRises_proved : Rows.CodeRisesSaid :=
  OpenClaim.holds_of_wide 3 Try.f3 rfl rfl rfl rfl rfl rfl rfl ⟨rfl, rfl, rfl, rfl, rfl⟩ rfl rfl rfl rfl rfl (by kernel_rfl) Try.func3 (by kernel_rfl)
    (of_decide_eq_true (by kernel_rfl)) (by unfold Func.isWrapper; first | (rw [if_pos (by decide +kernel)]; kernel_rfl) | (rw [if_neg (by decide +kernel)]; exact ⟨rfl, rfl⟩))
    (fun os started H enc _ => codeRises_lifted os started H enc)
end Go.Proofs.Ytbjpdgilclhiaaa

/-
  'CodeValues': what any code counts, and that it is the code of that. 'CodeCodes': any number's codes.
-/
import Derived.Test.YtbjpdgilclhiaaaCodeExact
namespace Go.Proofs.Ytbjpdgilclhiaaa
open Go.ChangeShapes Go.WideShapes Go.ChangeAt Go.RowKit
set_option linter.unusedVariables false
set_option linter.unusedSimpArgs false

theorem values_walk {c : Int} {w : World} (hc : -9223372036854775808 ≤ c ∧ c ≤ 9223372036854775807) : Gives Try.prog 4 #[.int .i64 c] w (.bool true) := by
  refine Gives.of ?_
  have v8 : ∀ w, Gives Try.prog 6 #[.int .i64 c] w (.int .i64 (valN 16 (clampN 255 c) : Int)) := fun w => Value8_any
  have v16 : ∀ w, Gives Try.prog 7 #[.int .i64 c] w (.int .i64 (valN 4096 (clampN 65535 c) : Int)) := fun w => Value16_any
  have r8 : ∀ w, Gives Try.prog 9 #[.int .i64 c] w (.int .i64 (valN 16 (clampN 255 c) : Int)) := fun w => rValue8_any
  have r16 : ∀ w, Gives Try.prog 10 #[.int .i64 c] w (.int .i64 (valN 4096 (clampN 65535 c) : Int)) := fun w => rValue16_any
  have l8 := clampN_le 255 c
  have l16 := clampN_le 65535 c
  have i8 : IsCode 16 ((valN 16 (clampN 255 c) : Int)).toNat (clampN 255 c) := by rw [Int.toNat_natCast]; exact IsCode.self (by omega) (by omega)
  have i16 : IsCode 4096 ((valN 4096 (clampN 65535 c) : Int)).toNat (clampN 65535 c) := by rw [Int.toNat_natCast]; exact IsCode.self (by omega) (by omega)
  have x8 : ∀ w, Gives Try.prog 11 #[.int .i64 (valN 16 (clampN 255 c) : Int)] w (.bool true) := fun w => by
    have h := Exact8_pos (w := w) (by omega) i8
    rwa [show ((valN 16 (clampN 255 c) : Int) == (valN 16 (clampN 255 c) : Int)) = true by simp] at h
  have x16 : ∀ w, Gives Try.prog 12 #[.int .i64 (valN 4096 (clampN 65535 c) : Int)] w (.bool true) := fun w => by
    have h := Exact16_pos (w := w) (by omega) i16
    rwa [show ((valN 4096 (clampN 65535 c) : Int) == (valN 4096 (clampN 65535 c) : Int)) = true by simp] at h
  have c8 : ∀ w, Gives Try.prog 13 #[.int .i64 (valN 16 (clampN 255 c) : Int)] w (.int .i64 (clampN 255 c : Int)) := fun w => Code8_any i8
  have c16 : ∀ w, Gives Try.prog 14 #[.int .i64 (valN 4096 (clampN 65535 c) : Int)] w (.int .i64 (clampN 65535 c : Int)) := fun w => Code16_any i16
  have k8 : 0 ≤ c → c < 256 → (clampN 255 c : Int) = c := fun h1 h2 => by unfold clampN; omega
  have k16 : 0 ≤ c → c < 65536 → (clampN 65535 c : Int) = c := fun h1 h2 => by unfold clampN; omega
  clear i8 i16
  generalize valN 16 (clampN 255 c) = x at *
  generalize valN 4096 (clampN 65535 c) = y at *
  generalize clampN 255 c = p at *
  generalize clampN 65535 c = q at *
  by_cases h0 : c < 0
  · clear k8 k16
    go_enter Try.func4, Try.ntmps4
    go_wp2_with ((with_reducible (first | apply Gives.call_bw (Nat.le_refl _) | apply Gives.call)); (focus (first | (with_reducible exact v8 _) | (with_reducible exact v16 _) | (with_reducible exact r8 _) | (with_reducible exact r16 _) | (with_reducible exact x8 _) | (with_reducible exact x16 _) | (with_reducible exact c8 _) | (with_reducible exact c16 _) | (with_reducible exact lives07_any))); intro x)
    all_goals first | (exfalso; omega) | (go_ret; exact ⟨rfl, by (first | (simp; done) | (repeat (first | assumption | exact Below.refl _ _ | (refine below_bw _ ?_ ?_; rotate_left; focus ((first | omega | (repeat (first | assumption | exact Nat.le_refl _ | refine BW.le_of ?_ | refine le_alloc ?_ | refine le_drew ?_ | refine le_drewN ?_ | refine le_set ?_ | refine le_plus ?_ ))))) | (refine Below.alloc ?_ ?_ _; rotate_left; focus ((first | omega | (repeat (first | assumption | exact Nat.le_refl _ | refine BW.le_of ?_ | refine le_alloc ?_ | refine le_drew ?_ | refine le_drewN ?_ | refine le_set ?_ | refine le_plus ?_ ))))) | (refine Below.setCell ?_ ?_ _; rotate_left; focus ((first | omega | (repeat (first | assumption | exact Nat.le_refl _ | refine BW.le_of ?_ | refine le_alloc ?_ | refine le_drew ?_ | refine le_drewN ?_ | refine le_set ?_ | refine le_plus ?_ ))))) | refine Below.drew ?_ | refine below_drewN ?_ _)))⟩)
  by_cases h1 : c < 256
  · have e8 := k8 (by omega) h1
    have e16 := k16 (by omega) (by omega)
    rw [e8] at c8
    rw [e16] at c16
    clear k8 k16 e8 e16
    go_enter Try.func4, Try.ntmps4
    go_wp2_with ((with_reducible (first | apply Gives.call_bw (Nat.le_refl _) | apply Gives.call)); (focus (first | (with_reducible exact v8 _) | (with_reducible exact v16 _) | (with_reducible exact r8 _) | (with_reducible exact r16 _) | (with_reducible exact x8 _) | (with_reducible exact x16 _) | (with_reducible exact c8 _) | (with_reducible exact c16 _) | (with_reducible exact lives07_any))); intro x)
    all_goals first | (exfalso; omega) | (go_ret; exact ⟨rfl, by (first | (simp; done) | (repeat (first | assumption | exact Below.refl _ _ | (refine below_bw _ ?_ ?_; rotate_left; focus ((first | omega | (repeat (first | assumption | exact Nat.le_refl _ | refine BW.le_of ?_ | refine le_alloc ?_ | refine le_drew ?_ | refine le_drewN ?_ | refine le_set ?_ | refine le_plus ?_ ))))) | (refine Below.alloc ?_ ?_ _; rotate_left; focus ((first | omega | (repeat (first | assumption | exact Nat.le_refl _ | refine BW.le_of ?_ | refine le_alloc ?_ | refine le_drew ?_ | refine le_drewN ?_ | refine le_set ?_ | refine le_plus ?_ ))))) | (refine Below.setCell ?_ ?_ _; rotate_left; focus ((first | omega | (repeat (first | assumption | exact Nat.le_refl _ | refine BW.le_of ?_ | refine le_alloc ?_ | refine le_drew ?_ | refine le_drewN ?_ | refine le_set ?_ | refine le_plus ?_ ))))) | refine Below.drew ?_ | refine below_drewN ?_ _)))⟩)
  by_cases h2 : c < 65536
  · have e16 := k16 (by omega) h2
    rw [e16] at c16
    clear k8 k16 e16
    go_enter Try.func4, Try.ntmps4
    go_wp2_with ((with_reducible (first | apply Gives.call_bw (Nat.le_refl _) | apply Gives.call)); (focus (first | (with_reducible exact v8 _) | (with_reducible exact v16 _) | (with_reducible exact r8 _) | (with_reducible exact r16 _) | (with_reducible exact x8 _) | (with_reducible exact x16 _) | (with_reducible exact c8 _) | (with_reducible exact c16 _) | (with_reducible exact lives07_any))); intro x)
    all_goals first | (exfalso; omega) | (go_ret; exact ⟨rfl, by (first | (simp; done) | (repeat (first | assumption | exact Below.refl _ _ | (refine below_bw _ ?_ ?_; rotate_left; focus ((first | omega | (repeat (first | assumption | exact Nat.le_refl _ | refine BW.le_of ?_ | refine le_alloc ?_ | refine le_drew ?_ | refine le_drewN ?_ | refine le_set ?_ | refine le_plus ?_ ))))) | (refine Below.alloc ?_ ?_ _; rotate_left; focus ((first | omega | (repeat (first | assumption | exact Nat.le_refl _ | refine BW.le_of ?_ | refine le_alloc ?_ | refine le_drew ?_ | refine le_drewN ?_ | refine le_set ?_ | refine le_plus ?_ ))))) | (refine Below.setCell ?_ ?_ _; rotate_left; focus ((first | omega | (repeat (first | assumption | exact Nat.le_refl _ | refine BW.le_of ?_ | refine le_alloc ?_ | refine le_drew ?_ | refine le_drewN ?_ | refine le_set ?_ | refine le_plus ?_ ))))) | refine Below.drew ?_ | refine below_drewN ?_ _)))⟩)
  · clear k8 k16
    go_enter Try.func4, Try.ntmps4
    go_wp2_with ((with_reducible (first | apply Gives.call_bw (Nat.le_refl _) | apply Gives.call)); (focus (first | (with_reducible exact v8 _) | (with_reducible exact v16 _) | (with_reducible exact r8 _) | (with_reducible exact r16 _) | (with_reducible exact x8 _) | (with_reducible exact x16 _) | (with_reducible exact c8 _) | (with_reducible exact c16 _) | (with_reducible exact lives07_any))); intro x)
    all_goals first | (exfalso; omega) | (go_ret; exact ⟨rfl, by (first | (simp; done) | (repeat (first | assumption | exact Below.refl _ _ | (refine below_bw _ ?_ ?_; rotate_left; focus ((first | omega | (repeat (first | assumption | exact Nat.le_refl _ | refine BW.le_of ?_ | refine le_alloc ?_ | refine le_drew ?_ | refine le_drewN ?_ | refine le_set ?_ | refine le_plus ?_ ))))) | (refine Below.alloc ?_ ?_ _; rotate_left; focus ((first | omega | (repeat (first | assumption | exact Nat.le_refl _ | refine BW.le_of ?_ | refine le_alloc ?_ | refine le_drew ?_ | refine le_drewN ?_ | refine le_set ?_ | refine le_plus ?_ ))))) | (refine Below.setCell ?_ ?_ _; rotate_left; focus ((first | omega | (repeat (first | assumption | exact Nat.le_refl _ | refine BW.le_of ?_ | refine le_alloc ?_ | refine le_drew ?_ | refine le_drewN ?_ | refine le_set ?_ | refine le_plus ?_ ))))) | refine Below.drew ?_ | refine below_drewN ?_ _)))⟩)
set_option maxRecDepth 100000 in
theorem codeValues_lifted (os : Os) (started : os.Started) (H : Type) (enc : TypeId × Value → H) :
    ReturnsInHanded {} Try.checked os 4 .any (Rows.codeValuesSpec.pre6 enc Try.prog Try.f4 Rows.codeValuesRow.domain false) (Rows.codeValuesSpec.post enc Try.prog Try.f4 false true false false) := by
  refine lifted_of_walk (C := Try.checked) (tb := 4) own started (by kernel_rfl) Try.func4
    (ChangeSpec.witness6 (enc := enc) (C := Try.checked) false ⟨#[], #[.int .i64 0], []⟩ 8 (by kernel_rfl) (by kernel_rfl) (by kernel_rfl) (by kernel_rfl))
    (by kernel_rfl) Try.underlying4 (by kernel_rfl) (by kernel_rfl) rfl ?_ ?_
  · intro ds hl
    match ds, hl with
    | [d0], _ => exact ⟨rfl, rfl, rfl⟩
  · intro W base args ds ps hval hA hfz
    have hA' : DataW.TrodAll enc Try.prog W 0 (fun _ => true) true Try.f4.params.toList args.toList ds ps := hA
    rw [Try.params4] at hA'
    obtain ⟨v0, vs0, d0, ds0, p0, q0, hargs0, rfl, rfl, h0, r0⟩ := trodAll_cons hA'
    obtain ⟨hvs, rfl, rfl⟩ := trodAll_nil r0
    obtain rfl : args = #[v0] := by cases args; simp_all
    have g0 := hval 0 3 v0 rfl rfl
    obtain ⟨c, rfl, hc⟩ := open_i64 Try.underlying3 g0
    exact values_walk hc
theorem codeValues_proved : Rows.CodeValuesSaid :=
  OpenClaim.holds_of_wide 4 Try.f4 rfl rfl rfl rfl rfl rfl rfl ⟨rfl, rfl, rfl, rfl, rfl⟩ rfl rfl rfl rfl rfl (by kernel_rfl) Try.func4 (by kernel_rfl)
    (of_decide_eq_true (by kernel_rfl)) (by unfold Func.isWrapper; first | (rw [if_pos (by decide +kernel)]; kernel_rfl) | (rw [if_neg (by decide +kernel)]; exact ⟨rfl, rfl⟩))
    (fun os started H enc _ => codeValues_lifted os started H enc)
end Go.Proofs.Ytbjpdgilclhiaaa

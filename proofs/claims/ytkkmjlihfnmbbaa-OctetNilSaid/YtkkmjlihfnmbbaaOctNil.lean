/-
  'OctetNil': what no reader tells. For every number.
-/
import Derived.Test.YtkkmjlihfnmbbaaRead
import Derived.Test.YtkkmjlihfnmbbaaOctLaws
namespace Go.Proofs.Ytkkmjlihfnmbbaa
open Go.ChangeShapes Go.WideShapes Go.ChangeAt Go.RowKit
set_option linter.unusedVariables false
set_option linter.unusedSimpArgs false

theorem nil_walk {n : Int} {w : World} : Gives Try.prog 7 #[.int .i64 n] w (.bool true) := by
  refine Gives.of ?_
  go_enter Try.func7, Try.ntmps7
  go_wp2_with ((with_reducible (first | apply Gives.call_bw (Nat.le_refl _) | apply Gives.call)); (focus (first | (with_reducible exact Num_nil) | (with_reducible exact Take_nil) | (with_reducible exact Rest_nil) | (with_reducible exact Left_nil) | (with_reducible exact At_nil) | (with_reducible exact Bad_nil) | (with_reducible exact lives01_any))); intro x)
  go_ret
  exact ⟨rfl, by (first | (simp; done) | (repeat (first | assumption | exact Below.refl _ _ | refine below_bw _ ?_ (by first | omega | (simp; done)) | refine Below.alloc ?_ (by first | omega | (simp; done)) _ | refine Below.setCell ?_ (by first | omega | (simp; done)) _ | refine Below.drew ?_ | refine below_drewN ?_ _)))⟩
set_option maxRecDepth 100000 in
theorem octetNil_lifted (os : Os) (started : os.Started) (H : Type) (enc : TypeId × Value → H) :
    ReturnsInHanded {} Try.checked os 7 .any (Rows.octetNilSpec.pre6 enc Try.prog Try.f7 Rows.octetNilRow.domain false) (Rows.octetNilSpec.post enc Try.prog Try.f7 false true false false) := by
  refine lifted_of_walk (C := Try.checked) (tb := 4) own started (by kernel_rfl) Try.func7
    (ChangeSpec.witness6 (enc := enc) (C := Try.checked) false ⟨#[], #[.int .i64 0], []⟩ 8 (by kernel_rfl) (by kernel_rfl) (by kernel_rfl) (by kernel_rfl))
    (by kernel_rfl) Try.underlying4 (by kernel_rfl) (by kernel_rfl) rfl ?_ ?_
  · intro ds hl
    match ds, hl with
    | [d0], _ => exact ⟨rfl, rfl, rfl⟩
  · intro W base args ds ps hval hA hfz
    have hA' : DataW.TrodAll enc Try.prog W 0 (fun _ => true) true Try.f7.params.toList args.toList ds ps := hA
    rw [Try.params7] at hA'
    obtain ⟨v0, vs0, d0, ds0, p0, q0, hargs0, rfl, rfl, h0, r0⟩ := trodAll_cons hA'
    obtain ⟨hvs, rfl, rfl⟩ := trodAll_nil r0
    obtain rfl : args = #[v0] := by cases args; simp_all
    have g0 := hval 0 3 v0 rfl rfl
    obtain ⟨n, rfl, _⟩ := open_i64 Try.underlying3 g0
    exact nil_walk
theorem octetNil_proved : Rows.OctetNilSaid :=
  OpenClaim.holds_of_wide 7 Try.f7 rfl rfl rfl rfl rfl rfl rfl ⟨rfl, rfl, rfl, rfl, rfl⟩ rfl rfl rfl rfl rfl (by kernel_rfl) Try.func7 (by kernel_rfl)
    (of_decide_eq_true (by kernel_rfl)) (by unfold Func.isWrapper; first | (rw [if_pos (by decide +kernel)]; kernel_rfl) | (rw [if_neg (by decide +kernel)]; exact ⟨rfl, rfl⟩))
    (fun os started H enc _ => octetNil_lifted os started H enc)
end Go.Proofs.Ytkkmjlihfnmbbaa

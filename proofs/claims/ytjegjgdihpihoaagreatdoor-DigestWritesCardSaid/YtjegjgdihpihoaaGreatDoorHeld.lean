/-
  Regions that draw their order: loads of what nobody in the region writes are taken first, calls and new blocks stand in one forced order. No program in sight.
-/
import Derived.Test.YtjegjgdihpihoaaGreatDoorMix
import Derived.OrdersHeld
namespace Go.Proofs.YtjegjgdihpihoaaGreatDoor
open Go.ChangeShapes Go.WideShapes Go.ChangeAt Go.RowKit
set_option linter.unusedVariables false
set_option linter.unusedSimpArgs false

section
variable {P : Program} {l : List Oper} {Q : Exit → Act → World → Prop} {a : Act} {w : World} {o : Oper} {fuel : Nat} {listed : Array Bool} {B : Nat} {W : World}
def valueKindH (o : Oper) : Bool := valueKind o || match o.op with | .load .. | .fieldAddr .. | .indexAddr .. | .build .. | .nilCheck .. | .slice .. => true | .call ⟨.builtin .len, _, _⟩ | .call ⟨.builtin .min, _, _⟩ | .call ⟨.builtin .max, _, _⟩ => true | _ => false
theorem exec_valueH {o : Oper} {ρ : Operand → Value} (hk : valueKindH o = true) {w w' : World} {n : Next} (h : (execOp ρ o).run P w = .ok n w') : ∃ u, n = .value u := by
  unfold valueKindH at hk
  rw [Bool.or_eq_true] at hk
  rcases hk with hk | hk
  · exact exec_value hk h
  · unfold execOp at h
    generalize o.op = op at h hk
    cases op <;> first | (simp at hk; done) | exact bind_value h | skip
    case nilCheck x =>
      simp only at h
      split at h
      · simp [runtimePanic] at h
      · simp [runtimePanic] at h
      · simp [runtimePanic] at h
      · split at h
        · simp [runtimePanic] at h
        · rw [Sem.run_bind] at h
          generalize (Sem.run P program w) = r1 at h
          cases r1 with
          | halt x w1 => simp [Result.andThen] at h
          | ok p1 w1 =>
            simp only [Result.andThen, Sem.run_bind] at h
            generalize Sem.run P (nilAhead _ _ _ _) w1 = r2 at h
            cases r2 with
            | halt x w2 => simp [Result.andThen] at h
            | ok p2 w2 =>
              simp only [Result.andThen] at h
              split at h
              · simp [unsupported] at h
              · simp at h; exact ⟨_, h.1.symm⟩
        · simp at h; exact ⟨_, h.1.symm⟩
      · simp at h; exact ⟨_, h.1.symm⟩
    case call c =>
      obtain ⟨callee, args, tys⟩ := c
      cases callee <;> first | (simp at hk; done) | skip
      rename_i b
      cases b <;> first | (simp at hk; done) | skip
      all_goals
        simp only [resolve, Sem.run_bind, Sem.run_pure, Result.andThen_ok, invoke, builtin] at h
        exact bind_value (by rw [Sem.run_bind]; exact h)
end
end Go.Proofs.YtjegjgdihpihoaaGreatDoor

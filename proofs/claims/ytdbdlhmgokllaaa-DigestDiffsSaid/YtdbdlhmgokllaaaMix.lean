/-
  Regions that draw their order, and hold operations that read no memory ahead of calls or new blocks that stand in one forced order: walked once, in the order of the text. No program in sight.
-/
import Derived.Test.YtdbdlhmgokllaaaKit
namespace Go.Proofs.Ytdbdlhmgokllaaa
set_option linter.unusedVariables false
set_option linter.unusedSimpArgs false

section
variable {P : Program} {l : List Oper} {Q : Exit → Act → World → Prop} {a : Act} {w : World} {o : Oper} {fuel : Nat} {listed : Array Bool}
def valueKind (o : Oper) : Bool := match o.op with
  | .pick .. | .binOp .. | .unOp .. | .convert .. | .slice .. | .index .. | .field .. | .extract .. | .makeInterface .. | .move _ | .assign _ => true
  | _ => false
theorem bind_value {s : Sem Value} {w w' : World} {n : Next} (h : ((do pure (.value (← s))) : Sem Next).run P w = .ok n w') : ∃ u, n = .value u := by
  rw [Sem.run_bind] at h
  generalize s.run P w = r at h
  cases r with
  | ok v w1 =>
    simp [Result.andThen] at h
    exact ⟨v, h.1.symm⟩
  | halt x w1 => simp [Result.andThen] at h
theorem exec_value {o : Oper} {ρ : Operand → Value} (hk : valueKind o = true) {w w' : World} {n : Next} (h : (execOp ρ o).run P w = .ok n w') : ∃ u, n = .value u := by
  unfold execOp at h
  unfold valueKind at hk
  generalize o.op = op at h hk
  cases op <;> first | (simp at hk; done) | skip
  case move x =>
    have h1 : (pure (Next.value (ρ x)) : Sem Next).run P w = .ok n w' := h
    simp at h1; exact ⟨_, h1.1.symm⟩
  case assign x =>
    have h1 : (pure (Next.value (ρ x)) : Sem Next).run P w = .ok n w' := h
    simp at h1; exact ⟨_, h1.1.symm⟩
  case pick c x y =>
    have h : (do pure (.value (if ← asBool (ρ c) then ρ x else ρ y)) : Sem Next).run P w = .ok n w' := h
    rw [Sem.run_bind] at h
    generalize (asBool (ρ c)).run P w = r at h
    cases r with
    | ok v w1 => simp [Result.andThen] at h; exact ⟨_, h.1.symm⟩
    | halt x w1 => simp [Result.andThen] at h
  all_goals exact bind_value h
end
theorem quiet_load {P : Program} {C : World → Prop} {K : Act → Prop} {o : Oper} {a : Act} {ty : TypeId} {x : Operand} {p v : Value} (ho : o.op = .load ty x) (hx : a.eval x = p)
    (h : ∀ w, C w → (Instr.loadAt ty p).run P w = .ok v w) (hk : K (a.put o.dst v)) : o.quiet P a C K := by
  refine ⟨v, fun w hw => ?_, hk⟩
  unfold Oper.quietAt execOp
  simp only [ho, hx, Sem.run_bind, h w hw, Result.andThen_ok, Sem.run_pure]
  exact ⟨rfl, rfl⟩
end Go.Proofs.Ytdbdlhmgokllaaa

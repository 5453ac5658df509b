/-
  Regions that draw their order, and hold operations that read no memory ahead of calls or new blocks that stand in one forced order: walked once, in the order of the text. No program in sight.
-/
import Derived.Test.YtjegjgdihpihoaaGreatDoorKit
namespace Go.Proofs.YtjegjgdihpihoaaGreatDoor
set_option linter.unusedVariables false
set_option linter.unusedSimpArgs false

section
variable {P : Program} {l : List Oper} {Q : Exit → Act → World → Prop} {a : Act} {w : World} {o : Oper} {fuel : Nat} {listed : Array Bool}
/-- an operation that yields a value -/
def valueKind (o : Oper) : Bool := match o.op with
  | .pick .. | .binOp .. | .unOp .. | .convert .. | .slice .. | .index .. | .field .. | .extract .. | .makeInterface .. | .move _ | .assign _ => true
  | _ => false
theorem bind_value {s : Sem Value} {w w' : World} {n : Next} (h : ((do pure (.value (← s))) : Sem Next).run P w = .ok n w') : ∃ u, n = .value u := by
  rw [Sem.run_bind] at h
  generalize s.run P w = r at h
  cases r with
  | ok v w1 =>
    simp [Result.andThen] at h
    exact ⟨v, h.1.symm⟩
  | halt x w1 => simp [Result.andThen] at h
theorem exec_value {o : Oper} {ρ : Operand → Value} (hk : valueKind o = true) {w w' : World} {n : Next} (h : (execOp ρ o).run P w = .ok n w') : ∃ u, n = .value u := by
  unfold execOp at h
  unfold valueKind at hk
  generalize o.op = op at h hk
  cases op <;> first | (simp at hk; done) | skip
  case move x =>
    have h1 : (pure (Next.value (ρ x)) : Sem Next).run P w = .ok n w' := h
    simp at h1; exact ⟨_, h1.1.symm⟩
  case assign x =>
    have h1 : (pure (Next.value (ρ x)) : Sem Next).run P w = .ok n w' := h
    simp at h1; exact ⟨_, h1.1.symm⟩
  case pick c x y =>
    have h : (do pure (.value (if ← asBool (ρ c) then ρ x else ρ y)) : Sem Next).run P w = .ok n w' := h
    rw [Sem.run_bind] at h
    generalize (asBool (ρ c)).run P w = r at h
    cases r with
    | ok v w1 => simp [Result.andThen] at h; exact ⟨_, h.1.symm⟩
    | halt x w1 => simp [Result.andThen] at h
  all_goals exact bind_value h
end
/-- a load in a quiet region, by a law -/
theorem quiet_load {P : Program} {C : World → Prop} {K : Act → Prop} {o : Oper} {a : Act} {ty : TypeId} {x : Operand} {p v : Value} (ho : o.op = .load ty x) (hx : a.eval x = p)
    (h : ∀ w, C w → (Instr.loadAt ty p).run P w = .ok v w) (hk : K (a.put o.dst v)) : o.quiet P a C K := by
  refine ⟨v, fun w hw => ?_, hk⟩
  unfold Oper.quietAt execOp
  simp only [ho, hx, Sem.run_bind, h w hw, Result.andThen_ok, Sem.run_pure]
  exact ⟨rfl, rfl⟩
/-! a text is not empty, as the walk asks it -/
theorem loop_ne (d : ByteArray) : ∀ (n i : Nat) (r : List UInt8), d.size - i = n → (r ≠ [] ∨ i < d.size) → (ByteArray.toList.loop d i r).isEmpty = false
  | 0, i, r, h, h2 => by
    rw [ByteArray.toList.loop, if_neg (by omega)]
    rcases h2 with h2 | h2
    · cases r with
      | nil => exact absurd rfl h2
      | cons a l => simp
    · omega
  | n + 1, i, r, h, h2 => by
    rw [ByteArray.toList.loop, if_pos (by omega)]
    exact loop_ne d n (i + 1) _ (by omega) (.inl (by simp))
theorem notEmpty {d : ByteArray} (h : d.size ≠ 0) : d.toList.isEmpty = false := loop_ne d _ 0 [] rfl (.inr (by omega))
end Go.Proofs.YtjegjgdihpihoaaGreatDoor

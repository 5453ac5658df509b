/-
  Regions that draw their order: loads of what nobody in the region writes are taken first, calls and new blocks stand in one forced order. No program in sight.
-/
import Derived.Test.YtnobencogihbnaaGreatMix
import Derived.OrdersHeld
namespace Go.Proofs.YtnobencogihbnaaGreat
open Go.ChangeShapes Go.WideShapes Go.ChangeAt Go.RowKit
set_option linter.unusedVariables false
set_option linter.unusedSimpArgs false

section
variable {P : Program} {l : List Oper} {Q : Exit → Act → World → Prop} {a : Act} {w : World} {o : Oper} {fuel : Nat} {listed : Array Bool} {B : Nat} {W : World}
/-- the walk stands where the operations 'listed' are done, in a world that is as W was below block B -/
def WMH (P : Program) (l : List Oper) (Q : Exit → Act → World → Prop) (B : Nat) (W : World) (fuel : Nat) (listed : Array Bool) (a : Act) (w : World) : Prop :=
  wpAnyH P .any l.toArray Q (fun w' => ∃ y : BW B W, w' = y.w) fuel listed a w
def valueKindH (o : Oper) : Bool := valueKind o || match o.op with | .load .. | .fieldAddr .. | .indexAddr .. | .build .. | .nilCheck .. | .slice .. => true | .call ⟨.builtin .len, _, _⟩ | .call ⟨.builtin .min, _, _⟩ | .call ⟨.builtin .max, _, _⟩ => true | _ => false
theorem exec_valueH {o : Oper} {ρ : Operand → Value} (hk : valueKindH o = true) {w w' : World} {n : Next} (h : (execOp ρ o).run P w = .ok n w') : ∃ u, n = .value u := by
  unfold valueKindH at hk
  rw [Bool.or_eq_true] at hk
  rcases hk with hk | hk
  · exact exec_value hk h
  · unfold execOp at h
    generalize o.op = op at h hk
    cases op <;> first | (simp at hk; done) | exact bind_value h | skip
    case nilCheck x =>
      simp only at h
      split at h
      · simp [runtimePanic] at h
      · simp [runtimePanic] at h
      · simp [runtimePanic] at h
      · split at h
        · simp [runtimePanic] at h
        · rw [Sem.run_bind] at h
          generalize (Sem.run P program w) = r1 at h
          cases r1 with
          | halt x w1 => simp [Result.andThen] at h
          | ok p1 w1 =>
            simp only [Result.andThen, Sem.run_bind] at h
            generalize Sem.run P (nilAhead _ _ _ _) w1 = r2 at h
            cases r2 with
            | halt x w2 => simp [Result.andThen] at h
            | ok p2 w2 =>
              simp only [Result.andThen] at h
              split at h
              · simp [unsupported] at h
              · simp at h; exact ⟨_, h.1.symm⟩
        · simp at h; exact ⟨_, h.1.symm⟩
      · simp at h; exact ⟨_, h.1.symm⟩
    case call c =>
      obtain ⟨callee, args, tys⟩ := c
      cases callee <;> first | (simp at hk; done) | skip
      rename_i b
      cases b <;> first | (simp at hk; done) | skip
      all_goals
        simp only [resolve, Sem.run_bind, Sem.run_pure, Result.andThen_ok, invoke, builtin] at h
        exact bind_value (by rw [Sem.run_bind]; exact h)
theorem held_take (i : Nat) (ho : l[i]? = some o) (hs : Region.noSelect l.toArray = true) (hf : (Region.free .any l.toArray listed i && (Region.ready .any l.toArray listed).contains i && valueKindH o) = true)
    (hQ : ∀ c a v w, Q (.panic c) (a.put o.dst v) w → Q (.panic c) a w) (hS : ∃ y : BW B W, w = y.w)
    (h : wpQuiet P l.toArray (fun w' => ∃ y : BW B W, w' = y.w) (fun a' => WMH P l Q B W fuel (listed.setIfInBounds i true) a' w) [o] a) : WMH P l Q B W (fuel + 1) listed a w := by
  simp only [Bool.and_eq_true] at hf
  obtain ⟨⟨hf, hr⟩, hk⟩ := hf
  have ho' : l.toArray[i]? = some o := by simpa using ho
  unfold WMH
  unfold wpQuiet at h
  by_cases hw : Region.wanted o (yielded l.toArray a.tmps) = true
  · rw [if_pos hw] at h
    obtain ⟨v, h1, h2⟩ := h
    refine wpAnyH_take (v := v) ho' hs hf hr (fun c a w => hQ c a _ w) (Or.inl ⟨hw, fun w1 hw1 => ?_⟩) hS h2
    have h3 := h1 w1 hw1
    unfold Oper.quietAt at h3
    cases hrun : (execOp a.eval o).run P w1 with
    | ok n w2 =>
      obtain ⟨u, rfl⟩ := exec_valueH hk hrun
      rw [hrun] at h3
      obtain ⟨e1, e2⟩ := h3
      rw [e1, e2]
    | halt x w2 => rw [hrun] at h3; exact h3.elim
  · rw [if_neg hw] at h
    exact wpAnyH_take (v := undef) ho' hs hf hr (fun c a w => hQ c a _ w) (Or.inr ⟨by simpa using hw, rfl⟩) hS h
theorem held_nil {C : World → Prop} {ops' : Array Oper} (h : WMH P l Q B W fuel listed a w) : wpQuiet P ops' C (fun a' => WMH P l Q B W fuel listed a' w) [] a := h
/-- behind one forced operation -/
def heldQ (P : Program) (l : List Oper) (Q : Exit → Act → World → Prop) (B : Nat) (W : World) (fuel : Nat) (listed : Array Bool) : Exit → Act → World → Prop
  | .normal, a, w => (∃ y : BW B W, w = y.w) ∧ WMH P l Q B W fuel listed a w
  | e, a, w => Q e a w
theorem heldQ_normal (h : Below B W w) (h2 : WMH P l Q B W fuel listed a w) : heldQ P l Q B W fuel listed .normal a w := ⟨⟨BW.mk h, rfl⟩, h2⟩
/-- an operation that stands alone: nothing else may come up -/
theorem held_forced (i : Nat) (ho : l[i]? = some o) (hr : Region.ready .any l.toArray listed = [i]) (h : wpList P l.toArray (heldQ P l Q B W fuel (listed.setIfInBounds i true)) [o] a w) : WMH P l Q B W (fuel + 1) listed a w := by
  have ho' : l.toArray[i]? = some o := by simpa using ho
  unfold WMH
  refine ⟨fun h0 => by (rw [hr] at h0; exact absurd h0 (by simp)), fun j hj => ?_⟩
  rw [hr] at hj
  obtain rfl : j = i := by simpa using hj
  unfold wpOp
  rw [ho']
  simp only
  have hout : LetsOut (heldQ P l Q B W fuel (listed.setIfInBounds j true)) → LetsOut Q := fun ⟨a1, w1, h1⟩ => ⟨a1, w1, h1⟩
  unfold wpList at h
  by_cases hw : Region.wanted o (yielded l.toArray a.tmps) = true
  · rw [if_pos hw] at h ⊢
    refine h.imp (fun h => ?_) (fun h => ⟨h.1, hout h.2⟩)
    unfold Oper.wp at *
    generalize (execOp a.eval o).run P w = r at *
    cases r with
    | ok n w' =>
      cases n <;> simp only [Oper.upon] at h ⊢ <;>
        first
          | exact h
          | exact Calls.mono h (fun e w'' he => by cases e <;> first | exact he | exact hout he)
          | exact Rows.mono h (fun _ _ he => he)
    | halt x w' => cases x <;> simp only [Oper.upon] at h ⊢ <;> exact h
  · rw [if_neg hw] at h ⊢
    exact h
theorem held_end (hr : Region.ready .any l.toArray listed = []) (h : Q .normal a w) : WMH P l Q B W fuel listed a w := wpAnyH_done hr h _
theorem wp_region_heldW {id : Nat} {l : List Oper} (hm : P.follows .mixedOrders = true) (h : WMH P l Q w.heap.size w l.length (Array.replicate l.length false) a w.drew) : (Code.region id l.toArray true).wp P Q a w :=
  wp_region_held hm (by unfold WMH at h; simpa using h)
end
end Go.Proofs.YtnobencogihbnaaGreat

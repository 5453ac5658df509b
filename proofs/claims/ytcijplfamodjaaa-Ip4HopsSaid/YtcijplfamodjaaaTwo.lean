/-
  Regions that draw their order: two operations that may come up in either order, walked in both. No program in sight.
-/
import Derived.Test.YtcijplfamodjaaaHeld
namespace Go.Proofs.Ytcijplfamodjaaa
open Go.ChangeShapes Go.WideShapes Go.ChangeAt Go.RowKit
set_option linter.unusedVariables false
set_option linter.unusedSimpArgs false

section
variable {P : Program} {l : List Oper} {Q : Exit → Act → World → Prop} {a : Act} {w : World} {o o2 : Oper} {fuel : Nat} {listed : Array Bool}
/-- mix_pure, for literals of structs and addresses too -/
theorem mix_pureB (i : Nat) (ho : l[i]? = some o) (hs : Region.noSelect l.toArray = true) (hf : (Region.free .any l.toArray listed i && (Region.ready .any l.toArray listed).contains i && valueKindH o) = true)
    (hQ : ∀ c a v w, Q (.panic c) (a.put o.dst v) w → Q (.panic c) a w) (h : wpQuiet P l.toArray (fun _ => True) (fun a' => WM P l Q fuel (listed.setIfInBounds i true) a' w) [o] a) : WM P l Q (fuel + 1) listed a w := by
  simp only [Bool.and_eq_true] at hf
  obtain ⟨⟨hf, hr⟩, hk⟩ := hf
  have ho' : l.toArray[i]? = some o := by simpa using ho
  unfold WM
  unfold wpQuiet at h
  by_cases hw : Region.wanted o (yielded l.toArray a.tmps) = true
  · rw [if_pos hw] at h
    obtain ⟨v, h1, h2⟩ := h
    refine wpAny_take (v := v) ho' hs hf hr (fun c a w => hQ c a _ w) (Or.inl ⟨hw, fun w1 => ?_⟩) h2
    have h3 := h1 w1 trivial
    unfold Oper.quietAt at h3
    cases hrun : (execOp a.eval o).run P w1 with
    | ok n w2 =>
      obtain ⟨u, rfl⟩ := exec_valueH hk hrun
      rw [hrun] at h3
      obtain ⟨e1, e2⟩ := h3
      rw [e1, e2]
    | halt x w2 => rw [hrun] at h3; exact h3.elim
  · rw [if_neg hw] at h
    exact wpAny_take (v := undef) ho' hs hf hr (fun c a w => hQ c a _ w) (Or.inr ⟨by simpa using hw, rfl⟩) h
theorem mix_op (i : Nat) (ho : l[i]? = some o) (h : wpList P l.toArray (mixQ P l Q fuel (listed.setIfInBounds i true)) [o] a w) : wpOp P l.toArray Q i (wpAny P .any l.toArray Q fuel (listed.setIfInBounds i true)) a w := by
  have ho' : l.toArray[i]? = some o := by simpa using ho
  unfold wpOp
  rw [ho']
  simp only
  have hout : LetsOut (mixQ P l Q fuel (listed.setIfInBounds i true)) → LetsOut Q := fun ⟨a1, w1, h1⟩ => ⟨a1, w1, h1⟩
  unfold wpList at h
  by_cases hw : Region.wanted o (yielded l.toArray a.tmps) = true
  · rw [if_pos hw] at h ⊢
    refine h.imp (fun h => ?_) (fun h => ⟨h.1, hout h.2⟩)
    unfold Oper.wp at *
    generalize (execOp a.eval o).run P w = r at *
    cases r with
    | ok n w' =>
      cases n <;> simp only [Oper.upon] at h ⊢ <;>
        first
          | exact h
          | exact Calls.mono h (fun e w'' he => by cases e <;> first | exact he | exact hout he)
          | exact Rows.mono h (fun _ _ he => he)
    | halt x w' => cases x <;> simp only [Oper.upon] at h ⊢ <;> exact h
  · rw [if_neg hw] at h ⊢
    exact h
theorem mix_one (i : Nat) (ho : l[i]? = some o) (hr : Region.ready .any l.toArray listed = [i]) (h : wpList P l.toArray (mixQ P l Q fuel (listed.setIfInBounds i true)) [o] a w) : WM P l Q (fuel + 1) listed a w := by
  unfold WM
  refine ⟨fun h0 => by (rw [hr] at h0; exact absurd h0 (by simp)), fun j hj => ?_⟩
  rw [hr] at hj
  obtain rfl : j = i := by simpa using hj
  exact mix_op j ho h
theorem mix_two (i j : Nat) (ho : l[i]? = some o) (ho2 : l[j]? = some o2) (hr : Region.ready .any l.toArray listed = [i, j]) (h : wpList P l.toArray (mixQ P l Q fuel (listed.setIfInBounds i true)) [o] a w)
    (h2 : wpList P l.toArray (mixQ P l Q fuel (listed.setIfInBounds j true)) [o2] a w) : WM P l Q (fuel + 1) listed a w := by
  unfold WM
  refine ⟨fun h0 => by (rw [hr] at h0; exact absurd h0 (by simp)), fun k hk => ?_⟩
  rw [hr] at hk
  simp at hk
  rcases hk with rfl | rfl
  · exact mix_op k ho h
  · exact mix_op k ho2 h2
end
end Go.Proofs.Ytcijplfamodjaaa

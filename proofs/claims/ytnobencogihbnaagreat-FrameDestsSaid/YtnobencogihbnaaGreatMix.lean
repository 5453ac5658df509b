/-
  Regions that draw their order, and hold operations that read no memory ahead of calls or new blocks that stand in one forced order: walked once, in the order of the text. No program in sight.
-/
import Derived.Test.YtnobencogihbnaaGreatKit
namespace Go.Proofs.YtnobencogihbnaaGreat
set_option linter.unusedVariables false
set_option linter.unusedSimpArgs false

section
variable {P : Program} {l : List Oper} {Q : Exit → Act → World → Prop} {a : Act} {w : World} {o : Oper} {fuel : Nat} {listed : Array Bool}
/-- the walk stands where the operations 'listed' are done -/
def WM (P : Program) (l : List Oper) (Q : Exit → Act → World → Prop) (fuel : Nat) (listed : Array Bool) (a : Act) (w : World) : Prop := wpAny P .any l.toArray Q fuel listed a w
/-- an operation that yields a value -/
def valueKind (o : Oper) : Bool := match o.op with
  | .pick .. | .binOp .. | .unOp .. | .convert .. | .slice .. | .index .. | .field .. | .extract .. | .makeInterface .. | .move _ | .assign _ => true
  | _ => false
theorem bind_value {s : Sem Value} {w w' : World} {n : Next} (h : ((do pure (.value (← s))) : Sem Next).run P w = .ok n w') : ∃ u, n = .value u := by
  rw [Sem.run_bind] at h
  generalize s.run P w = r at h
  cases r with
  | ok v w1 =>
    simp [Result.andThen] at h
    exact ⟨v, h.1.symm⟩
  | halt x w1 => simp [Result.andThen] at h
theorem exec_value {o : Oper} {ρ : Operand → Value} (hk : valueKind o = true) {w w' : World} {n : Next} (h : (execOp ρ o).run P w = .ok n w') : ∃ u, n = .value u := by
  unfold execOp at h
  unfold valueKind at hk
  generalize o.op = op at h hk
  cases op <;> first | (simp at hk; done) | skip
  case move x =>
    have h1 : (pure (Next.value (ρ x)) : Sem Next).run P w = .ok n w' := h
    simp at h1; exact ⟨_, h1.1.symm⟩
  case assign x =>
    have h1 : (pure (Next.value (ρ x)) : Sem Next).run P w = .ok n w' := h
    simp at h1; exact ⟨_, h1.1.symm⟩
  case pick c x y =>
    have h : (do pure (.value (if ← asBool (ρ c) then ρ x else ρ y)) : Sem Next).run P w = .ok n w' := h
    rw [Sem.run_bind] at h
    generalize (asBool (ρ c)).run P w = r at h
    cases r with
    | ok v w1 => simp [Result.andThen] at h; exact ⟨_, h.1.symm⟩
    | halt x w1 => simp [Result.andThen] at h
  all_goals exact bind_value h
/-- an operation that yields the same in whatever world: it is taken first -/
theorem mix_pure (i : Nat) (ho : l[i]? = some o) (hs : Region.noSelect l.toArray = true) (hf : (Region.free .any l.toArray listed i && (Region.ready .any l.toArray listed).contains i && valueKind o) = true)
    (hQ : ∀ c a v w, Q (.panic c) (a.put o.dst v) w → Q (.panic c) a w) (h : wpQuiet P l.toArray (fun _ => True) (fun a' => WM P l Q fuel (listed.setIfInBounds i true) a' w) [o] a) : WM P l Q (fuel + 1) listed a w := by
  simp only [Bool.and_eq_true] at hf
  obtain ⟨⟨hf, hr⟩, hk⟩ := hf
  have ho' : l.toArray[i]? = some o := by simpa using ho
  unfold WM
  unfold wpQuiet at h
  by_cases hw : Region.wanted o (yielded l.toArray a.tmps) = true
  · rw [if_pos hw] at h
    obtain ⟨v, h1, h2⟩ := h
    refine wpAny_take (v := v) ho' hs hf hr (fun c a w => hQ c a _ w) (Or.inl ⟨hw, fun w1 => ?_⟩) h2
    have h3 := h1 w1 trivial
    unfold Oper.quietAt at h3
    cases hrun : (execOp a.eval o).run P w1 with
    | ok n w2 =>
      obtain ⟨u, rfl⟩ := exec_value hk hrun
      rw [hrun] at h3
      obtain ⟨e1, e2⟩ := h3
      rw [e1, e2]
    | halt x w2 => rw [hrun] at h3; exact h3.elim
  · rw [if_neg hw] at h
    exact wpAny_take (v := undef) ho' hs hf hr (fun c a w => hQ c a _ w) (Or.inr ⟨by simpa using hw, rfl⟩) h
theorem mix_nil {C : World → Prop} {ops' : Array Oper} (h : WM P l Q fuel listed a w) : wpQuiet P ops' C (fun a' => WM P l Q fuel listed a' w) [] a := h
/-- behind one forced operation -/
def mixQ (P : Program) (l : List Oper) (Q : Exit → Act → World → Prop) (fuel : Nat) (listed : Array Bool) : Exit → Act → World → Prop
  | .normal, a, w => WM P l Q fuel listed a w
  | e, a, w => Q e a w
theorem mixQ_normal (h : WM P l Q fuel listed a w) : mixQ P l Q fuel listed .normal a w := h
/-- an operation that stands alone: nothing else may come up -/
theorem mix_forced (i : Nat) (hk : valueKind o = false) (ho : l[i]? = some o) (hr : Region.ready .any l.toArray listed = [i]) (h : wpList P l.toArray (mixQ P l Q fuel (listed.setIfInBounds i true)) [o] a w) : WM P l Q (fuel + 1) listed a w := by
  have ho' : l.toArray[i]? = some o := by simpa using ho
  unfold WM
  refine ⟨fun h0 => by (rw [hr] at h0; exact absurd h0 (by simp)), fun j hj => ?_⟩
  rw [hr] at hj
  obtain rfl : j = i := by simpa using hj
  unfold wpOp
  rw [ho']
  simp only
  have hout : LetsOut (mixQ P l Q fuel (listed.setIfInBounds j true)) → LetsOut Q := fun ⟨a1, w1, h1⟩ => ⟨a1, w1, h1⟩
  unfold wpList at h
  by_cases hw : Region.wanted o (yielded l.toArray a.tmps) = true
  · rw [if_pos hw] at h ⊢
    refine h.imp (fun h => ?_) (fun h => ⟨h.1, hout h.2⟩)
    unfold Oper.wp at *
    generalize (execOp a.eval o).run P w = r at *
    cases r with
    | ok n w' =>
      cases n <;> simp only [Oper.upon] at h ⊢ <;>
        first
          | exact h
          | exact Calls.mono h (fun e w'' he => by cases e <;> first | exact he | exact hout he)
          | exact Rows.mono h (fun _ _ he => he)
    | halt x w' => cases x <;> simp only [Oper.upon] at h ⊢ <;> exact h
  · rw [if_neg hw] at h ⊢
    exact h
theorem mix_end (hr : Region.ready .any l.toArray listed = []) (h : Q .normal a w) : WM P l Q fuel listed a w := wpAny_done hr h _
theorem wp_region_mix {id : Nat} {l : List Oper} (hm : P.follows .mixedOrders = true) (h : WM P l Q l.length (Array.replicate l.length false) a w.drew) : (Code.region id l.toArray true).wp P Q a w :=
  wp_region_any hm (by unfold WM at h; simpa using h)
end
/-- a load in a quiet region, by a law -/
theorem quiet_load {P : Program} {C : World → Prop} {K : Act → Prop} {o : Oper} {a : Act} {ty : TypeId} {x : Operand} {p v : Value} (ho : o.op = .load ty x) (hx : a.eval x = p)
    (h : ∀ w, C w → (Instr.loadAt ty p).run P w = .ok v w) (hk : K (a.put o.dst v)) : o.quiet P a C K := by
  refine ⟨v, fun w hw => ?_, hk⟩
  unfold Oper.quietAt execOp
  simp only [ho, hx, Sem.run_bind, h w hw, Result.andThen_ok, Sem.run_pure]
  exact ⟨rfl, rfl⟩
/-! a text is not empty, as the walk asks it -/
theorem loop_ne (d : ByteArray) : ∀ (n i : Nat) (r : List UInt8), d.size - i = n → (r ≠ [] ∨ i < d.size) → (ByteArray.toList.loop d i r).isEmpty = false
  | 0, i, r, h, h2 => by
    rw [ByteArray.toList.loop, if_neg (by omega)]
    rcases h2 with h2 | h2
    · cases r with
      | nil => exact absurd rfl h2
      | cons a l => simp
    · omega
  | n + 1, i, r, h, h2 => by
    rw [ByteArray.toList.loop, if_pos (by omega)]
    exact loop_ne d n (i + 1) _ (by omega) (.inl (by simp))
theorem notEmpty {d : ByteArray} (h : d.size ≠ 0) : d.toList.isEmpty = false := loop_ne d _ 0 [] rfl (.inr (by omega))
end Go.Proofs.YtnobencogihbnaaGreat

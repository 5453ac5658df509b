/-
  Parts of blocks: append of what lies in a block, clear, stores at any place; blocks in whatever order. No program in sight.
-/
import Derived.Test.YtjegjgdihpihoaaGreatDoorAo
import Derived.Test.YtjegjgdihpihoaaGreatDoorHk
namespace Go.Proofs.YtjegjgdihpihoaaGreatDoor
open Go.ChangeShapes Go.WideShapes Go.ChangeAt Go.RowKit
set_option linter.unusedVariables false
set_option linter.unusedSimpArgs false
set_option maxRecDepth 20000
attribute [local irreducible] wpList

/-! ### blocks in whatever order -/
open Classical in
open Classical in
section
variable {P : Program} {T : Tab} {TS : List (Nat × Nat)} {B : Nat} {w0 W : World} {H : HB} {g : Nat} {t el ty : TypeId} {b : Bool} {S S2 : List Seg} {e : TyE}
variable {ops : Array Oper} {rest : List Oper} {op : Oper} {a : Act} {Q : Exit → Act → World → Prop} {x s y : Operand} {n c m cx p q o : Nat} {L J C A : List Value} {qa : Addr} {v : Value}
theorem Hp.oldS {i : Nat} (hH : Hp B w0 W H) (hi : nthH H i = some (g, t, b, S)) (h : AtL (fls S) o C) : OldS W ⟨g, o, none⟩ C := fun j u hu => by
  obtain ⟨pre, post, h1, h2⟩ := h
  rw [show (⟨g, o, none⟩ : Addr).add j = ⟨g, o + j, none⟩ by unfold Addr.add; split <;> simp_all, (hH.rows.mem hi).1.cell, List.getElem?_toArray, h1, ← h2, List.getElem?_append_right (by omega), Nat.add_sub_cancel_left, List.getElem?_append_left (List.getElem?_eq_some_iff.1 hu).1]
  exact hu
theorem upd_ex : ∀ {H : HB} {i : Nat} {r}, nthH H i = some r → ∀ S', ∃ H', updH H i S' = some H'
  | [], _, _, h, _ => by simp [nthH] at h
  | r :: H, 0, _, _, S' => ⟨_, rfl⟩
  | r :: H, i + 1, _, h, S' => by
    obtain ⟨H', h⟩ := upd_ex (H := H) (i := i) (by simpa [nthH] using h) S'
    exact ⟨r :: H', by simp only [updH]; rw [h]⟩
end
end Go.Proofs.YtjegjgdihpihoaaGreatDoor

/-
  Append of what lies in old memory; blocks among others. No program in sight.
-/
import Derived.Test.YtealimfmognglaaOld
namespace Go.Proofs.Ytealimfmognglaa
open Go.ChangeShapes Go.WideShapes Go.ChangeAt Go.RowKit
set_option linter.unusedVariables false
set_option linter.unusedSimpArgs false
set_option maxRecDepth 20000
attribute [local irreducible] wpList

theorem SubH.trans {A B C : HB} (h : SubH A B) (k : SubH B C) : SubH A C := by
  induction h generalizing C with
  | refl => exact k
  | drop _ ih => exact .drop (ih k)
  | keep h ih =>
    cases k with
    | refl => exact .keep h
    | drop k => exact .drop (ih k)
    | keep k => exact .keep (ih k)
theorem SubH.appL : ∀ {A B : HB}, SubH (A ++ B) A
  | [], B => SubH.nil
  | _ :: A, B => .keep SubH.appL
theorem SubH.appR : ∀ {A B : HB}, SubH (A ++ B) B
  | [], B => .refl
  | _ :: A, B => .drop SubH.appR
theorem SubH.l {A B D : HB} (h : SubH A D) : SubH (A ++ B) D := SubH.appL.trans h
theorem SubH.r {A B D : HB} (h : SubH B D) : SubH (A ++ B) D := SubH.appR.trans h
/-- cells of old memory, from a place on -/
def OldS (w : World) (q : Addr) (C : List Value) : Prop := ∀ j u, C[j]? = some u → w.cell? (q.add j) = some u
section
variable {P : Program} {T : Tab} {TS : List (Nat × Nat)} {B : Nat} {w0 W : World} {H : HB} {g : Nat} {t el ty : TypeId} {b : Bool} {S : List Seg} {e : TyE}
variable {ops : Array Oper} {rest : List Oper} {op : Oper} {a : Act} {Q : Exit → Act → World → Prop} {x s : Operand} {n c m cx p q : Nat} {L J C : List Value} {qa : Addr}
theorem OldS.below {w W : World} (h : OldS w qa C) (hb : Below w.heap.size w W) : OldS W qa C := fun j u hj => by
  have := h j u hj
  rw [hb.cell (cell_lt1 this)]
  exact this
/-- the empty slice -/
theorem hSl0 (hT : TabOk P T) (ho : op.op = .buildSlice ty 0 #[]) (hw : Region.wanted op (yielded ops a.tmps) = true) (hTS : TabSOk P TS) (hfs : findS ty TS = some el) (hty : findT el T = some e) (hlz : lenS e.zero = e.size) (hH : Hp B w0 W H)
    (h : ∀ W' g, Hp B w0 W' ((g, el, true, [.many [] 0, .many [] 0]) :: H) → wpList P ops Q rest (a.put op.dst (.slice (some ⟨g, 0, none⟩) 0 0)) W') : wpList P ops Q (op :: rest) a W := by
  have hu := (hTS.find hfs).slice
  obtain ⟨ie, z, hie, hz, e1, e2, e3⟩ := elem_parts hT hty hlz
  have hrun : (Instr.buildSlice ty 0 #[]).run P W = .ok (.slice (some ⟨W.heap.size, 0, none⟩) 0 0) (W.alloc (.cells #[] el)) := by
    simp [Instr.buildSlice, run_underlying hu, sizeOf, typeInfo, zeroValue, hie, hz, newRow, Instr.fill]
    refine congrArg (fun c => W.alloc (.cells c el)) (Array.ext' ?_)
    simp
  unfold wpList
  rw [if_pos hw]
  refine Or.inl ?_
  unfold Oper.wp execOp
  simp only [ho, List.map_toArray, List.map_nil, Sem.run_bind, hrun, Result.andThen_ok, Sem.run_pure]
  exact h _ _ (hH.alloc el (S := [.many [] 0, .many [] 0]) ⟨⟨rfl, by simp⟩, ⟨rfl, by simp⟩, trivial⟩)
end
end Go.Proofs.Ytealimfmognglaa

/-
  The arms of the walk, the block found by its name (by a class, so that a text need not name its place). No program in sight.
-/
import Derived.Test.YtnobencogihbnaaGreatSl
import Derived.Test.YtnobencogihbnaaGreatHk
namespace Go.Proofs.YtnobencogihbnaaGreat
open Go.ChangeShapes Go.WideShapes Go.ChangeAt Go.RowKit
set_option linter.unusedVariables false
set_option linter.unusedSimpArgs false
set_option maxRecDepth 20000
attribute [local irreducible] wpList

theorem pA {α : Type} {l : List α} {i : Nat} {a : α} : l.toArray.setIfInBounds i a = (l.set i a).toArray := List.setIfInBounds_toArray ..
theorem pB {α : Type} {x : α} {l : List α} {n : Nat} {a : α} : (x :: l).set (n + 1) a = x :: l.set n a := rfl
theorem pC {α : Type} {x : α} {l : List α} {a : α} : (x :: l).set 0 a = a :: l := rfl
theorem pk {l : List Oper} (i : Nat) {o : Oper} {ix : List Nat} {os : List Oper} (h : l[i]? = some o) (hp : PickR l ix os) : PickR l (i :: ix) (o :: os) := PickR.cons (i := i) h hp
/-- the block of a name among blocks -/
class HasB (H : HB) (g : Nat) (t : outParam TypeId) (b : outParam Bool) (S : outParam (List Seg)) where
  i : Nat
  h : nthH H i = some (g, t, b, S)
instance hasHere {g : Nat} {t : TypeId} {b : Bool} {S : List Seg} {H : HB} : HasB ((g, t, b, S) :: H) g t b S := ⟨0, rfl⟩
instance hasThere {r : Nat × TypeId × Bool × List Seg} {g : Nat} {t : TypeId} {b : Bool} {S : List Seg} {H : HB} [k : HasB H g t b S] : HasB (r :: H) g t b S := ⟨k.i + 1, k.h⟩
/-- blocks that lie among others -/
class SubI (A B : HB) : Prop where
  h : SubH A B
instance subNil {A : HB} : SubI A [] := ⟨SubH.nil⟩
instance subDrop {r : Nat × TypeId × Bool × List Seg} {A B : HB} [k : SubI A B] : SubI (r :: A) B := ⟨.drop k.h⟩
instance subKeep {r : Nat × TypeId × Bool × List Seg} {A B : HB} [k : SubI A B] : SubI (r :: A) (r :: B) := ⟨.keep k.h⟩
instance subSame {A : HB} : SubI A A := ⟨.refl⟩
/-- what lies at a place: one cell, or a struct -/
def ldS (S : List Seg) (o : Nat) (e : TyE) : Option Value := match e.row with
  | true => match partS S o e.size with
    | some S2 => some (.agg (fls S2).toArray)
    | none => none
  | false => cellS S o
theorem ldS_ok {S : List Seg} {o : Nat} {e : TyE} {v : Value} (h : ldS S o e = some v) : (e.row = true ∧ ∃ S2, partS S o e.size = some S2 ∧ v = .agg (fls S2).toArray) ∨ (e.row = false ∧ cellS S o = some v) := by
  unfold ldS at h
  cases hr : e.row with
  | true =>
    rw [hr] at h
    simp only at h
    cases hp : partS S o e.size with
    | none => rw [hp] at h; simp at h
    | some S2 =>
      rw [hp] at h
      simp at h
      exact .inl ⟨rfl, S2, rfl, h.symm⟩
  | false =>
    rw [hr] at h
    exact .inr ⟨rfl, h⟩
section
variable {P : Program} {T : Tab} {B : Nat} {w0 W : World} {H : HB} {g : Nat} {t : TypeId} {b : Bool} {S : List Seg}
variable {ops : Array Oper} {rest : List Oper} {op : Oper} {a : Act} {Q : Exit → Act → World → Prop} {ty : TypeId} {x y : Operand} {o p : Nat} {A : List Value}
theorem run_ldS {i : Nat} {e : TyE} {v : Value} (hT : TabOk P T) (hH : Hp B w0 W H) (hi : nthH H i = some (g, t, b, S)) (hty : findT ty T = some e) (hc : ldS S o e = some v) : (Instr.loadAt ty (.pointer (some ⟨g, o, none⟩))).run P W = .ok v W := by
  rcases ldS_ok hc with ⟨hr, S2, h1, rfl⟩ | ⟨hr, h1⟩
  · exact run_row hT hH hi hty hr h1
  · exact run_cell hT hH hi hty hr (cellS_ok (hH.rows.mem hi).2.1 h1)
theorem iL (hT : TabOk P T) (ho : op.op = .load ty x) (hw : Region.wanted op (yielded ops a.tmps) = true) (hx : a.eval x = .pointer (some ⟨g, o, none⟩)) (hH : Hp B w0 W H) [hi : HasB H g t b S]
    (h : ∃ e v, findT ty T = some e ∧ ldS S o e = some v ∧ ∀ W', Hp B w0 W' H → wpList P ops Q rest (a.put op.dst v) W') : wpList P ops Q (op :: rest) a W := by
  obtain ⟨e, v, h1, h2, h⟩ := h
  exact wpL_load ho hw hx (run_ldS hT hH hi.h h1 h2) (h W hH)
theorem iLi (hT : TabOk P T) (ho : op.op = .load ty x) (hw : Region.wanted op (yielded ops a.tmps) = true) (hx : a.eval x = .pointer (some ⟨g, o, none⟩)) (hH : Hp B w0 W H) [hi : HasB H g t b S]
    (h : ∃ e A j v, findT ty T = some e ∧ e.row = false ∧ intoS S o = some (A, j) ∧ CellA A j v ∧ ∀ W', Hp B w0 W' H → wpList P ops Q rest (a.put op.dst v) W') : wpList P ops Q (op :: rest) a W := by
  obtain ⟨e, A, j, v, h1, h2, h3, h4, h⟩ := h
  exact hL1i hT hi.i ho hw hx hH hi.h h1 h2 h3 ⟨v, h4, h⟩
theorem iS1 (hT : TabOk P T) (ho : op.op = .store ty x y) (hw : Region.wanted op (yielded ops a.tmps) = true) (hx : a.eval x = .pointer (some ⟨g, o, none⟩)) (hH : Hp B w0 W H) [hi : HasB H g t true S]
    (h : ∃ v e S' H', one1 (a.eval y) = some v ∧ findT ty T = some e ∧ e.size = 1 ∧ setS S o v = some S' ∧ updH H hi.i S' = some H' ∧ ∀ W', Hp B w0 W' H' → wpList P ops Q rest (a.put op.dst undef) W') : wpList P ops Q (op :: rest) a W := by
  obtain ⟨v, e, S', H', h1, h2, h3, h4, h5, h⟩ := h
  exact hS1 hT hi.i ho hw hx h1 hH hi.h h2 h3 h4 h5 h
theorem iSR (hT : TabOk P T) (ho : op.op = .store ty x y) (hw : Region.wanted op (yielded ops a.tmps) = true) (hx : a.eval x = .pointer (some ⟨g, o, none⟩)) (hH : Hp B w0 W H) [hi : HasB H g t true S]
    (h : ∃ S2 e S' H', a.eval y = .agg (fls S2).toArray ∧ findT ty T = some e ∧ lenS S2 = e.size ∧ splS S o e.size S2 = some S' ∧ updH H hi.i S' = some H' ∧ okS S2 ∧ ∀ W', Hp B w0 W' H' → wpList P ops Q rest (a.put op.dst undef) W') : wpList P ops Q (op :: rest) a W := by
  obtain ⟨S2, e, S', H', h1, h2, h3, h4, h5, h6, h⟩ := h
  exact hSR hT hi.i ho hw hx h1 hH hi.h h2 h3 h4 h5 h6 h
theorem iLx (hT : TabOk P T) (ho : op.op = .load ty x) (hw : Region.wanted op (yielded ops a.tmps) = true) (hx : a.eval x = .pointer (some ⟨g, o, none⟩)) (hH : Hp B w0 W H) [hi : HasB H g t b (.many A p :: S)]
    (h : ∃ e, findT ty T = some e ∧ e.row = true ∧ ∃ k C, AtL A k (fls C) ∧ o = k ∧ lenS C = e.size ∧ okS C ∧ ∀ W', Hp B w0 W' H → wpList P ops Q rest (a.put op.dst (.agg (fls C).toArray)) W') : wpList P ops Q (op :: rest) a W := by
  obtain ⟨e, h1, h2, h⟩ := h
  exact hLx hi.i hT ho hw hx hH hi.h h1 h2 h
theorem iLx1 (hT : TabOk P T) (ho : op.op = .load ty x) (hw : Region.wanted op (yielded ops a.tmps) = true) (hx : a.eval x = .pointer (some ⟨g, o, none⟩)) (hH : Hp B w0 W H) [hi : HasB H g t b (.many A p :: S)]
    (h : ∃ e, findT ty T = some e ∧ e.row = false ∧ ∃ k v, CellA A k v ∧ o = k ∧ ∀ W', Hp B w0 W' H → wpList P ops Q rest (a.put op.dst v) W') : wpList P ops Q (op :: rest) a W := by
  obtain ⟨e, h1, h2, h⟩ := h
  exact hLx1 hi.i hT ho hw hx hH hi.h h1 h2 h
theorem qiL {K : Act → Prop} (hT : TabOk P T) (ho : op.op = .load ty x) (hx : a.eval x = .pointer (some ⟨g, o, none⟩)) [hi : HasB H g t b S]
    (h : ∃ e v, findT ty T = some e ∧ ldS S o e = some v ∧ K (a.put op.dst v)) : op.quiet P a (fun W' => ∃ y : HW B w0 H, W' = y.w) K := by
  obtain ⟨e, v, h1, h2, hk⟩ := h
  exact quiet_load ho hx (fun w hw => by obtain ⟨y, rfl⟩ := hw; exact run_ldS hT y.hp hi.h h1 h2) hk
theorem qiLi {K : Act → Prop} (hT : TabOk P T) (ho : op.op = .load ty x) (hx : a.eval x = .pointer (some ⟨g, o, none⟩)) [hi : HasB H g t b S]
    (h : ∃ e A j v, findT ty T = some e ∧ e.row = false ∧ intoS S o = some (A, j) ∧ CellA A j v ∧ K (a.put op.dst v)) : op.quiet P a (fun W' => ∃ y : HW B w0 H, W' = y.w) K := by
  obtain ⟨e, A, j, v, h1, h2, h3, h4, h⟩ := h
  exact qL1i hT hi.i ho hx hi.h h1 h2 h3 ⟨v, h4, h⟩
theorem qiLx {K : Act → Prop} (hT : TabOk P T) (ho : op.op = .load ty x) (hx : a.eval x = .pointer (some ⟨g, o, none⟩)) [hi : HasB H g t b (.many A p :: S)]
    (h : ∃ e, findT ty T = some e ∧ e.row = true ∧ ∃ k C, AtL A k (fls C) ∧ o = k ∧ lenS C = e.size ∧ okS C ∧ K (a.put op.dst (.agg (fls C).toArray))) : op.quiet P a (fun W' => ∃ y : HW B w0 H, W' = y.w) K := by
  obtain ⟨e, h1, h2, h⟩ := h
  exact qLx hi.i hT ho hx hi.h h1 h2 h
theorem qiLx1 {K : Act → Prop} (hT : TabOk P T) (ho : op.op = .load ty x) (hx : a.eval x = .pointer (some ⟨g, o, none⟩)) [hi : HasB H g t b (.many A p :: S)]
    (h : ∃ e, findT ty T = some e ∧ e.row = false ∧ ∃ k v, CellA A k v ∧ o = k ∧ K (a.put op.dst v)) : op.quiet P a (fun W' => ∃ y : HW B w0 H, W' = y.w) K := by
  obtain ⟨e, h1, h2, h⟩ := h
  exact qLx1 hi.i hT ho hx hi.h h1 h2 h
theorem iRet {fn : Func} {p : Tmp} {R : Ending → World → Prop} (h : fn.results = #[.cell p ty]) (hT : TabOk P T) (hp : a.tmps.getD p undef = .pointer (some ⟨g, 0, none⟩)) (h0 : a.defers = []) (hH : Hp B w0 W H) [hi : HasB H g t b S]
    (hx : ∃ e S2, findT ty T = some e ∧ e.row = true ∧ partS S 0 e.size = some S2 ∧ R (.returned (.agg (fls S2).toArray)) W) : bodyPost P fn R .ret a W := by
  obtain ⟨e, S2, h1, h2, h3, h4⟩ := hx
  exact retC h hT hi.i hp h0 hH hi.h h1 h2 h3 h4
theorem iRet2 {fn : Func} {p q : Tmp} {R : Ending → World → Prop} (h : fn.results = #[.cell p ty, .tmp q]) (hT : TabOk P T) (hp : a.tmps.getD p undef = .pointer (some ⟨g, 0, none⟩)) (h0 : a.defers = []) (hH : Hp B w0 W H) [hi : HasB H g t b S]
    (hx : ∃ e S2, findT ty T = some e ∧ e.row = true ∧ partS S 0 e.size = some S2 ∧ R (.returned (.tuple #[.agg (fls S2).toArray, a.tmps.getD q undef])) W) : bodyPost P fn R .ret a W := by
  obtain ⟨e, S2, h1, h2, h3, h4⟩ := hx
  exact retC2 h hT hi.i hp h0 hH hi.h h1 h2 h3 h4
end
end Go.Proofs.YtnobencogihbnaaGreat

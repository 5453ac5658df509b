/-
  Calls of octet.Reader's methods, in a world known by a list of blocks.
-/
import Derived.Test.YtdbdlhmgokllaaaRead
import Derived.Test.YtdbdlhmgokllaaaTab
namespace Go.Proofs.Ytdbdlhmgokllaaa
open Go.ChangeShapes Go.WideShapes Go.ChangeAt Go.RowKit
set_option linter.unusedVariables false
set_option linter.unusedSimpArgs false

section
variable {P : Program} {B : Nat} {w0 W : World} {H H' : HB} {g : Nat} {t : TypeId} {b : Bool} {S S' : List Seg} {f : FuncId} {args : Array Value} {v : Value} {R : Ending → World → Prop}
theorem callM (i : Nat) (hH : Hp B w0 W H) (hi : nthH H i = some (g, t, true, S)) (hu : updH H i S' = some H') (hS' : okS S')
    (h : Row W g t (fls S).toArray → Calls P f args W fun e w' => e = .returned v ∧ Row w' g t (fls S').toArray ∧ W.grownBy w' (some g)) (hR : ∀ W', Hp B w0 W' H' → R (.returned v) W') : Calls P f args W R :=
  (h (hH.rows.mem hi).1).mono fun _ _ ⟨he, hr, hg⟩ => by subst he; exact hR _ (hH.upd hi hu hS' hr hg)
theorem callR (i : Nat) (hH : Hp B w0 W H) (hi : nthH H i = some (g, t, b, S)) (h : Row W g t (fls S).toArray → Gives P f args W v) (hR : ∀ W', Hp B w0 W' H → R (.returned v) W') : Calls P f args W R :=
  (h (hH.rows.mem hi).1).to.mono fun _ _ ⟨he, hb⟩ => by subst he; exact hR _ (hH.keep hb)
variable {s : ByteArray} {k : Nat} {bad : Bool} {n : Int}
theorem hNew (hH : Hp B w0 W H) (hR : ∀ W' g, Hp B w0 W' ((g, 104, true, [.one (.string s), .one (.int .i64 ((0 : Nat) : Int)), .one (.bool false)]) :: H) → R (.returned (.pointer (some ⟨g, 0, none⟩))) W') : Calls Try.prog 66 #[.string s] W R :=
  new_any.mono fun _ _ ⟨he, hw⟩ => by subst he; subst hw; exact hR _ _ (hH.alloc _ (S := [.one (.string s), .one (.int .i64 ((0 : Nat) : Int)), .one (.bool false)]) ⟨rfl, rfl, rfl, trivial⟩)
/-- the number that n bytes from k on are -/
def numAt (s : ByteArray) (k n : Nat) : Nat := numL ((s.data.toList.drop k).take n)
theorem numAt_lt (s : ByteArray) (k n : Nat) : numAt s k n < 256 ^ n := Nat.lt_of_lt_of_le (numL_lt _) (Nat.pow_le_pow_right (by omega) (by rw [List.length_take]; omega))
theorem hBad (i : Nat) (hH : Hp B w0 W H) (hi : nthH H i = some (g, 104, true, [.one (.string s), .one (.int .i64 (k : Int)), .one (.bool bad)])) (hR : ∀ W', Hp B w0 W' H → R (.returned (.bool bad)) W') : Calls Try.prog 70 #[.pointer (some ⟨g, 0, none⟩)] W R :=
  callR i hH hi (fun hr => Bad_any hr) hR
end
end Go.Proofs.Ytdbdlhmgokllaaa

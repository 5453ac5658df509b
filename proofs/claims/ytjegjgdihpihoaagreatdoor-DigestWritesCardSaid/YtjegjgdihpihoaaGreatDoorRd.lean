/-
  Calls of octet.Reader's methods, in a world known by a list of blocks.
-/
import Derived.Test.YtjegjgdihpihoaaGreatDoorRead
import Derived.Test.YtjegjgdihpihoaaGreatDoorTab
namespace Go.Proofs.YtjegjgdihpihoaaGreatDoor
open Go.ChangeShapes Go.WideShapes Go.ChangeAt Go.RowKit
set_option linter.unusedVariables false
set_option linter.unusedSimpArgs false

section
variable {P : Program} {B : Nat} {w0 W : World} {H H' : HB} {g : Nat} {t : TypeId} {b : Bool} {S S' : List Seg} {f : FuncId} {args : Array Value} {v : Value} {R : Ending → World → Prop}
theorem callM (i : Nat) (hH : Hp B w0 W H) (hi : nthH H i = some (g, t, true, S)) (hu : updH H i S' = some H') (hS' : okS S')
    (h : Row W g t (fls S).toArray → Calls P f args W fun e w' => e = .returned v ∧ Row w' g t (fls S').toArray ∧ W.grownBy w' (some g)) (hR : ∀ W', Hp B w0 W' H' → R (.returned v) W') : Calls P f args W R :=
  (h (hH.rows.mem hi).1).mono fun _ _ ⟨he, hr, hg⟩ => by subst he; exact hR _ (hH.upd hi hu hS' hr hg)
theorem callR (i : Nat) (hH : Hp B w0 W H) (hi : nthH H i = some (g, t, b, S)) (h : Row W g t (fls S).toArray → Gives P f args W v) (hR : ∀ W', Hp B w0 W' H → R (.returned v) W') : Calls P f args W R :=
  (h (hH.rows.mem hi).1).to.mono fun _ _ ⟨he, hb⟩ => by subst he; exact hR _ (hH.keep hb)
variable {s : ByteArray} {k : Nat} {bad : Bool} {n : Int}
theorem hNew (hH : Hp B w0 W H) (hR : ∀ W' g, Hp B w0 W' ((g, 83, true, [.one (.string s), .one (.int .i64 ((0 : Nat) : Int)), .one (.bool false)]) :: H) → R (.returned (.pointer (some ⟨g, 0, none⟩))) W') : Calls Tryz.prog 48 #[.string s] W R :=
  new_any.mono fun _ _ ⟨he, hw⟩ => by subst he; subst hw; exact hR _ _ (hH.alloc _ (S := [.one (.string s), .one (.int .i64 ((0 : Nat) : Int)), .one (.bool false)]) ⟨rfl, rfl, rfl, trivial⟩)
theorem rdOk (h : k + n.toNat ≤ s.size) : rdS s k false n.toNat = s.extract k (k + n.toNat) ∧ rdK s k false n.toNat = k + n.toNat ∧ rdB s k false n.toNat = false := by
  have e : rdFits s k false n.toNat = true := by simp [rdFits, h]
  simp [rdS, rdK, rdB, e]
theorem hTake (i : Nat) (hH : Hp B w0 W H) (hi : nthH H i = some (g, 83, true, [.one (.string s), .one (.int .i64 (k : Int)), .one (.bool false)])) (hu : updH H i [.one (.string s), .one (.int .i64 ((k + n.toNat : Nat) : Int)), .one (.bool false)] = some H')
    (h : k + n.toNat ≤ s.size) (h2 : n ≤ 9223372036854775807) (hs : s.size ≤ 9223372036854775807) (hR : ∀ W', Hp B w0 W' H' → R (.returned (.string (s.extract k (k + n.toNat)))) W') : Calls Tryz.prog 51 #[.pointer (some ⟨g, 0, none⟩), .int .i64 n] W R := by
  refine callM i hH hi hu ⟨rfl, rfl, rfl, trivial⟩ (fun hr => ?_) hR
  have := Take_any (n := n) hr hs (by omega) h2
  obtain ⟨e1, e2, e3⟩ := rdOk h
  rw [e1, e2, e3] at this
  exact this
theorem hBad (i : Nat) (hH : Hp B w0 W H) (hi : nthH H i = some (g, 83, true, [.one (.string s), .one (.int .i64 (k : Int)), .one (.bool bad)])) (hR : ∀ W', Hp B w0 W' H → R (.returned (.bool bad)) W') : Calls Tryz.prog 52 #[.pointer (some ⟨g, 0, none⟩)] W R :=
  callR i hH hi (fun hr => Bad_any hr) hR
end
end Go.Proofs.YtjegjgdihpihoaaGreatDoor

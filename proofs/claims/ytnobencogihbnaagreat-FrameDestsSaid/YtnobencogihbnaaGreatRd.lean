/-
  Calls of octet.Reader's methods, in a world known by a list of blocks.
-/
import Derived.Test.YtnobencogihbnaaGreatRead
import Derived.Test.YtnobencogihbnaaGreatTab
namespace Go.Proofs.YtnobencogihbnaaGreat
open Go.ChangeShapes Go.WideShapes Go.ChangeAt Go.RowKit
set_option linter.unusedVariables false
set_option linter.unusedSimpArgs false

section
variable {P : Program} {B : Nat} {w0 W : World} {H H' : HB} {g : Nat} {t : TypeId} {b : Bool} {S S' : List Seg} {f : FuncId} {args : Array Value} {v : Value} {R : Ending → World → Prop}
theorem callM (i : Nat) (hH : Hp B w0 W H) (hi : nthH H i = some (g, t, true, S)) (hu : updH H i S' = some H') (hS' : okS S')
    (h : Row W g t (fls S).toArray → Calls P f args W fun e w' => e = .returned v ∧ Row w' g t (fls S').toArray ∧ W.grownBy w' (some g)) (hR : ∀ W', Hp B w0 W' H' → R (.returned v) W') : Calls P f args W R :=
  (h (hH.rows.mem hi).1).mono fun _ _ ⟨he, hr, hg⟩ => by subst he; exact hR _ (hH.upd hi hu hS' hr hg)
theorem callR (i : Nat) (hH : Hp B w0 W H) (hi : nthH H i = some (g, t, b, S)) (h : Row W g t (fls S).toArray → Gives P f args W v) (hR : ∀ W', Hp B w0 W' H → R (.returned v) W') : Calls P f args W R :=
  (h (hH.rows.mem hi).1).to.mono fun _ _ ⟨he, hb⟩ => by subst he; exact hR _ (hH.keep hb)
variable {s : ByteArray} {k : Nat} {bad : Bool} {n : Int}
theorem hNew (hH : Hp B w0 W H) (hR : ∀ W' g, Hp B w0 W' ((g, 117, true, [.one (.string s), .one (.int .i64 ((0 : Nat) : Int)), .one (.bool false)]) :: H) → R (.returned (.pointer (some ⟨g, 0, none⟩))) W') : Calls Tryz.prog 62 #[.string s] W R :=
  new_any.mono fun _ _ ⟨he, hw⟩ => by subst he; subst hw; exact hR _ _ (hH.alloc _ (S := [.one (.string s), .one (.int .i64 ((0 : Nat) : Int)), .one (.bool false)]) ⟨rfl, rfl, rfl, trivial⟩)
theorem rdOk (h : k + n.toNat ≤ s.size) : rdS s k false n.toNat = s.extract k (k + n.toNat) ∧ rdK s k false n.toNat = k + n.toNat ∧ rdB s k false n.toNat = false := by
  have e : rdFits s k false n.toNat = true := by simp [rdFits, h]
  simp [rdS, rdK, rdB, e]
theorem rdNo (h : s.size < k + n.toNat) : rdS s k false n.toNat = ⟨#[]⟩ ∧ rdK s k false n.toNat = k ∧ rdB s k false n.toNat = true := by
  have e : rdFits s k false n.toNat = false := by simp [rdFits]; omega
  simp [rdS, rdK, rdB, e]
theorem rdBad (m : Nat) : rdS s k true m = ⟨#[]⟩ ∧ rdK s k true m = k ∧ rdB s k true m = true := by
  have e : rdFits s k true m = false := by simp [rdFits]
  simp [rdS, rdK, rdB, e]
theorem wn8 (h1 : 0 ≤ n) (h2 : n ≤ 8) : wn n 8 = n.toNat := by unfold wn within; split <;> (try split) <;> omega
/-- the number that n bytes from k on are -/
def numAt (s : ByteArray) (k n : Nat) : Nat := numL ((s.data.toList.drop k).take n)
theorem numAt_lt (s : ByteArray) (k n : Nat) : numAt s k n < 256 ^ n := Nat.lt_of_lt_of_le (numL_lt _) (Nat.pow_le_pow_right (by omega) (by rw [List.length_take]; omega))
/-- so many bytes, if there are as many -/
theorem hNum (i : Nat) (hH : Hp B w0 W H) (hi : nthH H i = some (g, 117, true, [.one (.string s), .one (.int .i64 (k : Int)), .one (.bool false)])) (hu : updH H i [.one (.string s), .one (.int .i64 ((k + n.toNat : Nat) : Int)), .one (.bool false)] = some H')
    (h : k + n.toNat ≤ s.size) (h1 : 0 ≤ n) (h2 : n ≤ 8) (hs : s.size ≤ 9223372036854775807) (hR : ∀ W', Hp B w0 W' H' → R (.returned (.int .u64 (numAt s k n.toNat : Int))) W') : Calls Tryz.prog 64 #[.pointer (some ⟨g, 0, none⟩), .int .i64 n] W R := by
  refine callM i hH hi hu ⟨rfl, rfl, rfl, trivial⟩ (fun hr => ?_) hR
  have := Num_any (n := n) hr hs (by omega)
  obtain ⟨e1, e2, e3⟩ := rdOk h
  rw [wn8 h1 h2, e1, e2, e3, toList_extract, Nat.add_sub_cancel_left] at this
  exact this
theorem hNumNo (i : Nat) (hH : Hp B w0 W H) (hi : nthH H i = some (g, 117, true, [.one (.string s), .one (.int .i64 (k : Int)), .one (.bool false)])) (hu : updH H i [.one (.string s), .one (.int .i64 (k : Int)), .one (.bool true)] = some H')
    (hk : k ≤ s.size) (h : s.size < k + n.toNat) (h1 : 0 ≤ n) (h2 : n ≤ 8) (hs : s.size ≤ 9223372036854775807) (hR : ∀ W', Hp B w0 W' H' → R (.returned (.int .u64 0)) W') : Calls Tryz.prog 64 #[.pointer (some ⟨g, 0, none⟩), .int .i64 n] W R := by
  refine callM i hH hi hu ⟨rfl, rfl, rfl, trivial⟩ (fun hr => ?_) hR
  have := Num_any (n := n) hr hs hk
  obtain ⟨e1, e2, e3⟩ := rdNo h
  rw [wn8 h1 h2, e1, e2, e3] at this
  exact this
theorem hNumBad (i : Nat) (hH : Hp B w0 W H) (hi : nthH H i = some (g, 117, true, [.one (.string s), .one (.int .i64 (k : Int)), .one (.bool true)])) (hu : updH H i [.one (.string s), .one (.int .i64 (k : Int)), .one (.bool true)] = some H')
    (hk : k ≤ s.size) (hs : s.size ≤ 9223372036854775807) (hR : ∀ W', Hp B w0 W' H' → R (.returned (.int .u64 0)) W') : Calls Tryz.prog 64 #[.pointer (some ⟨g, 0, none⟩), .int .i64 n] W R := by
  refine callM i hH hi hu ⟨rfl, rfl, rfl, trivial⟩ (fun hr => ?_) hR
  have := Num_any (n := n) hr hs hk
  obtain ⟨e1, e2, e3⟩ := rdBad (s := s) (k := k) (wn n 8)
  rw [e1, e2, e3] at this
  exact this
theorem hTake (i : Nat) (hH : Hp B w0 W H) (hi : nthH H i = some (g, 117, true, [.one (.string s), .one (.int .i64 (k : Int)), .one (.bool false)])) (hu : updH H i [.one (.string s), .one (.int .i64 ((k + n.toNat : Nat) : Int)), .one (.bool false)] = some H')
    (h : k + n.toNat ≤ s.size) (h2 : n ≤ 9223372036854775807) (hs : s.size ≤ 9223372036854775807) (hR : ∀ W', Hp B w0 W' H' → R (.returned (.string (s.extract k (k + n.toNat)))) W') : Calls Tryz.prog 92 #[.pointer (some ⟨g, 0, none⟩), .int .i64 n] W R := by
  refine callM i hH hi hu ⟨rfl, rfl, rfl, trivial⟩ (fun hr => ?_) hR
  have := Take_any (n := n) hr hs (by omega) h2
  obtain ⟨e1, e2, e3⟩ := rdOk h
  rw [e1, e2, e3] at this
  exact this
theorem hTakeNo (i : Nat) (hH : Hp B w0 W H) (hi : nthH H i = some (g, 117, true, [.one (.string s), .one (.int .i64 (k : Int)), .one (.bool false)])) (hu : updH H i [.one (.string s), .one (.int .i64 (k : Int)), .one (.bool true)] = some H')
    (hk : k ≤ s.size) (h : s.size < k + n.toNat) (h2 : n ≤ 9223372036854775807) (hs : s.size ≤ 9223372036854775807) (hR : ∀ W', Hp B w0 W' H' → R (.returned (.string ⟨#[]⟩)) W') : Calls Tryz.prog 92 #[.pointer (some ⟨g, 0, none⟩), .int .i64 n] W R := by
  refine callM i hH hi hu ⟨rfl, rfl, rfl, trivial⟩ (fun hr => ?_) hR
  have := Take_any (n := n) hr hs hk h2
  obtain ⟨e1, e2, e3⟩ := rdNo h
  rw [e1, e2, e3] at this
  exact this
theorem hTakeBad (i : Nat) (hH : Hp B w0 W H) (hi : nthH H i = some (g, 117, true, [.one (.string s), .one (.int .i64 (k : Int)), .one (.bool true)])) (hu : updH H i [.one (.string s), .one (.int .i64 (k : Int)), .one (.bool true)] = some H')
    (hk : k ≤ s.size) (h2 : n ≤ 9223372036854775807) (hs : s.size ≤ 9223372036854775807) (hR : ∀ W', Hp B w0 W' H' → R (.returned (.string ⟨#[]⟩)) W') : Calls Tryz.prog 92 #[.pointer (some ⟨g, 0, none⟩), .int .i64 n] W R := by
  refine callM i hH hi hu ⟨rfl, rfl, rfl, trivial⟩ (fun hr => ?_) hR
  have := Take_any (n := n) hr hs hk h2
  obtain ⟨e1, e2, e3⟩ := rdBad (s := s) (k := k) n.toNat
  rw [e1, e2, e3] at this
  exact this
theorem hBad (i : Nat) (hH : Hp B w0 W H) (hi : nthH H i = some (g, 117, true, [.one (.string s), .one (.int .i64 (k : Int)), .one (.bool bad)])) (hR : ∀ W', Hp B w0 W' H → R (.returned (.bool bad)) W') : Calls Tryz.prog 67 #[.pointer (some ⟨g, 0, none⟩)] W R :=
  callR i hH hi (fun hr => Bad_any hr) hR
theorem hLeft (i : Nat) (hH : Hp B w0 W H) (hi : nthH H i = some (g, 117, true, [.one (.string s), .one (.int .i64 (k : Int)), .one (.bool bad)])) (hk : k ≤ s.size) (hs : s.size ≤ 9223372036854775807) (hR : ∀ W', Hp B w0 W' H → R (.returned (.int .i64 ((s.size - k : Nat) : Int))) W') : Calls Tryz.prog 150 #[.pointer (some ⟨g, 0, none⟩)] W R :=
  callR i hH hi (fun hr => Left_any hr hs hk) hR
end
end Go.Proofs.YtnobencogihbnaaGreat

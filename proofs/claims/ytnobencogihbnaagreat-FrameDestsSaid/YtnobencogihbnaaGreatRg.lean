/-
  Calls that change two known blocks; octet.Reader's methods, whatever the reader's state.
-/
import Derived.Test.YtnobencogihbnaaGreatRd
import Derived.Test.YtnobencogihbnaaGreatAo
namespace Go.Proofs.YtnobencogihbnaaGreat
open Go.ChangeShapes Go.WideShapes Go.ChangeAt Go.RowKit
set_option linter.unusedVariables false
set_option linter.unusedSimpArgs false
set_option maxRecDepth 20000
attribute [local irreducible] wpList

theorem nthH_perm {r : Nat × TypeId × Bool × List Seg} : ∀ {H : HB} {i : Nat}, nthH H i = some r → H.Perm (r :: H.eraseIdx i)
  | [], _, h => by simp [nthH] at h
  | x :: H, 0, h => by simp [nthH] at h; subst h; simp
  | x :: H, i + 1, h => by
    have := nthH_perm (H := H) (i := i) (by simpa [nthH] using h)
    rw [List.eraseIdx_cons_succ]
    exact (List.Perm.cons x this).trans (List.Perm.swap _ _ _)
theorem updH_perm {g : Nat} {t : TypeId} {b : Bool} {S S' : List Seg} : ∀ {H H' : HB} {i : Nat}, nthH H i = some (g, t, b, S) → updH H i S' = some H' → H'.Perm ((g, t, b, S') :: H.eraseIdx i)
  | [], _, _, h, _ => by simp [nthH] at h
  | x :: H, H', 0, h, hu => by
    simp [nthH] at h
    simp [updH] at hu
    subst h
    subst hu
    simp
  | x :: H, H', i + 1, h, hu => by
    unfold updH at hu
    simp only at hu
    cases hu1 : updH H i S' with
    | none => rw [hu1] at hu; simp at hu
    | some H1 =>
      rw [hu1] at hu
      simp at hu
      subst hu
      have := updH_perm (H := H) (i := i) (by simpa [nthH] using h) hu1
      rw [List.eraseIdx_cons_succ]
      exact (List.Perm.cons x this).trans (List.Perm.swap _ _ _)
theorem perm2 {H H1 H2 : HB} {i j g1 g2 : Nat} {t1 t2 : TypeId} {b1 b2 : Bool} {S1 S1' S2 S2' : List Seg} (hi : nthH H i = some (g1, t1, b1, S1)) (hu : updH H i S1' = some H1) (hj : nthH H1 j = some (g2, t2, b2, S2)) (hu2 : updH H1 j S2' = some H2) (ht : t1 ≠ t2) :
    ∃ H0, H.Perm ((g1, t1, b1, S1) :: (g2, t2, b2, S2) :: H0) ∧ H2.Perm ((g1, t1, b1, S1') :: (g2, t2, b2, S2') :: H0) := by
  have p1 := nthH_perm hi
  have p2 := updH_perm hi hu
  have p3 := nthH_perm hj
  have p4 := updH_perm hj hu2
  have hm : (g2, t2, b2, S2) ∈ H.eraseIdx i := by
    have := p2.mem_iff.1 (nthH_mem hj)
    rcases List.mem_cons.1 this with h | h
    · exact absurd (congrArg (fun x => x.2.1) h).symm ht
    · exact h
  obtain ⟨A, C, hAC⟩ := List.append_of_mem hm
  have p5 : (H.eraseIdx i).Perm ((g2, t2, b2, S2) :: (A ++ C)) := by rw [hAC]; exact List.perm_middle
  refine ⟨A ++ C, p1.trans (p5.cons _), ?_⟩
  have p6 : (H1.eraseIdx j).Perm ((g1, t1, b1, S1') :: (A ++ C)) := by
    have q := p3.symm.trans (p2.trans ((p5.cons _).trans (List.Perm.swap _ _ _)))
    exact q.cons_inv
  exact p4.trans ((p6.cons _).trans (List.Perm.swap _ _ _))
section
variable {P : Program} {B : Nat} {w0 W : World} {H H1 H2 : HB} {g1 g2 : Nat} {t1 t2 : TypeId} {b1 b2 : Bool} {S1 S1' S2 S2' : List Seg} {f : FuncId} {args : Array Value} {v : Value} {R : Ending → World → Prop}
/-- a call that changes two blocks, wherever they stand -/
theorem callM2 (i j : Nat) (hH : Hp B w0 W H) (hi : nthH H i = some (g1, t1, b1, S1)) (hu : updH H i S1' = some H1) (hj : nthH H1 j = some (g2, t2, b2, S2)) (hu2 : updH H1 j S2' = some H2) (ht : t1 ≠ t2)
    (h : ∀ H0, Hp B w0 W ((g1, t1, b1, S1) :: (g2, t2, b2, S2) :: H0) → (∀ W', Hp B w0 W' ((g1, t1, b1, S1') :: (g2, t2, b2, S2') :: H0) → R (.returned v) W') → Calls P f args W R) (hR : ∀ W', Hp B w0 W' H2 → R (.returned v) W') : Calls P f args W R := by
  obtain ⟨H0, p1, p2⟩ := perm2 hi hu hj hu2 ht
  exact h H0 (hH.perm p1) (fun W' h' => hR W' (h'.perm p2.symm))
end
section
variable {B : Nat} {w0 W : World} {H H' : HB} {g : Nat} {R : Ending → World → Prop} {s : ByteArray} {k : Nat} {bad : Bool} {n : Int}
theorem hNumA (i : Nat) (hH : Hp B w0 W H) (hi : nthH H i = some (g, 117, true, [.one (.string s), .one (.int .i64 (k : Int)), .one (.bool bad)])) (hu : updH H i [.one (.string s), .one (.int .i64 ((rdK s k bad (wn n 8) : Nat) : Int)), .one (.bool (rdB s k bad (wn n 8)))] = some H')
    (hs : s.size ≤ 9223372036854775807) (hk : k ≤ s.size) (hR : ∀ W', Hp B w0 W' H' → R (.returned (.int .u64 (numL (rdS s k bad (wn n 8)).data.toList : Int))) W') : Calls Tryz.prog 64 #[.pointer (some ⟨g, 0, none⟩), .int .i64 n] W R :=
  callM i hH hi hu ⟨rfl, rfl, rfl, trivial⟩ (fun hr => Num_any hr hs hk) hR
theorem hTakeA (i : Nat) (hH : Hp B w0 W H) (hi : nthH H i = some (g, 117, true, [.one (.string s), .one (.int .i64 (k : Int)), .one (.bool bad)])) (hu : updH H i [.one (.string s), .one (.int .i64 ((rdK s k bad n.toNat : Nat) : Int)), .one (.bool (rdB s k bad n.toNat))] = some H')
    (hs : s.size ≤ 9223372036854775807) (hk : k ≤ s.size) (hn : n ≤ 9223372036854775807) (hR : ∀ W', Hp B w0 W' H' → R (.returned (.string (rdS s k bad n.toNat))) W') : Calls Tryz.prog 92 #[.pointer (some ⟨g, 0, none⟩), .int .i64 n] W R :=
  callM i hH hi hu ⟨rfl, rfl, rfl, trivial⟩ (fun hr => Take_any hr hs hk hn) hR
end
end Go.Proofs.YtnobencogihbnaaGreat

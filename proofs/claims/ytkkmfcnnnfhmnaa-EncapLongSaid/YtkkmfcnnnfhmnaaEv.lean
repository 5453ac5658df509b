/-
  Contracts of package encap's reference: a frame is read, its head being good (printed by tools/gen-eu.py).
-/
import Derived.Test.YtkkmfcnnnfhmnaaEu1
import Derived.Test.YtkkmfcnnnfhmnaaEu2
import Derived.Test.YtkkmfcnnnfhmnaaEu3
import Derived.Test.YtkkmfcnnnfhmnaaEu4
namespace Go.Proofs.Ytkkmfcnnnfhmnaa
open Go.ChangeShapes Go.WideShapes Go.ChangeAt Go.RowKit
set_option linter.unusedVariables false
set_option linter.unusedSimpArgs false
attribute [local irreducible] wpList

theorem rRead36_any {s : ByteArray} {w : World} (hs : s.size ≤ 100000) : Gives Try.prog 9 #[.string s] w (.tuple #[.agg (tnOf s).L.toArray, .int .i64 (errT s)]) := by
  by_cases he : preT s = 0
  rotate_left
  · exact rRead36_pre hs he
  have h := preT_ok hs he
  have h3 := h.h3
  have hE : badT s → errT s = 2 ∧ tnOf s = tnz := fun hb => by
    have ee : errT s = 2 := by unfold errT; rw [if_neg (by rw [he]; decide), if_pos hb]
    exact ⟨ee, by unfold tnOf; rw [if_pos (by rw [ee]; decide)]⟩
  have hO : ¬ badT s → errT s = 0 ∧ tnOf s = tOf s := fun hb => by
    have ee : errT s = 0 := by unfold errT; rw [if_neg (by rw [he]; decide), if_neg hb]
    exact ⟨ee, tnOf_ok0 ee⟩
  have hB : wT (tOf s) ≠ s → badT s := fun h => .inr h
  have hW := wT_back (s := s) h3
  by_cases c1 : 16 + wdT s + szT s < s.size
  · obtain ⟨e1, e2⟩ := hE (hB fun hw => by have := (hW hw).1; omega)
    rw [e1, e2]
    by_cases h1 : by6 s 1 = 1
    · exact rRead36_long16 h h1 c1
    · exact rRead36_long4 h h1 c1
  have c1' : 16 + wdT s + szT s = s.size := by omega
  by_cases c2 : 1 < by6 s 1
  · obtain ⟨e1, e2⟩ := hE (hB fun hw => by have := (hW hw).2.1; omega)
    rw [e1, e2]
    exact rRead36_six4 h (by omega) c1' c2
  have c2' : by6 s 1 ≤ 1 := by omega
  by_cases c3 : by6 s 3 = 0
  rotate_left
  · obtain ⟨e1, e2⟩ := hE (hB fun hw => c3 (hW hw).2.2)
    rw [e1, e2]
    by_cases h1 : by6 s 1 = 1
    · exact rRead36_pad16 h h1 c1' c2' c3
    · exact rRead36_pad4 h h1 c1' c2' c3
  cases hg : gT (tOf s)
  · obtain ⟨e1, e2⟩ := hE (.inl hg)
    rw [e1, e2]
    by_cases h1 : by6 s 1 = 1
    · exact rRead36_bad16 h h1 c1' c2' c3 hg
    · exact rRead36_bad4 h h1 c1' c2' c3 hg
  by_cases hw : wT (tOf s) = s
  · obtain ⟨e1, e2⟩ := hO (by rintro (hb | hb); rw [hg] at hb; exact absurd hb (by decide); exact hb hw)
    rw [e1, e2]
    by_cases h1 : by6 s 1 = 1
    · exact rRead36_ok16 h h1 c1' c2' c3 hg hw
    · exact rRead36_ok4 h h1 c1' c2' c3 hg hw
  · obtain ⟨e1, e2⟩ := hE (hB hw)
    rw [e1, e2]
    by_cases h1 : by6 s 1 = 1
    · exact rRead36_diff16 h h1 c1' c2' c3 hg hw
    · exact rRead36_diff4 h h1 c1' c2' c3 hg hw
end Go.Proofs.Ytkkmfcnnnfhmnaa

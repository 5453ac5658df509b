/-
  Joined texts: Th5.
-/
import Derived.Test.YtdnehjhijmeihaaGreatQTh1
import Derived.Test.YtdnehjhijmeihaaGreatQTh2
import Derived.Test.YtdnehjhijmeihaaGreatQTh3
import Derived.Test.YtdnehjhijmeihaaGreatQTh4
import Derived.Test.YtdnehjhijmeihaaGreatQSl
namespace Go.Proofs.YtdnehjhijmeihaaGreat
-- %in
open Go.ChangeShapes Go.WideShapes Go.ChangeAt Go.RowKit
set_option linter.unusedVariables false
set_option linter.unusedSimpArgs false
set_option maxRecDepth 20000
attribute [local irreducible] wpList

section
variable {w : World} {sp rp : Option Addr} {sc rc : Nat} {T : Tk}
theorem rgood4_any (hT : T.Ok) (hA : AdsAt w sp T.src) (hR : RcsAt w rp T.recs) : Gives Tryz.prog 85 #[.agg (fls (tkS T sp sc rp rc)).toArray] w (.bool (good4 T)) := by
  obtain ⟨v6, ver, kind, resp, g, quiet, rob, every, src, recs⟩ := T
  have b1 := hT.resp
  have b2 := hT.every
  unfold tkS
  simp only at *
  by_cases hb : v6 = true ∨ ver < 1 ∨ 3 < ver ∨ kind < 1 ∨ 3 < kind
  · have e : good4 ⟨v6, ver, kind, resp, g, quiet, rob, every, src, recs⟩ = false := by
      unfold good4
      rw [if_pos (by simpa [or_assoc] using hb)]
    rw [e]
    exact rgood4_bad (adL_ok g) hb
  obtain rfl : v6 = false := by simp at hb; exact hb.1
  have h1 : 1 ≤ ver ∧ ver ≤ 3 ∧ 1 ≤ kind ∧ kind ≤ 3 := by simp at hb; omega
  rcases (show kind = 1 ∨ kind = 2 ∨ kind = 3 by omega) with rfl | rfl | rfl
  · rcases (show ver = 1 ∨ ver = 2 ∨ ver = 3 by omega) with rfl | rfl | rfl
    · exact rgood4_D (ver := 1) hA.1 hR.1
    · exact rgood4_E (ver := 1) hA.1 hR.1
    · exact rgood4_F (ver := 1) hA.1 hR.1 hA b1 b2
  · by_cases hv : ver = 3
    · subst hv; exact rgood4_C (ver := 1) hA.1 hR.1 hR
    · exact rgood4_B hA.1 hR.1 (by omega) (by omega)
  · exact rgood4_A hA.1 hR.1 (by omega) (by omega)
end
end Go.Proofs.YtdnehjhijmeihaaGreat

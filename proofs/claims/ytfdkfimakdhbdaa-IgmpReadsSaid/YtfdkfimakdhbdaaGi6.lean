/-
  Contracts of package igmp: Read: joined (printed by tools/gen-gi.py).
-/
import Derived.Test.YtfdkfimakdhbdaaGi2
import Derived.Test.YtfdkfimakdhbdaaGi3
import Derived.Test.YtfdkfimakdhbdaaGi4
import Derived.Test.YtfdkfimakdhbdaaGi5
namespace Go.Proofs.Ytfdkfimakdhbdaa
open Go.ChangeShapes Go.WideShapes Go.ChangeAt Go.RowKit
set_option linter.unusedVariables false
set_option linter.unusedSimpArgs false
set_option maxRecDepth 20000
attribute [local irreducible] wpList

section
variable {w : World} {s : ByteArray}
/-- igmp.Read -/
theorem iread_any (hs : s.size ≤ 100000) : Calls Try.prog 7 #[.string s] w fun e w' => RdPost w (readF s).1 (readF s).2 e w' := by
  by_cases h8 : s.size < 8
  · have e : readF s = (Tk.z, 3) := by unfold readF; rw [if_pos h8]
    rw [e]
    exact iread_short h8
  have h := Nat.le_of_not_lt h8
  cases hb : sumOk s
  · have e : readF s = (Tk.z, 4) := by unfold readF; rw [if_neg h8, if_pos hb]
    rw [e]
    exact iread_sum hs h hb
  by_cases h1 : kindF s = 17
  · by_cases h9 : s.size ≤ 8
    · exact iread_17a hs h hb h9 h1
    · by_cases h12 : s.size < 12
      · exact iread_17b hs h hb (by omega) h12 h1
      · exact iread_17c hs h hb (by omega) (by omega) h1
  by_cases h2 : kindF s = 34
  · exact iread_34 hs h hb h2
  by_cases h3 : kindF s = 18
  · exact iread_18 hs h hb h3
  by_cases h4 : kindF s = 22
  · exact iread_22 hs h hb h4
  by_cases h5 : kindF s = 23
  · exact iread_23 hs h hb h5
  exact iread_none hs h hb h1 h2 h3 h4 h5
end
end Go.Proofs.Ytfdkfimakdhbdaa

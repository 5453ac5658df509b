/-
  Contracts of acequialaw27: copies of entries.
-/
import Derived.Test.YtdbdlhmgokllaaaDe
import Derived.Test.YtdbdlhmgokllaaaAf
namespace Go.Proofs.Ytdbdlhmgokllaaa
open Go.ChangeShapes Go.WideShapes Go.ChangeAt Go.RowKit
set_option linter.unusedVariables false
set_option linter.unusedSimpArgs false
set_option maxRecDepth 20000
attribute [local irreducible] wpList

section
variable {w : World} {p p' : Option Addr} {c c' : Nat}
/-- the copy of an entry lies in a block of its own -/
def EnPost (w : World) (e : En) (x : Ending) (w' : World) : Prop := ∃ g c q J, x = .returned (.agg (fls (enS e (some ⟨g, 0, none⟩) c)).toArray) ∧ Made w w' [(g, 25, true, [.many (adsL e.src) (e.src.length * 17), .many J q])]
theorem EnPost.mk {w : World} {e : En} {x : Ending} {w' : World} {g c q : Nat} {J : List Value} (h1 : x = .returned (.agg (fls (enS e (some ⟨g, 0, none⟩) c)).toArray)) (h2 : Hp w.heap.size w w' [(g, 25, true, [.many (adsL e.src) (e.src.length * 17), .many J q])]) : EnPost w e x w' := ⟨g, c, q, J, h1, h2, by simp⟩
def EnsPost (w : World) (R : List En) (e : Ending) (w' : World) : Prop := ∃ g c D, e = .returned (.slice (some ⟨g, 0, none⟩) R.length c) ∧ Made w w' D ∧ ∀ B w0 W, Hp B w0 W D → EnsAt W (some ⟨g, 0, none⟩) R
theorem EnsPost.mk {w : World} {R : List En} {e : Ending} {w' : World} {g c : Nat} {D : HB} (h1 : e = .returned (.slice (some ⟨g, 0, none⟩) R.length c)) (h2 : Made w w' D) (h3 : ∀ B w0 W, Hp B w0 W D → EnsAt W (some ⟨g, 0, none⟩) R) : EnsPost w R e w' := ⟨g, c, D, h1, h2, h3⟩
end
end Go.Proofs.Ytdbdlhmgokllaaa

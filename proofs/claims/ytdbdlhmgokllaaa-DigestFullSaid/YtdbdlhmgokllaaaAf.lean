/-
  Contract of acequialaw08.Addrs, for seats that know no talks.
-/
import Derived.Test.YtdbdlhmgokllaaaAd
namespace Go.Proofs.Ytdbdlhmgokllaaa
open Go.ChangeShapes Go.WideShapes Go.ChangeAt Go.RowKit
set_option linter.unusedVariables false
set_option linter.unusedSimpArgs false
set_option maxRecDepth 20000
attribute [local irreducible] wpList

/-- what copies of addresses leave -/
def AdsPost (w : World) (L : List Ad) (e : Ending) (w' : World) : Prop := ∃ g c q J, e = .returned (.slice (some ⟨g, 0, none⟩) L.length c) ∧ Made w w' [(g, 25, true, [.many (adsL L) (L.length * 17), .many J q])]
theorem AdsPost.mk {w : World} {L : List Ad} {e : Ending} {w' : World} {g c q : Nat} {J : List Value} (h1 : e = .returned (.slice (some ⟨g, 0, none⟩) L.length c)) (h2 : Hp w.heap.size w w' [(g, 25, true, [.many (adsL L) (L.length * 17), .many J q])]) : AdsPost w L e w' := ⟨g, c, q, J, h1, h2, by simp⟩
section
variable {w : World} {p p' : Option Addr} {c c' : Nat} {L M : List Ad}
end
end Go.Proofs.Ytdbdlhmgokllaaa

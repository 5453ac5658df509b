/-
  DERIVED. GIVEN WITH THE SEED: THE CARDS: each row of YtjegjgdihpihoaaGreatDoorRows.lean that lists a variable, with what it lists TIED to the program's text (the seventh form; the later family's looks); each row that meets fmt, with fmt's text TOLD by the authors' own Lean function (tested against real Go, not proved from fmt's source: count such statements apart). THE CARD IS WHAT COUNTS. Prove the row's statement (the work); the ties are given (YtjegjgdihpihoaaGreatDoorTie.lean); close each card by the builder's one call (the guide's Derived/Test/ToyasCard.lean, 'card_holds'). Laid BY PROGRAM, IN A SANDBOX (cutbox-door.mjs). By AI agents, Wed Nov 11 2026. No macro, syntax, notation, axiom, sorry.
-/
import Derived.Test.YtjegjgdihpihoaaGreatDoorRows
import GoSem.ClaimSeven
namespace Go.Proofs.YtjegjgdihpihoaaGreatDoor
namespace Rows

/-- THE TIED CARD OF 'acequialaw27.DigestWrites'. -/
def digestWritesCard : Claim7 := { stood := { row := digestWritesRow, standIns := [], harness := (true, "c9a5b7e569f4a4faa02ef70f884f03a61551d90c698870d2fee9ed458c277bcd"), looks := false }, kinds := [], alts := [], laidByText := true, laidKinds := [.data, .data, .data], laidTests := true, laidLooks := .later }
def DigestWritesCardSaid : Prop := Claim7.holds Tryz.pinned (.plain (OpenSpec.ofChange digestWritesSpec)) digestWritesCard

/-- THE SECOND FORM's CARD OF 'acequialaw27.DigestWrites'. -/
def digestWritesUptoCard : Claim7 := { stood := { row := digestWritesUptoRow, standIns := [], harness := (true, "c9a5b7e569f4a4faa02ef70f884f03a61551d90c698870d2fee9ed458c277bcd"), looks := false }, kinds := [], alts := [], laidByText := true, laidKinds := [.data, .data, .data], laidTests := true, laidLooks := .later }
def DigestWritesUptoCardSaid : Prop := Claim7.holds Tryz.pinned (.plain (OpenSpec.upto digestWritesSpec)) digestWritesUptoCard
end Rows
end Go.Proofs.YtjegjgdihpihoaaGreatDoor

/-
  No cell of these rows narrows 'for every input' (looked for: loops, veiled, ifaces, maps, wideKeys, modest, calm, conditions, laid).
  DERIVED. THE GIVEN ROWS OF THIS SEAT. 3 by the template 'for every input the law returns true; each argument reads behind the call as it read before'; 0 by the template 'total and deterministic' (their statements: YtdhkinonfnfmoaaTotals.lean).
  GIVEN WITH THE SEED: the statements are not yours to turn. If you find one false, say at which input.
  Laid BY PROGRAM, IN A SANDBOX (cutbox-rows.mjs): the forced cells as the released guide's own fill.sh prints them over the translation 9b757baa82fdca54… (all of the seat's roots in one cut). By AI agents, Wed Nov 11 2026. No macro, syntax, notation, axiom, sorry.
-/
import Derived.Test.YtdhkinonfnfmoaaChecked
import GoSem.Claim
import GoSem.ClaimJoined
import GoSem.ClaimMapViews
import Derived.JoinedTies
import Derived.KernelRfl
namespace Go.Proofs.Ytdhkinonfnfmoaa
/- THE CELL 'sum', in the pinned program and in every row, IS THE sha256 OF THE DUMP (.gsa) THAT YtdhkinonfnfmoaaProg.lean LOADS. Nothing in Lean hashes anything: it is a label: what it is worth is what the hold of that sum in a sandbox is worth. -/
noncomputable def Try.pinned : Pinned := { name := "ytdhkinonfnfmoaa", sum := "9b757baa82fdca5481d502d26aa9670453f095876312aac98ddea436241c611e", checked := Try.checked }
namespace Rows
def none {H : Type} : Left H := { results := [], args := [] }

/-- 'acequialaw16.CompatModes': WHATEVER THE INPUT: true; the input reads as it did. -/
def compatModesSpec : ChangeSpec := { name := "compatModes", fn := fun _ => fun
  | [d1, d2, d3] => { results := [.lit (.bool true)], args := [d1, d2, d3] }
  | _ => none }
def compatModesRow : OpenClaim := { program := "ytdhkinonfnfmoaa", sum := "9b757baa82fdca5481d502d26aa9670453f095876312aac98ddea436241c611e", func := "acequia/acequialaw16.CompatModes", spec := "compatModes", apart := false }
def CompatModesSaid : Prop := compatModesRow.holds Try.pinned (OpenSpec.ofChange compatModesSpec)

/-- ITS FALSE NEIGHBOUR: 'it returns false'. Refute it at one input. -/
def compatModesWrong : ChangeSpec := { name := "compatModes", fn := fun _ => fun
  | [d1, d2, d3] => { results := [.lit (.bool false)], args := [d1, d2, d3] }
  | _ => none }
def CompatModesWrongFalsely : Prop := compatModesRow.holds Try.pinned (OpenSpec.ofChange compatModesWrong)

/-- 'acequialaw16.CompatRecords': WHATEVER THE INPUT: true; the input reads as it did. -/
def compatRecordsSpec : ChangeSpec := { name := "compatRecords", fn := fun _ => fun
  | [d] => { results := [.lit (.bool true)], args := [d] }
  | _ => none }
def compatRecordsRow : OpenClaim := { program := "ytdhkinonfnfmoaa", sum := "9b757baa82fdca5481d502d26aa9670453f095876312aac98ddea436241c611e", func := "acequia/acequialaw16.CompatRecords", spec := "compatRecords", apart := false }
def CompatRecordsSaid : Prop := compatRecordsRow.holds Try.pinned (OpenSpec.ofChange compatRecordsSpec)

/-- ITS FALSE NEIGHBOUR: 'it returns false'. Refute it at one input. -/
def compatRecordsWrong : ChangeSpec := { name := "compatRecords", fn := fun _ => fun
  | [d] => { results := [.lit (.bool false)], args := [d] }
  | _ => none }
def CompatRecordsWrongFalsely : Prop := compatRecordsRow.holds Try.pinned (OpenSpec.ofChange compatRecordsWrong)

/-- 'acequialaw16.CompatCuts': WHATEVER THE INPUT: true; the input reads as it did. -/
def compatCutsSpec : ChangeSpec := { name := "compatCuts", fn := fun _ => fun
  | [d1, d2, d3] => { results := [.lit (.bool true)], args := [d1, d2, d3] }
  | _ => none }
def compatCutsRow : OpenClaim := { program := "ytdhkinonfnfmoaa", sum := "9b757baa82fdca5481d502d26aa9670453f095876312aac98ddea436241c611e", func := "acequia/acequialaw16.CompatCuts", spec := "compatCuts", apart := false }
def CompatCutsSaid : Prop := compatCutsRow.holds Try.pinned (OpenSpec.ofChange compatCutsSpec)

/-- ITS FALSE NEIGHBOUR: 'it returns false'. Refute it at one input. -/
def compatCutsWrong : ChangeSpec := { name := "compatCuts", fn := fun _ => fun
  | [d1, d2, d3] => { results := [.lit (.bool false)], args := [d1, d2, d3] }
  | _ => none }
def CompatCutsWrongFalsely : Prop := compatCutsRow.holds Try.pinned (OpenSpec.ofChange compatCutsWrong)

/- THE SECOND FORM. 'bulk': how many values and letters a reading holds, each counted each time it is reached (what is shared counts as often as it is met; a slice's spare places count too). A statement '..UptoSaid' is the law's where the arguments, and the package variables that the reading takes, are together of bulk at most 1048576: NARROWER than '..Said'. Prove '..Said' where nothing that the law and all that it calls make is longer than what came in: it says more and counts as full. Else prove '..UptoSaid'. A law counts once. -/
mutual
def uptoBulk {H : Type} : DataW H → Nat
  | .lit (.string bytes) => bytes.length + 1
  | .lit _ => 1
  | .nil => 1
  | .ptr d => uptoBulk d + 1
  | .slice elems spare => uptoBulkAll elems + uptoBulkAll spare + 1
  | .agg parts => uptoBulkAll parts + 1
  | .iface _ d => uptoBulk d + 1
  | .map entries => uptoBulkEntries entries + 1
  | .held _ => 1
def uptoBulkAll {H : Type} : List (DataW H) → Nat
  | [] => 0
  | d :: r => uptoBulk d + uptoBulkAll r
def uptoBulkEntries {H : Type} : List (Lit × DataW H) → Nat
  | [] => 0
  | x :: r => uptoBulkEntry x + uptoBulkEntries r
def uptoBulkEntry {H : Type} : Lit × DataW H → Nat
  | (.string bytes, d) => bytes.length + uptoBulk d + 1
  | (_, d) => uptoBulk d + 1
 end
def uptoSmall : (H : Type) → List (DataW H) → Bool := fun _ ds => decide (uptoBulkAll ds ≤ 1048576)
def OpenSpec.upto (s : _root_.Go.ChangeSpec) : _root_.Go.OpenSpec := { _root_.Go.OpenSpec.ofChange s with cond := some uptoSmall }

/-- 'acequialaw16.CompatModes', WHERE WHAT IT READS IS OF BULK AT MOST 1048576: true; the input reads as it did. -/
def compatModesUptoRow : OpenClaim := { program := "ytdhkinonfnfmoaa", sum := "9b757baa82fdca5481d502d26aa9670453f095876312aac98ddea436241c611e", func := "acequia/acequialaw16.CompatModes", spec := "compatModes", apart := false, narrowed := true }
def CompatModesUptoSaid : Prop := compatModesUptoRow.holds Try.pinned (OpenSpec.upto compatModesSpec)

/-- 'acequialaw16.CompatRecords', WHERE WHAT IT READS IS OF BULK AT MOST 1048576: true; the input reads as it did. -/
def compatRecordsUptoRow : OpenClaim := { program := "ytdhkinonfnfmoaa", sum := "9b757baa82fdca5481d502d26aa9670453f095876312aac98ddea436241c611e", func := "acequia/acequialaw16.CompatRecords", spec := "compatRecords", apart := false, narrowed := true }
def CompatRecordsUptoSaid : Prop := compatRecordsUptoRow.holds Try.pinned (OpenSpec.upto compatRecordsSpec)

/-- 'acequialaw16.CompatCuts', WHERE WHAT IT READS IS OF BULK AT MOST 1048576: true; the input reads as it did. -/
def compatCutsUptoRow : OpenClaim := { program := "ytdhkinonfnfmoaa", sum := "9b757baa82fdca5481d502d26aa9670453f095876312aac98ddea436241c611e", func := "acequia/acequialaw16.CompatCuts", spec := "compatCuts", apart := false, narrowed := true }
def CompatCutsUptoSaid : Prop := compatCutsUptoRow.holds Try.pinned (OpenSpec.upto compatCutsSpec)

end Rows
end Go.Proofs.Ytdhkinonfnfmoaa

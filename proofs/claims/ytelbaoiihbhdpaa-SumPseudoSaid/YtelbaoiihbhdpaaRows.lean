/-
  No cell of these rows narrows 'for every input' (looked for: loops, veiled, ifaces, maps, wideKeys, modest, calm, conditions, laid).
  DERIVED. THE GIVEN ROWS OF THIS SEAT. 5 by the template 'for every input the law returns true; each argument reads behind the call as it read before'; 0 by the template 'total and deterministic' (their statements: YtelbaoiihbhdpaaTotals.lean).
  GIVEN WITH THE SEED: the statements are not yours to turn. If you find one false, say at which input.
  Laid BY PROGRAM, IN A SANDBOX (cutbox-rows.mjs): the forced cells as the released guide's own fill.sh prints them over the translation ee90280fd408ebda… (all of the seat's roots in one cut). By AI agents, Wed Nov 11 2026. No macro, syntax, notation, axiom, sorry.
-/
import Derived.Test.YtelbaoiihbhdpaaChecked
import GoSem.Claim
import GoSem.ClaimJoined
import GoSem.ClaimMapViews
import Derived.JoinedTies
import Derived.KernelRfl
namespace Go.Proofs.Ytelbaoiihbhdpaa
/- THE CELL 'sum', in the pinned program and in every row, IS THE sha256 OF THE DUMP (.gsa) THAT YtelbaoiihbhdpaaProg.lean LOADS. Nothing in Lean hashes anything: it is a label: what it is worth is what the hold of that sum in a sandbox is worth. -/
noncomputable def Try.pinned : Pinned := { name := "ytelbaoiihbhdpaa", sum := "ee90280fd408ebdaaa4031565162e19411095a0c34ce0a4a6a1d31ed09cdb9c1", checked := Try.checked }
namespace Rows
def none {H : Type} : Left H := { results := [], args := [] }

/-- 'acequialaw02.SumChecks': WHATEVER THE INPUT: true; the input reads as it did. -/
def sumChecksSpec : ChangeSpec := { name := "sumChecks", fn := fun _ => fun
  | [d1, d2] => { results := [.lit (.bool true)], args := [d1, d2] }
  | _ => none }
def sumChecksRow : OpenClaim := { program := "ytelbaoiihbhdpaa", sum := "ee90280fd408ebdaaa4031565162e19411095a0c34ce0a4a6a1d31ed09cdb9c1", func := "acequia/acequialaw02.SumChecks", spec := "sumChecks", apart := false }
def SumChecksSaid : Prop := sumChecksRow.holds Try.pinned (OpenSpec.ofChange sumChecksSpec)

/-- ITS FALSE NEIGHBOUR: 'it returns false'. Refute it at one input. -/
def sumChecksWrong : ChangeSpec := { name := "sumChecks", fn := fun _ => fun
  | [d1, d2] => { results := [.lit (.bool false)], args := [d1, d2] }
  | _ => none }
def SumChecksWrongFalsely : Prop := sumChecksRow.holds Try.pinned (OpenSpec.ofChange sumChecksWrong)

/-- 'acequialaw02.SumParts': WHATEVER THE INPUT: true; the input reads as it did. -/
def sumPartsSpec : ChangeSpec := { name := "sumParts", fn := fun _ => fun
  | [d1, d2] => { results := [.lit (.bool true)], args := [d1, d2] }
  | _ => none }
def sumPartsRow : OpenClaim := { program := "ytelbaoiihbhdpaa", sum := "ee90280fd408ebdaaa4031565162e19411095a0c34ce0a4a6a1d31ed09cdb9c1", func := "acequia/acequialaw02.SumParts", spec := "sumParts", apart := false }
def SumPartsSaid : Prop := sumPartsRow.holds Try.pinned (OpenSpec.ofChange sumPartsSpec)

/-- ITS FALSE NEIGHBOUR: 'it returns false'. Refute it at one input. -/
def sumPartsWrong : ChangeSpec := { name := "sumParts", fn := fun _ => fun
  | [d1, d2] => { results := [.lit (.bool false)], args := [d1, d2] }
  | _ => none }
def SumPartsWrongFalsely : Prop := sumPartsRow.holds Try.pinned (OpenSpec.ofChange sumPartsWrong)

/-- 'acequialaw02.SumUpdates': WHATEVER THE INPUT: true; the input reads as it did. -/
def sumUpdatesSpec : ChangeSpec := { name := "sumUpdates", fn := fun _ => fun
  | [d1, d2, d3] => { results := [.lit (.bool true)], args := [d1, d2, d3] }
  | _ => none }
def sumUpdatesRow : OpenClaim := { program := "ytelbaoiihbhdpaa", sum := "ee90280fd408ebdaaa4031565162e19411095a0c34ce0a4a6a1d31ed09cdb9c1", func := "acequia/acequialaw02.SumUpdates", spec := "sumUpdates", apart := false }
def SumUpdatesSaid : Prop := sumUpdatesRow.holds Try.pinned (OpenSpec.ofChange sumUpdatesSpec)

/-- ITS FALSE NEIGHBOUR: 'it returns false'. Refute it at one input. -/
def sumUpdatesWrong : ChangeSpec := { name := "sumUpdates", fn := fun _ => fun
  | [d1, d2, d3] => { results := [.lit (.bool false)], args := [d1, d2, d3] }
  | _ => none }
def SumUpdatesWrongFalsely : Prop := sumUpdatesRow.holds Try.pinned (OpenSpec.ofChange sumUpdatesWrong)

/-- 'acequialaw02.SumRaw': WHATEVER THE INPUT: true; the input reads as it did. -/
def sumRawSpec : ChangeSpec := { name := "sumRaw", fn := fun _ => fun
  | [d1, d2, d3] => { results := [.lit (.bool true)], args := [d1, d2, d3] }
  | _ => none }
def sumRawRow : OpenClaim := { program := "ytelbaoiihbhdpaa", sum := "ee90280fd408ebdaaa4031565162e19411095a0c34ce0a4a6a1d31ed09cdb9c1", func := "acequia/acequialaw02.SumRaw", spec := "sumRaw", apart := false }
def SumRawSaid : Prop := sumRawRow.holds Try.pinned (OpenSpec.ofChange sumRawSpec)

/-- ITS FALSE NEIGHBOUR: 'it returns false'. Refute it at one input. -/
def sumRawWrong : ChangeSpec := { name := "sumRaw", fn := fun _ => fun
  | [d1, d2, d3] => { results := [.lit (.bool false)], args := [d1, d2, d3] }
  | _ => none }
def SumRawWrongFalsely : Prop := sumRawRow.holds Try.pinned (OpenSpec.ofChange sumRawWrong)

/-- 'acequialaw02.SumPseudo': WHATEVER THE INPUT: true; the input reads as it did. -/
def sumPseudoSpec : ChangeSpec := { name := "sumPseudo", fn := fun _ => fun
  | [d] => { results := [.lit (.bool true)], args := [d] }
  | _ => none }
def sumPseudoRow : OpenClaim := { program := "ytelbaoiihbhdpaa", sum := "ee90280fd408ebdaaa4031565162e19411095a0c34ce0a4a6a1d31ed09cdb9c1", func := "acequia/acequialaw02.SumPseudo", spec := "sumPseudo", apart := false }
def SumPseudoSaid : Prop := sumPseudoRow.holds Try.pinned (OpenSpec.ofChange sumPseudoSpec)

/-- ITS FALSE NEIGHBOUR: 'it returns false'. Refute it at one input. -/
def sumPseudoWrong : ChangeSpec := { name := "sumPseudo", fn := fun _ => fun
  | [d] => { results := [.lit (.bool false)], args := [d] }
  | _ => none }
def SumPseudoWrongFalsely : Prop := sumPseudoRow.holds Try.pinned (OpenSpec.ofChange sumPseudoWrong)

/- THE SECOND FORM. 'bulk': how many values and letters a reading holds, each counted each time it is reached (what is shared counts as often as it is met; a slice's spare places count too). A statement '..UptoSaid' is the law's where the arguments, and the package variables that the reading takes, are together of bulk at most 1048576: NARROWER than '..Said'. Prove '..Said' where nothing that the law and all that it calls make is longer than what came in: it says more and counts as full. Else prove '..UptoSaid'. A law counts once. -/
mutual
def uptoBulk {H : Type} : DataW H → Nat
  | .lit (.string bytes) => bytes.length + 1
  | .lit _ => 1
  | .nil => 1
  | .ptr d => uptoBulk d + 1
  | .slice elems spare => uptoBulkAll elems + uptoBulkAll spare + 1
  | .agg parts => uptoBulkAll parts + 1
  | .iface _ d => uptoBulk d + 1
  | .map entries => uptoBulkEntries entries + 1
  | .held _ => 1
def uptoBulkAll {H : Type} : List (DataW H) → Nat
  | [] => 0
  | d :: r => uptoBulk d + uptoBulkAll r
def uptoBulkEntries {H : Type} : List (Lit × DataW H) → Nat
  | [] => 0
  | x :: r => uptoBulkEntry x + uptoBulkEntries r
def uptoBulkEntry {H : Type} : Lit × DataW H → Nat
  | (.string bytes, d) => bytes.length + uptoBulk d + 1
  | (_, d) => uptoBulk d + 1
 end
def uptoSmall : (H : Type) → List (DataW H) → Bool := fun _ ds => decide (uptoBulkAll ds ≤ 1048576)
def OpenSpec.upto (s : _root_.Go.ChangeSpec) : _root_.Go.OpenSpec := { _root_.Go.OpenSpec.ofChange s with cond := some uptoSmall }

/-- 'acequialaw02.SumChecks', WHERE WHAT IT READS IS OF BULK AT MOST 1048576: true; the input reads as it did. -/
def sumChecksUptoRow : OpenClaim := { program := "ytelbaoiihbhdpaa", sum := "ee90280fd408ebdaaa4031565162e19411095a0c34ce0a4a6a1d31ed09cdb9c1", func := "acequia/acequialaw02.SumChecks", spec := "sumChecks", apart := false, narrowed := true }
def SumChecksUptoSaid : Prop := sumChecksUptoRow.holds Try.pinned (OpenSpec.upto sumChecksSpec)

/-- 'acequialaw02.SumParts', WHERE WHAT IT READS IS OF BULK AT MOST 1048576: true; the input reads as it did. -/
def sumPartsUptoRow : OpenClaim := { program := "ytelbaoiihbhdpaa", sum := "ee90280fd408ebdaaa4031565162e19411095a0c34ce0a4a6a1d31ed09cdb9c1", func := "acequia/acequialaw02.SumParts", spec := "sumParts", apart := false, narrowed := true }
def SumPartsUptoSaid : Prop := sumPartsUptoRow.holds Try.pinned (OpenSpec.upto sumPartsSpec)

/-- 'acequialaw02.SumUpdates', WHERE WHAT IT READS IS OF BULK AT MOST 1048576: true; the input reads as it did. -/
def sumUpdatesUptoRow : OpenClaim := { program := "ytelbaoiihbhdpaa", sum := "ee90280fd408ebdaaa4031565162e19411095a0c34ce0a4a6a1d31ed09cdb9c1", func := "acequia/acequialaw02.SumUpdates", spec := "sumUpdates", apart := false, narrowed := true }
def SumUpdatesUptoSaid : Prop := sumUpdatesUptoRow.holds Try.pinned (OpenSpec.upto sumUpdatesSpec)

/-- 'acequialaw02.SumRaw', WHERE WHAT IT READS IS OF BULK AT MOST 1048576: true; the input reads as it did. -/
def sumRawUptoRow : OpenClaim := { program := "ytelbaoiihbhdpaa", sum := "ee90280fd408ebdaaa4031565162e19411095a0c34ce0a4a6a1d31ed09cdb9c1", func := "acequia/acequialaw02.SumRaw", spec := "sumRaw", apart := false, narrowed := true }
def SumRawUptoSaid : Prop := sumRawUptoRow.holds Try.pinned (OpenSpec.upto sumRawSpec)

/-- 'acequialaw02.SumPseudo', WHERE WHAT IT READS IS OF BULK AT MOST 1048576: true; the input reads as it did. -/
def sumPseudoUptoRow : OpenClaim := { program := "ytelbaoiihbhdpaa", sum := "ee90280fd408ebdaaa4031565162e19411095a0c34ce0a4a6a1d31ed09cdb9c1", func := "acequia/acequialaw02.SumPseudo", spec := "sumPseudo", apart := false, narrowed := true }
def SumPseudoUptoSaid : Prop := sumPseudoUptoRow.holds Try.pinned (OpenSpec.upto sumPseudoSpec)

end Rows
end Go.Proofs.Ytelbaoiihbhdpaa

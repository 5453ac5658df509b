/-
  No cell of these rows narrows 'for every input' (looked for: loops, veiled, ifaces, maps, wideKeys, modest, calm, conditions, laid).
  DERIVED. THE GIVEN ROWS OF THIS SEAT. 4 by the template 'for every input the law returns true; each argument reads behind the call as it read before'; 0 by the template 'total and deterministic' (their statements: YtkkmfcnnnfhmnaaTotals.lean).
  GIVEN WITH THE SEED: the statements are not yours to turn. If you find one false, say at which input.
  Laid BY PROGRAM, IN A SANDBOX (cutbox-rows.mjs): the forced cells as the released guide's own fill.sh prints them over the translation da0ba9b34e4f209b… (all of the seat's roots in one cut). By AI agents, Wed Nov 11 2026. No macro, syntax, notation, axiom, sorry.
-/
import Derived.Test.YtkkmfcnnnfhmnaaChecked
import GoSem.Claim
import GoSem.ClaimJoined
import GoSem.ClaimMapViews
import Derived.JoinedTies
import Derived.KernelRfl
namespace Go.Proofs.Ytkkmfcnnnfhmnaa
/- THE CELL 'sum', in the pinned program and in every row, IS THE sha256 OF THE DUMP (.gsa) THAT YtkkmfcnnnfhmnaaProg.lean LOADS. Nothing in Lean hashes anything: it is a label: what it is worth is what the hold of that sum in a sandbox is worth. -/
noncomputable def Try.pinned : Pinned := { name := "ytkkmfcnnnfhmnaa", sum := "da0ba9b34e4f209b8891f84029c8f20da409f007401f5a9266b1ab2163b87038", checked := Try.checked }
namespace Rows
def none {H : Type} : Left H := { results := [], args := [] }

/-- 'acequialaw36.EncapHops': WHATEVER THE INPUT: true; the input reads as it did. -/
def encapHopsSpec : ChangeSpec := { name := "encapHops", fn := fun _ => fun
  | [d] => { results := [.lit (.bool true)], args := [d] }
  | _ => none }
def encapHopsRow : OpenClaim := { program := "ytkkmfcnnnfhmnaa", sum := "da0ba9b34e4f209b8891f84029c8f20da409f007401f5a9266b1ab2163b87038", func := "acequia/acequialaw36.EncapHops", spec := "encapHops", apart := false }
def EncapHopsSaid : Prop := encapHopsRow.holds Try.pinned (OpenSpec.ofChange encapHopsSpec)

/-- ITS FALSE NEIGHBOUR: 'it returns false'. Refute it at one input. -/
def encapHopsWrong : ChangeSpec := { name := "encapHops", fn := fun _ => fun
  | [d] => { results := [.lit (.bool false)], args := [d] }
  | _ => none }
def EncapHopsWrongFalsely : Prop := encapHopsRow.holds Try.pinned (OpenSpec.ofChange encapHopsWrong)

/-- 'acequialaw36.EncapLong': WHATEVER THE INPUT: true; the input reads as it did. -/
def encapLongSpec : ChangeSpec := { name := "encapLong", fn := fun _ => fun
  | [d] => { results := [.lit (.bool true)], args := [d] }
  | _ => none }
def encapLongRow : OpenClaim := { program := "ytkkmfcnnnfhmnaa", sum := "da0ba9b34e4f209b8891f84029c8f20da409f007401f5a9266b1ab2163b87038", func := "acequia/acequialaw36.EncapLong", spec := "encapLong", apart := false }
def EncapLongSaid : Prop := encapLongRow.holds Try.pinned (OpenSpec.ofChange encapLongSpec)

/-- ITS FALSE NEIGHBOUR: 'it returns false'. Refute it at one input. -/
def encapLongWrong : ChangeSpec := { name := "encapLong", fn := fun _ => fun
  | [d] => { results := [.lit (.bool false)], args := [d] }
  | _ => none }
def EncapLongWrongFalsely : Prop := encapLongRow.holds Try.pinned (OpenSpec.ofChange encapLongWrong)

/-- 'acequialaw36.EncapReads': WHATEVER THE INPUT: true; the input reads as it did. -/
def encapReadsSpec : ChangeSpec := { name := "encapReads", fn := fun _ => fun
  | [d] => { results := [.lit (.bool true)], args := [d] }
  | _ => none }
def encapReadsRow : OpenClaim := { program := "ytkkmfcnnnfhmnaa", sum := "da0ba9b34e4f209b8891f84029c8f20da409f007401f5a9266b1ab2163b87038", func := "acequia/acequialaw36.EncapReads", spec := "encapReads", apart := false }
def EncapReadsSaid : Prop := encapReadsRow.holds Try.pinned (OpenSpec.ofChange encapReadsSpec)

/-- ITS FALSE NEIGHBOUR: 'it returns false'. Refute it at one input. -/
def encapReadsWrong : ChangeSpec := { name := "encapReads", fn := fun _ => fun
  | [d] => { results := [.lit (.bool false)], args := [d] }
  | _ => none }
def EncapReadsWrongFalsely : Prop := encapReadsRow.holds Try.pinned (OpenSpec.ofChange encapReadsWrong)

/-- 'acequialaw36.EncapWrites': WHATEVER THE INPUT: true; the input reads as it did. -/
def encapWritesSpec : ChangeSpec := { name := "encapWrites", fn := fun _ => fun
  | [d] => { results := [.lit (.bool true)], args := [d] }
  | _ => none }
def encapWritesRow : OpenClaim := { program := "ytkkmfcnnnfhmnaa", sum := "da0ba9b34e4f209b8891f84029c8f20da409f007401f5a9266b1ab2163b87038", func := "acequia/acequialaw36.EncapWrites", spec := "encapWrites", apart := false }
def EncapWritesSaid : Prop := encapWritesRow.holds Try.pinned (OpenSpec.ofChange encapWritesSpec)

/-- ITS FALSE NEIGHBOUR: 'it returns false'. Refute it at one input. -/
def encapWritesWrong : ChangeSpec := { name := "encapWrites", fn := fun _ => fun
  | [d] => { results := [.lit (.bool false)], args := [d] }
  | _ => none }
def EncapWritesWrongFalsely : Prop := encapWritesRow.holds Try.pinned (OpenSpec.ofChange encapWritesWrong)

/- THE SECOND FORM. 'bulk': how many values and letters a reading holds, each counted each time it is reached (what is shared counts as often as it is met; a slice's spare places count too). A statement '..UptoSaid' is the law's where the arguments, and the package variables that the reading takes, are together of bulk at most 1048576: NARROWER than '..Said'. Prove '..Said' where nothing that the law and all that it calls make is longer than what came in: it says more and counts as full. Else prove '..UptoSaid'. A law counts once. -/
mutual
def uptoBulk {H : Type} : DataW H → Nat
  | .lit (.string bytes) => bytes.length + 1
  | .lit _ => 1
  | .nil => 1
  | .ptr d => uptoBulk d + 1
  | .slice elems spare => uptoBulkAll elems + uptoBulkAll spare + 1
  | .agg parts => uptoBulkAll parts + 1
  | .iface _ d => uptoBulk d + 1
  | .map entries => uptoBulkEntries entries + 1
  | .held _ => 1
def uptoBulkAll {H : Type} : List (DataW H) → Nat
  | [] => 0
  | d :: r => uptoBulk d + uptoBulkAll r
def uptoBulkEntries {H : Type} : List (Lit × DataW H) → Nat
  | [] => 0
  | x :: r => uptoBulkEntry x + uptoBulkEntries r
def uptoBulkEntry {H : Type} : Lit × DataW H → Nat
  | (.string bytes, d) => bytes.length + uptoBulk d + 1
  | (_, d) => uptoBulk d + 1
 end
def uptoSmall : (H : Type) → List (DataW H) → Bool := fun _ ds => decide (uptoBulkAll ds ≤ 1048576)
def OpenSpec.upto (s : _root_.Go.ChangeSpec) : _root_.Go.OpenSpec := { _root_.Go.OpenSpec.ofChange s with cond := some uptoSmall }

/-- 'acequialaw36.EncapHops', WHERE WHAT IT READS IS OF BULK AT MOST 1048576: true; the input reads as it did. -/
def encapHopsUptoRow : OpenClaim := { program := "ytkkmfcnnnfhmnaa", sum := "da0ba9b34e4f209b8891f84029c8f20da409f007401f5a9266b1ab2163b87038", func := "acequia/acequialaw36.EncapHops", spec := "encapHops", apart := false, narrowed := true }
def EncapHopsUptoSaid : Prop := encapHopsUptoRow.holds Try.pinned (OpenSpec.upto encapHopsSpec)

/-- 'acequialaw36.EncapLong', WHERE WHAT IT READS IS OF BULK AT MOST 1048576: true; the input reads as it did. -/
def encapLongUptoRow : OpenClaim := { program := "ytkkmfcnnnfhmnaa", sum := "da0ba9b34e4f209b8891f84029c8f20da409f007401f5a9266b1ab2163b87038", func := "acequia/acequialaw36.EncapLong", spec := "encapLong", apart := false, narrowed := true }
def EncapLongUptoSaid : Prop := encapLongUptoRow.holds Try.pinned (OpenSpec.upto encapLongSpec)

/-- 'acequialaw36.EncapReads', WHERE WHAT IT READS IS OF BULK AT MOST 1048576: true; the input reads as it did. -/
def encapReadsUptoRow : OpenClaim := { program := "ytkkmfcnnnfhmnaa", sum := "da0ba9b34e4f209b8891f84029c8f20da409f007401f5a9266b1ab2163b87038", func := "acequia/acequialaw36.EncapReads", spec := "encapReads", apart := false, narrowed := true }
def EncapReadsUptoSaid : Prop := encapReadsUptoRow.holds Try.pinned (OpenSpec.upto encapReadsSpec)

/-- 'acequialaw36.EncapWrites', WHERE WHAT IT READS IS OF BULK AT MOST 1048576: true; the input reads as it did. -/
def encapWritesUptoRow : OpenClaim := { program := "ytkkmfcnnnfhmnaa", sum := "da0ba9b34e4f209b8891f84029c8f20da409f007401f5a9266b1ab2163b87038", func := "acequia/acequialaw36.EncapWrites", spec := "encapWrites", apart := false, narrowed := true }
def EncapWritesUptoSaid : Prop := encapWritesUptoRow.holds Try.pinned (OpenSpec.upto encapWritesSpec)

end Rows
end Go.Proofs.Ytkkmfcnnnfhmnaa

/-
  No cell of these rows narrows 'for every input' (looked for: loops, veiled, ifaces, maps, wideKeys, modest, calm, conditions, laid).
  DERIVED. THE GIVEN ROWS OF THIS SEAT. 4 by the template 'for every input the law returns true; each argument reads behind the call as it read before'; 0 by the template 'total and deterministic' (their statements: YtealimfmognglaaTotals.lean).
  GIVEN WITH THE SEED: the statements are not yours to turn. If you find one false, say at which input.
  Laid BY PROGRAM, IN A SANDBOX (cutbox-rows.mjs): the forced cells as the released guide's own fill.sh prints them over the translation fae9c97c589a5202… (all of the seat's roots in one cut). By AI agents, Wed Nov 11 2026. No macro, syntax, notation, axiom, sorry.
-/
import Derived.Test.YtealimfmognglaaChecked
import GoSem.Claim
import GoSem.ClaimJoined
import GoSem.ClaimMapViews
import Derived.JoinedTies
import Derived.KernelRfl
namespace Go.Proofs.Ytealimfmognglaa
/- THE CELL 'sum', in the pinned program and in every row, IS THE sha256 OF THE DUMP (.gsa) THAT YtealimfmognglaaProg.lean LOADS. Nothing in Lean hashes anything: it is a label: what it is worth is what the hold of that sum in a sandbox is worth. -/
noncomputable def Try.pinned : Pinned := { name := "ytealimfmognglaa", sum := "fae9c97c589a52023f3e6d54750096e98ac360ca91cb954beac67531b4d9f6aa", checked := Try.checked }
namespace Rows
def none {H : Type} : Left H := { results := [], args := [] }

/-- 'acequialaw09.MldAway': WHATEVER THE INPUT: true; the input reads as it did. -/
def mldAwaySpec : ChangeSpec := { name := "mldAway", fn := fun _ => fun
  | [d] => { results := [.lit (.bool true)], args := [d] }
  | _ => none }
def mldAwayRow : OpenClaim := { program := "ytealimfmognglaa", sum := "fae9c97c589a52023f3e6d54750096e98ac360ca91cb954beac67531b4d9f6aa", func := "acequia/acequialaw09.MldAway", spec := "mldAway", unfollowed := true, recurses := true, apart := false }
def MldAwaySaid : Prop := mldAwayRow.holds Try.pinned (OpenSpec.ofChange mldAwaySpec)

/-- ITS FALSE NEIGHBOUR: 'it returns false'. Refute it at one input. -/
def mldAwayWrong : ChangeSpec := { name := "mldAway", fn := fun _ => fun
  | [d] => { results := [.lit (.bool false)], args := [d] }
  | _ => none }
def MldAwayWrongFalsely : Prop := mldAwayRow.holds Try.pinned (OpenSpec.ofChange mldAwayWrong)

/-- 'acequialaw09.MldLong': WHATEVER THE INPUT: true; the input reads as it did. -/
def mldLongSpec : ChangeSpec := { name := "mldLong", fn := fun _ => fun
  | [d1, d2] => { results := [.lit (.bool true)], args := [d1, d2] }
  | _ => none }
def mldLongRow : OpenClaim := { program := "ytealimfmognglaa", sum := "fae9c97c589a52023f3e6d54750096e98ac360ca91cb954beac67531b4d9f6aa", func := "acequia/acequialaw09.MldLong", spec := "mldLong", unfollowed := true, recurses := true, apart := false }
def MldLongSaid : Prop := mldLongRow.holds Try.pinned (OpenSpec.ofChange mldLongSpec)

/-- ITS FALSE NEIGHBOUR: 'it returns false'. Refute it at one input. -/
def mldLongWrong : ChangeSpec := { name := "mldLong", fn := fun _ => fun
  | [d1, d2] => { results := [.lit (.bool false)], args := [d1, d2] }
  | _ => none }
def MldLongWrongFalsely : Prop := mldLongRow.holds Try.pinned (OpenSpec.ofChange mldLongWrong)

/-- 'acequialaw09.MldWrites': WHATEVER THE INPUT: true; the input reads as it did. -/
def mldWritesSpec : ChangeSpec := { name := "mldWrites", fn := fun _ => fun
  | [d1, d2, d3] => { results := [.lit (.bool true)], args := [d1, d2, d3] }
  | _ => none }
def mldWritesRow : OpenClaim := { program := "ytealimfmognglaa", sum := "fae9c97c589a52023f3e6d54750096e98ac360ca91cb954beac67531b4d9f6aa", func := "acequia/acequialaw09.MldWrites", spec := "mldWrites", unfollowed := true, recurses := true, apart := false }
def MldWritesSaid : Prop := mldWritesRow.holds Try.pinned (OpenSpec.ofChange mldWritesSpec)

/-- ITS FALSE NEIGHBOUR: 'it returns false'. Refute it at one input. -/
def mldWritesWrong : ChangeSpec := { name := "mldWrites", fn := fun _ => fun
  | [d1, d2, d3] => { results := [.lit (.bool false)], args := [d1, d2, d3] }
  | _ => none }
def MldWritesWrongFalsely : Prop := mldWritesRow.holds Try.pinned (OpenSpec.ofChange mldWritesWrong)

/-- 'acequialaw09.MldReads': WHATEVER THE INPUT: true; the input reads as it did. -/
def mldReadsSpec : ChangeSpec := { name := "mldReads", fn := fun _ => fun
  | [d1, d2, d3] => { results := [.lit (.bool true)], args := [d1, d2, d3] }
  | _ => none }
def mldReadsRow : OpenClaim := { program := "ytealimfmognglaa", sum := "fae9c97c589a52023f3e6d54750096e98ac360ca91cb954beac67531b4d9f6aa", func := "acequia/acequialaw09.MldReads", spec := "mldReads", unfollowed := true, recurses := true, apart := false }
def MldReadsSaid : Prop := mldReadsRow.holds Try.pinned (OpenSpec.ofChange mldReadsSpec)

/-- ITS FALSE NEIGHBOUR: 'it returns false'. Refute it at one input. -/
def mldReadsWrong : ChangeSpec := { name := "mldReads", fn := fun _ => fun
  | [d1, d2, d3] => { results := [.lit (.bool false)], args := [d1, d2, d3] }
  | _ => none }
def MldReadsWrongFalsely : Prop := mldReadsRow.holds Try.pinned (OpenSpec.ofChange mldReadsWrong)

/- THE SECOND FORM. 'bulk': how many values and letters a reading holds, each counted each time it is reached (what is shared counts as often as it is met; a slice's spare places count too). A statement '..UptoSaid' is the law's where the arguments, and the package variables that the reading takes, are together of bulk at most 1048576: NARROWER than '..Said'. Prove '..Said' where nothing that the law and all that it calls make is longer than what came in: it says more and counts as full. Else prove '..UptoSaid'. A law counts once. -/
mutual
def uptoBulk {H : Type} : DataW H → Nat
  | .lit (.string bytes) => bytes.length + 1
  | .lit _ => 1
  | .nil => 1
  | .ptr d => uptoBulk d + 1
  | .slice elems spare => uptoBulkAll elems + uptoBulkAll spare + 1
  | .agg parts => uptoBulkAll parts + 1
  | .iface _ d => uptoBulk d + 1
  | .map entries => uptoBulkEntries entries + 1
  | .held _ => 1
def uptoBulkAll {H : Type} : List (DataW H) → Nat
  | [] => 0
  | d :: r => uptoBulk d + uptoBulkAll r
def uptoBulkEntries {H : Type} : List (Lit × DataW H) → Nat
  | [] => 0
  | x :: r => uptoBulkEntry x + uptoBulkEntries r
def uptoBulkEntry {H : Type} : Lit × DataW H → Nat
  | (.string bytes, d) => bytes.length + uptoBulk d + 1
  | (_, d) => uptoBulk d + 1
 end
def uptoSmall : (H : Type) → List (DataW H) → Bool := fun _ ds => decide (uptoBulkAll ds ≤ 1048576)
def OpenSpec.upto (s : _root_.Go.ChangeSpec) : _root_.Go.OpenSpec := { _root_.Go.OpenSpec.ofChange s with cond := some uptoSmall }

/-- 'acequialaw09.MldAway', WHERE WHAT IT READS IS OF BULK AT MOST 1048576: true; the input reads as it did. -/
def mldAwayUptoRow : OpenClaim := { program := "ytealimfmognglaa", sum := "fae9c97c589a52023f3e6d54750096e98ac360ca91cb954beac67531b4d9f6aa", func := "acequia/acequialaw09.MldAway", spec := "mldAway", unfollowed := true, recurses := true, apart := false, narrowed := true }
def MldAwayUptoSaid : Prop := mldAwayUptoRow.holds Try.pinned (OpenSpec.upto mldAwaySpec)

/-- 'acequialaw09.MldLong', WHERE WHAT IT READS IS OF BULK AT MOST 1048576: true; the input reads as it did. -/
def mldLongUptoRow : OpenClaim := { program := "ytealimfmognglaa", sum := "fae9c97c589a52023f3e6d54750096e98ac360ca91cb954beac67531b4d9f6aa", func := "acequia/acequialaw09.MldLong", spec := "mldLong", unfollowed := true, recurses := true, apart := false, narrowed := true }
def MldLongUptoSaid : Prop := mldLongUptoRow.holds Try.pinned (OpenSpec.upto mldLongSpec)

/-- 'acequialaw09.MldWrites', WHERE WHAT IT READS IS OF BULK AT MOST 1048576: true; the input reads as it did. -/
def mldWritesUptoRow : OpenClaim := { program := "ytealimfmognglaa", sum := "fae9c97c589a52023f3e6d54750096e98ac360ca91cb954beac67531b4d9f6aa", func := "acequia/acequialaw09.MldWrites", spec := "mldWrites", unfollowed := true, recurses := true, apart := false, narrowed := true }
def MldWritesUptoSaid : Prop := mldWritesUptoRow.holds Try.pinned (OpenSpec.upto mldWritesSpec)

/-- 'acequialaw09.MldReads', WHERE WHAT IT READS IS OF BULK AT MOST 1048576: true; the input reads as it did. -/
def mldReadsUptoRow : OpenClaim := { program := "ytealimfmognglaa", sum := "fae9c97c589a52023f3e6d54750096e98ac360ca91cb954beac67531b4d9f6aa", func := "acequia/acequialaw09.MldReads", spec := "mldReads", unfollowed := true, recurses := true, apart := false, narrowed := true }
def MldReadsUptoSaid : Prop := mldReadsUptoRow.holds Try.pinned (OpenSpec.upto mldReadsSpec)

end Rows
end Go.Proofs.Ytealimfmognglaa

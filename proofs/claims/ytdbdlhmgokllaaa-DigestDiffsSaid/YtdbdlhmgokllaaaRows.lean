/-
  No cell of these rows narrows 'for every input' (looked for: loops, veiled, ifaces, maps, wideKeys, modest, calm, conditions, laid).
  DERIVED. THE GIVEN ROWS OF THIS SEAT. 5 by the template 'for every input the law returns true; each argument reads behind the call as it read before'; 0 by the template 'total and deterministic' (their statements: YtdbdlhmgokllaaaTotals.lean).
  GIVEN WITH THE SEED: the statements are not yours to turn. If you find one false, say at which input.
  Laid BY PROGRAM, IN A SANDBOX (cutbox-rows.mjs): the forced cells as the released guide's own fill.sh prints them over the translation 0f0f3d99199e43e3… (all of the seat's roots in one cut). By AI agents, Wed Nov 11 2026. No macro, syntax, notation, axiom, sorry.
-/
import Derived.Test.YtdbdlhmgokllaaaChecked
import GoSem.Claim
import GoSem.ClaimJoined
import GoSem.ClaimMapViews
import Derived.JoinedTies
import Derived.KernelRfl
namespace Go.Proofs.Ytdbdlhmgokllaaa
/- THE CELL 'sum', in the pinned program and in every row, IS THE sha256 OF THE DUMP (.gsa) THAT YtdbdlhmgokllaaaProg.lean LOADS. Nothing in Lean hashes anything: it is a label: what it is worth is what the hold of that sum in a sandbox is worth. -/
noncomputable def Try.pinned : Pinned := { name := "ytdbdlhmgokllaaa", sum := "0f0f3d99199e43e39cb0e33ae746363ca0881b86c265fb2392dad9164a6eea0e", checked := Try.checked }
namespace Rows
def none {H : Type} : Left H := { results := [], args := [] }

/-- 'acequialaw27.DigestJudges': WHATEVER THE INPUT: true; the input reads as it did. -/
def digestJudgesSpec : ChangeSpec := { name := "digestJudges", fn := fun _ => fun
  | [d] => { results := [.lit (.bool true)], args := [d] }
  | _ => none }
def digestJudgesRow : OpenClaim := { program := "ytdbdlhmgokllaaa", sum := "0f0f3d99199e43e39cb0e33ae746363ca0881b86c265fb2392dad9164a6eea0e", func := "acequia/acequialaw27.DigestJudges", spec := "digestJudges", inPlace := ["internal/bytealg.abigen_runtime_cmpstring"], unfollowed := true, recurses := true, apart := false }
def DigestJudgesSaid : Prop := digestJudgesRow.holds Try.pinned (OpenSpec.ofChange digestJudgesSpec)

/-- ITS FALSE NEIGHBOUR: 'it returns false'. Refute it at one input. -/
def digestJudgesWrong : ChangeSpec := { name := "digestJudges", fn := fun _ => fun
  | [d] => { results := [.lit (.bool false)], args := [d] }
  | _ => none }
def DigestJudgesWrongFalsely : Prop := digestJudgesRow.holds Try.pinned (OpenSpec.ofChange digestJudgesWrong)

/-- 'acequialaw27.DigestReads': WHATEVER THE INPUT: true; the input reads as it did. -/
def digestReadsSpec : ChangeSpec := { name := "digestReads", fn := fun _ => fun
  | [d] => { results := [.lit (.bool true)], args := [d] }
  | _ => none }
def digestReadsRow : OpenClaim := { program := "ytdbdlhmgokllaaa", sum := "0f0f3d99199e43e39cb0e33ae746363ca0881b86c265fb2392dad9164a6eea0e", func := "acequia/acequialaw27.DigestReads", spec := "digestReads", inPlace := ["internal/bytealg.abigen_runtime_cmpstring"], unfollowed := true, recurses := true, apart := false }
def DigestReadsSaid : Prop := digestReadsRow.holds Try.pinned (OpenSpec.ofChange digestReadsSpec)

/-- ITS FALSE NEIGHBOUR: 'it returns false'. Refute it at one input. -/
def digestReadsWrong : ChangeSpec := { name := "digestReads", fn := fun _ => fun
  | [d] => { results := [.lit (.bool false)], args := [d] }
  | _ => none }
def DigestReadsWrongFalsely : Prop := digestReadsRow.holds Try.pinned (OpenSpec.ofChange digestReadsWrong)

/-- 'acequialaw27.DigestFull': WHATEVER THE INPUT: true; the input reads as it did. -/
def digestFullSpec : ChangeSpec := { name := "digestFull", fn := fun _ => fun
  | [d] => { results := [.lit (.bool true)], args := [d] }
  | _ => none }
def digestFullRow : OpenClaim := { program := "ytdbdlhmgokllaaa", sum := "0f0f3d99199e43e39cb0e33ae746363ca0881b86c265fb2392dad9164a6eea0e", func := "acequia/acequialaw27.DigestFull", spec := "digestFull", inPlace := ["internal/bytealg.abigen_runtime_cmpstring", "slices.overlaps[acequia/api.Entry]"], unfollowed := true, recurses := true, apart := false }
def DigestFullSaid : Prop := digestFullRow.holds Try.pinned (OpenSpec.ofChange digestFullSpec)

/-- ITS FALSE NEIGHBOUR: 'it returns false'. Refute it at one input. -/
def digestFullWrong : ChangeSpec := { name := "digestFull", fn := fun _ => fun
  | [d] => { results := [.lit (.bool false)], args := [d] }
  | _ => none }
def DigestFullWrongFalsely : Prop := digestFullRow.holds Try.pinned (OpenSpec.ofChange digestFullWrong)

/-- 'acequialaw27.DigestApplies': WHATEVER THE INPUT: true; the input reads as it did. -/
def digestAppliesSpec : ChangeSpec := { name := "digestApplies", fn := fun _ => fun
  | [d] => { results := [.lit (.bool true)], args := [d] }
  | _ => none }
def digestAppliesRow : OpenClaim := { program := "ytdbdlhmgokllaaa", sum := "0f0f3d99199e43e39cb0e33ae746363ca0881b86c265fb2392dad9164a6eea0e", func := "acequia/acequialaw27.DigestApplies", spec := "digestApplies", inPlace := ["internal/bytealg.abigen_runtime_cmpstring", "slices.overlaps[acequia/api.Entry]"], unfollowed := true, recurses := true, apart := false }
def DigestAppliesSaid : Prop := digestAppliesRow.holds Try.pinned (OpenSpec.ofChange digestAppliesSpec)

/-- ITS FALSE NEIGHBOUR: 'it returns false'. Refute it at one input. -/
def digestAppliesWrong : ChangeSpec := { name := "digestApplies", fn := fun _ => fun
  | [d] => { results := [.lit (.bool false)], args := [d] }
  | _ => none }
def DigestAppliesWrongFalsely : Prop := digestAppliesRow.holds Try.pinned (OpenSpec.ofChange digestAppliesWrong)

/-- 'acequialaw27.DigestDiffs': WHATEVER THE INPUT: true; the input reads as it did. -/
def digestDiffsSpec : ChangeSpec := { name := "digestDiffs", fn := fun _ => fun
  | [d1, d2] => { results := [.lit (.bool true)], args := [d1, d2] }
  | _ => none }
def digestDiffsRow : OpenClaim := { program := "ytdbdlhmgokllaaa", sum := "0f0f3d99199e43e39cb0e33ae746363ca0881b86c265fb2392dad9164a6eea0e", func := "acequia/acequialaw27.DigestDiffs", spec := "digestDiffs", inPlace := ["internal/bytealg.abigen_runtime_cmpstring", "slices.overlaps[acequia/api.Entry]"], unfollowed := true, recurses := true, apart := false }
def DigestDiffsSaid : Prop := digestDiffsRow.holds Try.pinned (OpenSpec.ofChange digestDiffsSpec)

/-- ITS FALSE NEIGHBOUR: 'it returns false'. Refute it at one input. -/
def digestDiffsWrong : ChangeSpec := { name := "digestDiffs", fn := fun _ => fun
  | [d1, d2] => { results := [.lit (.bool false)], args := [d1, d2] }
  | _ => none }
def DigestDiffsWrongFalsely : Prop := digestDiffsRow.holds Try.pinned (OpenSpec.ofChange digestDiffsWrong)

/- THE SECOND FORM. 'bulk': how many values and letters a reading holds, each counted each time it is reached (what is shared counts as often as it is met; a slice's spare places count too). A statement '..UptoSaid' is the law's where the arguments, and the package variables that the reading takes, are together of bulk at most 1048576: NARROWER than '..Said'. Prove '..Said' where nothing that the law and all that it calls make is longer than what came in: it says more and counts as full. Else prove '..UptoSaid'. A law counts once. -/
mutual
def uptoBulk {H : Type} : DataW H → Nat
  | .lit (.string bytes) => bytes.length + 1
  | .lit _ => 1
  | .nil => 1
  | .ptr d => uptoBulk d + 1
  | .slice elems spare => uptoBulkAll elems + uptoBulkAll spare + 1
  | .agg parts => uptoBulkAll parts + 1
  | .iface _ d => uptoBulk d + 1
  | .map entries => uptoBulkEntries entries + 1
  | .held _ => 1
def uptoBulkAll {H : Type} : List (DataW H) → Nat
  | [] => 0
  | d :: r => uptoBulk d + uptoBulkAll r
def uptoBulkEntries {H : Type} : List (Lit × DataW H) → Nat
  | [] => 0
  | x :: r => uptoBulkEntry x + uptoBulkEntries r
def uptoBulkEntry {H : Type} : Lit × DataW H → Nat
  | (.string bytes, d) => bytes.length + uptoBulk d + 1
  | (_, d) => uptoBulk d + 1
 end
def uptoSmall : (H : Type) → List (DataW H) → Bool := fun _ ds => decide (uptoBulkAll ds ≤ 1048576)
def OpenSpec.upto (s : _root_.Go.ChangeSpec) : _root_.Go.OpenSpec := { _root_.Go.OpenSpec.ofChange s with cond := some uptoSmall }

/-- 'acequialaw27.DigestJudges', WHERE WHAT IT READS IS OF BULK AT MOST 1048576: true; the input reads as it did. -/
def digestJudgesUptoRow : OpenClaim := { program := "ytdbdlhmgokllaaa", sum := "0f0f3d99199e43e39cb0e33ae746363ca0881b86c265fb2392dad9164a6eea0e", func := "acequia/acequialaw27.DigestJudges", spec := "digestJudges", inPlace := ["internal/bytealg.abigen_runtime_cmpstring"], unfollowed := true, recurses := true, apart := false, narrowed := true }
def DigestJudgesUptoSaid : Prop := digestJudgesUptoRow.holds Try.pinned (OpenSpec.upto digestJudgesSpec)

/-- 'acequialaw27.DigestReads', WHERE WHAT IT READS IS OF BULK AT MOST 1048576: true; the input reads as it did. -/
def digestReadsUptoRow : OpenClaim := { program := "ytdbdlhmgokllaaa", sum := "0f0f3d99199e43e39cb0e33ae746363ca0881b86c265fb2392dad9164a6eea0e", func := "acequia/acequialaw27.DigestReads", spec := "digestReads", inPlace := ["internal/bytealg.abigen_runtime_cmpstring"], unfollowed := true, recurses := true, apart := false, narrowed := true }
def DigestReadsUptoSaid : Prop := digestReadsUptoRow.holds Try.pinned (OpenSpec.upto digestReadsSpec)

/-- 'acequialaw27.DigestFull', WHERE WHAT IT READS IS OF BULK AT MOST 1048576: true; the input reads as it did. -/
def digestFullUptoRow : OpenClaim := { program := "ytdbdlhmgokllaaa", sum := "0f0f3d99199e43e39cb0e33ae746363ca0881b86c265fb2392dad9164a6eea0e", func := "acequia/acequialaw27.DigestFull", spec := "digestFull", inPlace := ["internal/bytealg.abigen_runtime_cmpstring", "slices.overlaps[acequia/api.Entry]"], unfollowed := true, recurses := true, apart := false, narrowed := true }
def DigestFullUptoSaid : Prop := digestFullUptoRow.holds Try.pinned (OpenSpec.upto digestFullSpec)

/-- 'acequialaw27.DigestApplies', WHERE WHAT IT READS IS OF BULK AT MOST 1048576: true; the input reads as it did. -/
def digestAppliesUptoRow : OpenClaim := { program := "ytdbdlhmgokllaaa", sum := "0f0f3d99199e43e39cb0e33ae746363ca0881b86c265fb2392dad9164a6eea0e", func := "acequia/acequialaw27.DigestApplies", spec := "digestApplies", inPlace := ["internal/bytealg.abigen_runtime_cmpstring", "slices.overlaps[acequia/api.Entry]"], unfollowed := true, recurses := true, apart := false, narrowed := true }
def DigestAppliesUptoSaid : Prop := digestAppliesUptoRow.holds Try.pinned (OpenSpec.upto digestAppliesSpec)

/-- 'acequialaw27.DigestDiffs', WHERE WHAT IT READS IS OF BULK AT MOST 1048576: true; the input reads as it did. -/
def digestDiffsUptoRow : OpenClaim := { program := "ytdbdlhmgokllaaa", sum := "0f0f3d99199e43e39cb0e33ae746363ca0881b86c265fb2392dad9164a6eea0e", func := "acequia/acequialaw27.DigestDiffs", spec := "digestDiffs", inPlace := ["internal/bytealg.abigen_runtime_cmpstring", "slices.overlaps[acequia/api.Entry]"], unfollowed := true, recurses := true, apart := false, narrowed := true }
def DigestDiffsUptoSaid : Prop := digestDiffsUptoRow.holds Try.pinned (OpenSpec.upto digestDiffsSpec)

end Rows
end Go.Proofs.Ytdbdlhmgokllaaa

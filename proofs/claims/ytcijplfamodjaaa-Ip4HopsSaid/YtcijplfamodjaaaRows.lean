/-
  No cell of these rows narrows 'for every input' (looked for: loops, veiled, ifaces, maps, wideKeys, modest, calm, conditions, laid).
  DERIVED. THE GIVEN ROWS OF THIS SEAT. 4 by the template 'for every input the law returns true; each argument reads behind the call as it read before'; 0 by the template 'total and deterministic' (their statements: YtcijplfamodjaaaTotals.lean).
  GIVEN WITH THE SEED: the statements are not yours to turn. If you find one false, say at which input.
  Laid BY PROGRAM, IN A SANDBOX (cutbox-rows.mjs): the forced cells as the released guide's own fill.sh prints them over the translation 0a61f59e4223fab5… (all of the seat's roots in one cut). By AI agents, Wed Nov 11 2026. No macro, syntax, notation, axiom, sorry.
-/
import Derived.Test.YtcijplfamodjaaaChecked
import GoSem.Claim
import GoSem.ClaimJoined
import GoSem.ClaimMapViews
import Derived.JoinedTies
import Derived.KernelRfl
namespace Go.Proofs.Ytcijplfamodjaaa
/- THE CELL 'sum', in the pinned program and in every row, IS THE sha256 OF THE DUMP (.gsa) THAT YtcijplfamodjaaaProg.lean LOADS. Nothing in Lean hashes anything: it is a label: what it is worth is what the hold of that sum in a sandbox is worth. -/
noncomputable def Try.pinned : Pinned := { name := "ytcijplfamodjaaa", sum := "0a61f59e4223fab5a5dac929a41dee69e968b2cdc841eb79aff25043c5eb60c3", checked := Try.checked }
namespace Rows
def none {H : Type} : Left H := { results := [], args := [] }

/-- 'acequialaw05.Ip4Reads': WHATEVER THE INPUT: true; the input reads as it did. -/
def ip4ReadsSpec : ChangeSpec := { name := "ip4Reads", fn := fun _ => fun
  | [d] => { results := [.lit (.bool true)], args := [d] }
  | _ => none }
def ip4ReadsRow : OpenClaim := { program := "ytcijplfamodjaaa", sum := "0a61f59e4223fab5a5dac929a41dee69e968b2cdc841eb79aff25043c5eb60c3", func := "acequia/acequialaw05.Ip4Reads", spec := "ip4Reads", unfollowed := true, recurses := true, apart := false }
def Ip4ReadsSaid : Prop := ip4ReadsRow.holds Try.pinned (OpenSpec.ofChange ip4ReadsSpec)

/-- ITS FALSE NEIGHBOUR: 'it returns false'. Refute it at one input. -/
def ip4ReadsWrong : ChangeSpec := { name := "ip4Reads", fn := fun _ => fun
  | [d] => { results := [.lit (.bool false)], args := [d] }
  | _ => none }
def Ip4ReadsWrongFalsely : Prop := ip4ReadsRow.holds Try.pinned (OpenSpec.ofChange ip4ReadsWrong)

/-- 'acequialaw05.Ip4Hops': WHATEVER THE INPUT: true; the input reads as it did. -/
def ip4HopsSpec : ChangeSpec := { name := "ip4Hops", fn := fun _ => fun
  | [d] => { results := [.lit (.bool true)], args := [d] }
  | _ => none }
def ip4HopsRow : OpenClaim := { program := "ytcijplfamodjaaa", sum := "0a61f59e4223fab5a5dac929a41dee69e968b2cdc841eb79aff25043c5eb60c3", func := "acequia/acequialaw05.Ip4Hops", spec := "ip4Hops", apart := false }
def Ip4HopsSaid : Prop := ip4HopsRow.holds Try.pinned (OpenSpec.ofChange ip4HopsSpec)

/-- ITS FALSE NEIGHBOUR: 'it returns false'. Refute it at one input. -/
def ip4HopsWrong : ChangeSpec := { name := "ip4Hops", fn := fun _ => fun
  | [d] => { results := [.lit (.bool false)], args := [d] }
  | _ => none }
def Ip4HopsWrongFalsely : Prop := ip4HopsRow.holds Try.pinned (OpenSpec.ofChange ip4HopsWrong)

/-- 'acequialaw05.Ip4Long': WHATEVER THE INPUT: true; the input reads as it did. -/
def ip4LongSpec : ChangeSpec := { name := "ip4Long", fn := fun _ => fun
  | [d1, d2] => { results := [.lit (.bool true)], args := [d1, d2] }
  | _ => none }
def ip4LongRow : OpenClaim := { program := "ytcijplfamodjaaa", sum := "0a61f59e4223fab5a5dac929a41dee69e968b2cdc841eb79aff25043c5eb60c3", func := "acequia/acequialaw05.Ip4Long", spec := "ip4Long", unfollowed := true, recurses := true, apart := false }
def Ip4LongSaid : Prop := ip4LongRow.holds Try.pinned (OpenSpec.ofChange ip4LongSpec)

/-- ITS FALSE NEIGHBOUR: 'it returns false'. Refute it at one input. -/
def ip4LongWrong : ChangeSpec := { name := "ip4Long", fn := fun _ => fun
  | [d1, d2] => { results := [.lit (.bool false)], args := [d1, d2] }
  | _ => none }
def Ip4LongWrongFalsely : Prop := ip4LongRow.holds Try.pinned (OpenSpec.ofChange ip4LongWrong)

/-- 'acequialaw05.Ip4Writes': WHATEVER THE INPUT: true; the input reads as it did. -/
def ip4WritesSpec : ChangeSpec := { name := "ip4Writes", fn := fun _ => fun
  | [d1, d2] => { results := [.lit (.bool true)], args := [d1, d2] }
  | _ => none }
def ip4WritesRow : OpenClaim := { program := "ytcijplfamodjaaa", sum := "0a61f59e4223fab5a5dac929a41dee69e968b2cdc841eb79aff25043c5eb60c3", func := "acequia/acequialaw05.Ip4Writes", spec := "ip4Writes", unfollowed := true, recurses := true, apart := false }
def Ip4WritesSaid : Prop := ip4WritesRow.holds Try.pinned (OpenSpec.ofChange ip4WritesSpec)

/-- ITS FALSE NEIGHBOUR: 'it returns false'. Refute it at one input. -/
def ip4WritesWrong : ChangeSpec := { name := "ip4Writes", fn := fun _ => fun
  | [d1, d2] => { results := [.lit (.bool false)], args := [d1, d2] }
  | _ => none }
def Ip4WritesWrongFalsely : Prop := ip4WritesRow.holds Try.pinned (OpenSpec.ofChange ip4WritesWrong)

/- THE SECOND FORM. 'bulk': how many values and letters a reading holds, each counted each time it is reached (what is shared counts as often as it is met; a slice's spare places count too). A statement '..UptoSaid' is the law's where the arguments, and the package variables that the reading takes, are together of bulk at most 1048576: NARROWER than '..Said'. Prove '..Said' where nothing that the law and all that it calls make is longer than what came in: it says more and counts as full. Else prove '..UptoSaid'. A law counts once. -/
mutual
def uptoBulk {H : Type} : DataW H → Nat
  | .lit (.string bytes) => bytes.length + 1
  | .lit _ => 1
  | .nil => 1
  | .ptr d => uptoBulk d + 1
  | .slice elems spare => uptoBulkAll elems + uptoBulkAll spare + 1
  | .agg parts => uptoBulkAll parts + 1
  | .iface _ d => uptoBulk d + 1
  | .map entries => uptoBulkEntries entries + 1
  | .held _ => 1
def uptoBulkAll {H : Type} : List (DataW H) → Nat
  | [] => 0
  | d :: r => uptoBulk d + uptoBulkAll r
def uptoBulkEntries {H : Type} : List (Lit × DataW H) → Nat
  | [] => 0
  | x :: r => uptoBulkEntry x + uptoBulkEntries r
def uptoBulkEntry {H : Type} : Lit × DataW H → Nat
  | (.string bytes, d) => bytes.length + uptoBulk d + 1
  | (_, d) => uptoBulk d + 1
 end
def uptoSmall : (H : Type) → List (DataW H) → Bool := fun _ ds => decide (uptoBulkAll ds ≤ 1048576)
def OpenSpec.upto (s : _root_.Go.ChangeSpec) : _root_.Go.OpenSpec := { _root_.Go.OpenSpec.ofChange s with cond := some uptoSmall }

/-- 'acequialaw05.Ip4Reads', WHERE WHAT IT READS IS OF BULK AT MOST 1048576: true; the input reads as it did. -/
def ip4ReadsUptoRow : OpenClaim := { program := "ytcijplfamodjaaa", sum := "0a61f59e4223fab5a5dac929a41dee69e968b2cdc841eb79aff25043c5eb60c3", func := "acequia/acequialaw05.Ip4Reads", spec := "ip4Reads", unfollowed := true, recurses := true, apart := false, narrowed := true }
def Ip4ReadsUptoSaid : Prop := ip4ReadsUptoRow.holds Try.pinned (OpenSpec.upto ip4ReadsSpec)

/-- 'acequialaw05.Ip4Hops', WHERE WHAT IT READS IS OF BULK AT MOST 1048576: true; the input reads as it did. -/
def ip4HopsUptoRow : OpenClaim := { program := "ytcijplfamodjaaa", sum := "0a61f59e4223fab5a5dac929a41dee69e968b2cdc841eb79aff25043c5eb60c3", func := "acequia/acequialaw05.Ip4Hops", spec := "ip4Hops", apart := false, narrowed := true }
def Ip4HopsUptoSaid : Prop := ip4HopsUptoRow.holds Try.pinned (OpenSpec.upto ip4HopsSpec)

/-- 'acequialaw05.Ip4Long', WHERE WHAT IT READS IS OF BULK AT MOST 1048576: true; the input reads as it did. -/
def ip4LongUptoRow : OpenClaim := { program := "ytcijplfamodjaaa", sum := "0a61f59e4223fab5a5dac929a41dee69e968b2cdc841eb79aff25043c5eb60c3", func := "acequia/acequialaw05.Ip4Long", spec := "ip4Long", unfollowed := true, recurses := true, apart := false, narrowed := true }
def Ip4LongUptoSaid : Prop := ip4LongUptoRow.holds Try.pinned (OpenSpec.upto ip4LongSpec)

/-- 'acequialaw05.Ip4Writes', WHERE WHAT IT READS IS OF BULK AT MOST 1048576: true; the input reads as it did. -/
def ip4WritesUptoRow : OpenClaim := { program := "ytcijplfamodjaaa", sum := "0a61f59e4223fab5a5dac929a41dee69e968b2cdc841eb79aff25043c5eb60c3", func := "acequia/acequialaw05.Ip4Writes", spec := "ip4Writes", unfollowed := true, recurses := true, apart := false, narrowed := true }
def Ip4WritesUptoSaid : Prop := ip4WritesUptoRow.holds Try.pinned (OpenSpec.upto ip4WritesSpec)

end Rows
end Go.Proofs.Ytcijplfamodjaaa

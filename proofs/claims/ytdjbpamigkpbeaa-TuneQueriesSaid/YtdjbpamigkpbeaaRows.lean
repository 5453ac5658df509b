/-
  No cell of these rows narrows 'for every input' (looked for: loops, veiled, ifaces, maps, wideKeys, modest, calm, conditions, laid).
  DERIVED. THE GIVEN ROWS OF THIS SEAT. 4 by the template 'for every input the law returns true; each argument reads behind the call as it read before'; 0 by the template 'total and deterministic' (their statements: YtdjbpamigkpbeaaTotals.lean).
  GIVEN WITH THE SEED: the statements are not yours to turn. If you find one false, say at which input.
  Laid BY PROGRAM, IN A SANDBOX (cutbox-rows.mjs): the forced cells as the released guide's own fill.sh prints them over the translation 5f7079f53a1a48df… (all of the seat's roots in one cut). By AI agents, Wed Nov 11 2026. No macro, syntax, notation, axiom, sorry.
-/
import Derived.Test.YtdjbpamigkpbeaaChecked
import GoSem.Claim
import GoSem.ClaimJoined
import GoSem.ClaimMapViews
import Derived.JoinedTies
import Derived.KernelRfl
namespace Go.Proofs.Ytdjbpamigkpbeaa
/- THE CELL 'sum', in the pinned program and in every row, IS THE sha256 OF THE DUMP (.gsa) THAT YtdjbpamigkpbeaaProg.lean LOADS. Nothing in Lean hashes anything: it is a label: what it is worth is what the hold of that sum in a sandbox is worth. -/
noncomputable def Try.pinned : Pinned := { name := "ytdjbpamigkpbeaa", sum := "5f7079f53a1a48df1569a2ec351ea8806866cd89208e99bd22f4b32cfefb55f7", checked := Try.checked }
namespace Rows
def none {H : Type} : Left H := { results := [], args := [] }

/-- 'acequialaw14.TuneTimes': WHATEVER THE INPUT: true; the input reads as it did. -/
def tuneTimesSpec : ChangeSpec := { name := "tuneTimes", fn := fun _ => fun
  | [d] => { results := [.lit (.bool true)], args := [d] }
  | _ => none }
def tuneTimesRow : OpenClaim := { program := "ytdjbpamigkpbeaa", sum := "5f7079f53a1a48df1569a2ec351ea8806866cd89208e99bd22f4b32cfefb55f7", func := "acequia/acequialaw14.TuneTimes", spec := "tuneTimes", apart := false }
def TuneTimesSaid : Prop := tuneTimesRow.holds Try.pinned (OpenSpec.ofChange tuneTimesSpec)

/-- ITS FALSE NEIGHBOUR: 'it returns false'. Refute it at one input. -/
def tuneTimesWrong : ChangeSpec := { name := "tuneTimes", fn := fun _ => fun
  | [d] => { results := [.lit (.bool false)], args := [d] }
  | _ => none }
def TuneTimesWrongFalsely : Prop := tuneTimesRow.holds Try.pinned (OpenSpec.ofChange tuneTimesWrong)

/-- 'acequialaw14.TuneResps': WHATEVER THE INPUT: true; the input reads as it did. -/
def tuneRespsSpec : ChangeSpec := { name := "tuneResps", fn := fun _ => fun
  | [d] => { results := [.lit (.bool true)], args := [d] }
  | _ => none }
def tuneRespsRow : OpenClaim := { program := "ytdjbpamigkpbeaa", sum := "5f7079f53a1a48df1569a2ec351ea8806866cd89208e99bd22f4b32cfefb55f7", func := "acequia/acequialaw14.TuneResps", spec := "tuneResps", apart := false }
def TuneRespsSaid : Prop := tuneRespsRow.holds Try.pinned (OpenSpec.ofChange tuneRespsSpec)

/-- ITS FALSE NEIGHBOUR: 'it returns false'. Refute it at one input. -/
def tuneRespsWrong : ChangeSpec := { name := "tuneResps", fn := fun _ => fun
  | [d] => { results := [.lit (.bool false)], args := [d] }
  | _ => none }
def TuneRespsWrongFalsely : Prop := tuneRespsRow.holds Try.pinned (OpenSpec.ofChange tuneRespsWrong)

/-- 'acequialaw14.TuneAdopts': WHATEVER THE INPUT: true; the input reads as it did. -/
def tuneAdoptsSpec : ChangeSpec := { name := "tuneAdopts", fn := fun _ => fun
  | [d1, d2] => { results := [.lit (.bool true)], args := [d1, d2] }
  | _ => none }
def tuneAdoptsRow : OpenClaim := { program := "ytdjbpamigkpbeaa", sum := "5f7079f53a1a48df1569a2ec351ea8806866cd89208e99bd22f4b32cfefb55f7", func := "acequia/acequialaw14.TuneAdopts", spec := "tuneAdopts", apart := false }
def TuneAdoptsSaid : Prop := tuneAdoptsRow.holds Try.pinned (OpenSpec.ofChange tuneAdoptsSpec)

/-- ITS FALSE NEIGHBOUR: 'it returns false'. Refute it at one input. -/
def tuneAdoptsWrong : ChangeSpec := { name := "tuneAdopts", fn := fun _ => fun
  | [d1, d2] => { results := [.lit (.bool false)], args := [d1, d2] }
  | _ => none }
def TuneAdoptsWrongFalsely : Prop := tuneAdoptsRow.holds Try.pinned (OpenSpec.ofChange tuneAdoptsWrong)

/-- 'acequialaw14.TuneQueries': WHATEVER THE INPUT: true; the input reads as it did. -/
def tuneQueriesSpec : ChangeSpec := { name := "tuneQueries", fn := fun _ => fun
  | [d1, d2, d3] => { results := [.lit (.bool true)], args := [d1, d2, d3] }
  | _ => none }
def tuneQueriesRow : OpenClaim := { program := "ytdjbpamigkpbeaa", sum := "5f7079f53a1a48df1569a2ec351ea8806866cd89208e99bd22f4b32cfefb55f7", func := "acequia/acequialaw14.TuneQueries", spec := "tuneQueries", apart := false }
def TuneQueriesSaid : Prop := tuneQueriesRow.holds Try.pinned (OpenSpec.ofChange tuneQueriesSpec)

/-- ITS FALSE NEIGHBOUR: 'it returns false'. Refute it at one input. -/
def tuneQueriesWrong : ChangeSpec := { name := "tuneQueries", fn := fun _ => fun
  | [d1, d2, d3] => { results := [.lit (.bool false)], args := [d1, d2, d3] }
  | _ => none }
def TuneQueriesWrongFalsely : Prop := tuneQueriesRow.holds Try.pinned (OpenSpec.ofChange tuneQueriesWrong)

/- THE SECOND FORM. 'bulk': how many values and letters a reading holds, each counted each time it is reached (what is shared counts as often as it is met; a slice's spare places count too). A statement '..UptoSaid' is the law's where the arguments, and the package variables that the reading takes, are together of bulk at most 1048576: NARROWER than '..Said'. Prove '..Said' where nothing that the law and all that it calls make is longer than what came in: it says more and counts as full. Else prove '..UptoSaid'. A law counts once. -/
mutual
def uptoBulk {H : Type} : DataW H → Nat
  | .lit (.string bytes) => bytes.length + 1
  | .lit _ => 1
  | .nil => 1
  | .ptr d => uptoBulk d + 1
  | .slice elems spare => uptoBulkAll elems + uptoBulkAll spare + 1
  | .agg parts => uptoBulkAll parts + 1
  | .iface _ d => uptoBulk d + 1
  | .map entries => uptoBulkEntries entries + 1
  | .held _ => 1
def uptoBulkAll {H : Type} : List (DataW H) → Nat
  | [] => 0
  | d :: r => uptoBulk d + uptoBulkAll r
def uptoBulkEntries {H : Type} : List (Lit × DataW H) → Nat
  | [] => 0
  | x :: r => uptoBulkEntry x + uptoBulkEntries r
def uptoBulkEntry {H : Type} : Lit × DataW H → Nat
  | (.string bytes, d) => bytes.length + uptoBulk d + 1
  | (_, d) => uptoBulk d + 1
 end
def uptoSmall : (H : Type) → List (DataW H) → Bool := fun _ ds => decide (uptoBulkAll ds ≤ 1048576)
def OpenSpec.upto (s : _root_.Go.ChangeSpec) : _root_.Go.OpenSpec := { _root_.Go.OpenSpec.ofChange s with cond := some uptoSmall }

/-- 'acequialaw14.TuneTimes', WHERE WHAT IT READS IS OF BULK AT MOST 1048576: true; the input reads as it did. -/
def tuneTimesUptoRow : OpenClaim := { program := "ytdjbpamigkpbeaa", sum := "5f7079f53a1a48df1569a2ec351ea8806866cd89208e99bd22f4b32cfefb55f7", func := "acequia/acequialaw14.TuneTimes", spec := "tuneTimes", apart := false, narrowed := true }
def TuneTimesUptoSaid : Prop := tuneTimesUptoRow.holds Try.pinned (OpenSpec.upto tuneTimesSpec)

/-- 'acequialaw14.TuneResps', WHERE WHAT IT READS IS OF BULK AT MOST 1048576: true; the input reads as it did. -/
def tuneRespsUptoRow : OpenClaim := { program := "ytdjbpamigkpbeaa", sum := "5f7079f53a1a48df1569a2ec351ea8806866cd89208e99bd22f4b32cfefb55f7", func := "acequia/acequialaw14.TuneResps", spec := "tuneResps", apart := false, narrowed := true }
def TuneRespsUptoSaid : Prop := tuneRespsUptoRow.holds Try.pinned (OpenSpec.upto tuneRespsSpec)

/-- 'acequialaw14.TuneAdopts', WHERE WHAT IT READS IS OF BULK AT MOST 1048576: true; the input reads as it did. -/
def tuneAdoptsUptoRow : OpenClaim := { program := "ytdjbpamigkpbeaa", sum := "5f7079f53a1a48df1569a2ec351ea8806866cd89208e99bd22f4b32cfefb55f7", func := "acequia/acequialaw14.TuneAdopts", spec := "tuneAdopts", apart := false, narrowed := true }
def TuneAdoptsUptoSaid : Prop := tuneAdoptsUptoRow.holds Try.pinned (OpenSpec.upto tuneAdoptsSpec)

/-- 'acequialaw14.TuneQueries', WHERE WHAT IT READS IS OF BULK AT MOST 1048576: true; the input reads as it did. -/
def tuneQueriesUptoRow : OpenClaim := { program := "ytdjbpamigkpbeaa", sum := "5f7079f53a1a48df1569a2ec351ea8806866cd89208e99bd22f4b32cfefb55f7", func := "acequia/acequialaw14.TuneQueries", spec := "tuneQueries", apart := false, narrowed := true }
def TuneQueriesUptoSaid : Prop := tuneQueriesUptoRow.holds Try.pinned (OpenSpec.upto tuneQueriesSpec)

end Rows
end Go.Proofs.Ytdjbpamigkpbeaa

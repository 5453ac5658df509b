/-
  No cell of these rows narrows 'for every input' (looked for: loops, veiled, ifaces, maps, wideKeys, modest, calm, conditions, laid).
  DERIVED. THE GIVEN ROWS OF THIS SEAT. 2 by the template 'for every input the law returns true; each argument reads behind the call as it read before'; 0 by the template 'total and deterministic' (their statements: YteoonblpaabjpaaTotals.lean).
  GIVEN WITH THE SEED: the statements are not yours to turn. If you find one false, say at which input.
  Laid BY PROGRAM, IN A SANDBOX (cutbox-rows.mjs): the forced cells as the released guide's own fill.sh prints them over the translation d90460246a12d4a7… (all of the seat's roots in one cut). By AI agents, Wed Nov 11 2026. No macro, syntax, notation, axiom, sorry.
-/
import Derived.Test.YteoonblpaabjpaaChecked
import GoSem.Claim
import GoSem.ClaimJoined
import GoSem.ClaimMapViews
import Derived.JoinedTies
import Derived.KernelRfl
namespace Go.Proofs.Yteoonblpaabjpaa
/- THE CELL 'sum', in the pinned program and in every row, IS THE sha256 OF THE DUMP (.gsa) THAT YteoonblpaabjpaaProg.lean LOADS. Nothing in Lean hashes anything: it is a label: what it is worth is what the hold of that sum in a sandbox is worth. -/
noncomputable def Try.pinned : Pinned := { name := "yteoonblpaabjpaa", sum := "d90460246a12d4a709b09f600da6acf01db3cc99e2f10b9fe779123b53abd988", checked := Try.checked }
namespace Rows
def none {H : Type} : Left H := { results := [], args := [] }

/-- 'acequialaw21.ElectLowest': WHATEVER THE INPUT: true; the input reads as it did. -/
def electLowestSpec : ChangeSpec := { name := "electLowest", fn := fun _ => fun
  | [d1, d2, d3] => { results := [.lit (.bool true)], args := [d1, d2, d3] }
  | _ => none }
def electLowestRow : OpenClaim := { program := "yteoonblpaabjpaa", sum := "d90460246a12d4a709b09f600da6acf01db3cc99e2f10b9fe779123b53abd988", func := "acequia/acequialaw21.ElectLowest", spec := "electLowest", inPlace := ["internal/bytealg.abigen_runtime_cmpstring"], apart := false }
def ElectLowestSaid : Prop := electLowestRow.holds Try.pinned (OpenSpec.ofChange electLowestSpec)

/-- ITS FALSE NEIGHBOUR: 'it returns false'. Refute it at one input. -/
def electLowestWrong : ChangeSpec := { name := "electLowest", fn := fun _ => fun
  | [d1, d2, d3] => { results := [.lit (.bool false)], args := [d1, d2, d3] }
  | _ => none }
def ElectLowestWrongFalsely : Prop := electLowestRow.holds Try.pinned (OpenSpec.ofChange electLowestWrong)

/-- 'acequialaw21.ElectNil': WHATEVER THE INPUT: true; the input reads as it did. -/
def electNilSpec : ChangeSpec := { name := "electNil", fn := fun _ => fun
  | [d1, d2] => { results := [.lit (.bool true)], args := [d1, d2] }
  | _ => none }
def electNilRow : OpenClaim := { program := "yteoonblpaabjpaa", sum := "d90460246a12d4a709b09f600da6acf01db3cc99e2f10b9fe779123b53abd988", func := "acequia/acequialaw21.ElectNil", spec := "electNil", inPlace := ["internal/bytealg.abigen_runtime_cmpstring"], apart := false }
def ElectNilSaid : Prop := electNilRow.holds Try.pinned (OpenSpec.ofChange electNilSpec)

/-- ITS FALSE NEIGHBOUR: 'it returns false'. Refute it at one input. -/
def electNilWrong : ChangeSpec := { name := "electNil", fn := fun _ => fun
  | [d1, d2] => { results := [.lit (.bool false)], args := [d1, d2] }
  | _ => none }
def ElectNilWrongFalsely : Prop := electNilRow.holds Try.pinned (OpenSpec.ofChange electNilWrong)

/- THE SECOND FORM. 'bulk': how many values and letters a reading holds, each counted each time it is reached (what is shared counts as often as it is met; a slice's spare places count too). A statement '..UptoSaid' is the law's where the arguments, and the package variables that the reading takes, are together of bulk at most 1048576: NARROWER than '..Said'. Prove '..Said' where nothing that the law and all that it calls make is longer than what came in: it says more and counts as full. Else prove '..UptoSaid'. A law counts once. -/
mutual
def uptoBulk {H : Type} : DataW H → Nat
  | .lit (.string bytes) => bytes.length + 1
  | .lit _ => 1
  | .nil => 1
  | .ptr d => uptoBulk d + 1
  | .slice elems spare => uptoBulkAll elems + uptoBulkAll spare + 1
  | .agg parts => uptoBulkAll parts + 1
  | .iface _ d => uptoBulk d + 1
  | .map entries => uptoBulkEntries entries + 1
  | .held _ => 1
def uptoBulkAll {H : Type} : List (DataW H) → Nat
  | [] => 0
  | d :: r => uptoBulk d + uptoBulkAll r
def uptoBulkEntries {H : Type} : List (Lit × DataW H) → Nat
  | [] => 0
  | x :: r => uptoBulkEntry x + uptoBulkEntries r
def uptoBulkEntry {H : Type} : Lit × DataW H → Nat
  | (.string bytes, d) => bytes.length + uptoBulk d + 1
  | (_, d) => uptoBulk d + 1
 end
def uptoSmall : (H : Type) → List (DataW H) → Bool := fun _ ds => decide (uptoBulkAll ds ≤ 1048576)
def OpenSpec.upto (s : _root_.Go.ChangeSpec) : _root_.Go.OpenSpec := { _root_.Go.OpenSpec.ofChange s with cond := some uptoSmall }

/-- 'acequialaw21.ElectLowest', WHERE WHAT IT READS IS OF BULK AT MOST 1048576: true; the input reads as it did. -/
def electLowestUptoRow : OpenClaim := { program := "yteoonblpaabjpaa", sum := "d90460246a12d4a709b09f600da6acf01db3cc99e2f10b9fe779123b53abd988", func := "acequia/acequialaw21.ElectLowest", spec := "electLowest", inPlace := ["internal/bytealg.abigen_runtime_cmpstring"], apart := false, narrowed := true }
def ElectLowestUptoSaid : Prop := electLowestUptoRow.holds Try.pinned (OpenSpec.upto electLowestSpec)

/-- 'acequialaw21.ElectNil', WHERE WHAT IT READS IS OF BULK AT MOST 1048576: true; the input reads as it did. -/
def electNilUptoRow : OpenClaim := { program := "yteoonblpaabjpaa", sum := "d90460246a12d4a709b09f600da6acf01db3cc99e2f10b9fe779123b53abd988", func := "acequia/acequialaw21.ElectNil", spec := "electNil", inPlace := ["internal/bytealg.abigen_runtime_cmpstring"], apart := false, narrowed := true }
def ElectNilUptoSaid : Prop := electNilUptoRow.holds Try.pinned (OpenSpec.upto electNilSpec)

end Rows
end Go.Proofs.Yteoonblpaabjpaa

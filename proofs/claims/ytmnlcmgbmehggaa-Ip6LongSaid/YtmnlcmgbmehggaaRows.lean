/-
  No cell of these rows narrows 'for every input' (looked for: loops, veiled, ifaces, maps, wideKeys, modest, calm, conditions, laid).
  DERIVED. THE GIVEN ROWS OF THIS SEAT. 4 by the template 'for every input the law returns true; each argument reads behind the call as it read before'; 0 by the template 'total and deterministic' (their statements: YtmnlcmgbmehggaaTotals.lean).
  GIVEN WITH THE SEED: the statements are not yours to turn. If you find one false, say at which input.
  Laid BY PROGRAM, IN A SANDBOX (cutbox-rows.mjs): the forced cells as the released guide's own fill.sh prints them over the translation 4a3e1b91198e35ad… (all of the seat's roots in one cut). By AI agents, Wed Nov 11 2026. No macro, syntax, notation, axiom, sorry.
-/
import Derived.Test.YtmnlcmgbmehggaaChecked
import GoSem.Claim
import GoSem.ClaimJoined
import GoSem.ClaimMapViews
import Derived.JoinedTies
import Derived.KernelRfl
namespace Go.Proofs.Ytmnlcmgbmehggaa
/- THE CELL 'sum', in the pinned program and in every row, IS THE sha256 OF THE DUMP (.gsa) THAT YtmnlcmgbmehggaaProg.lean LOADS. Nothing in Lean hashes anything: it is a label: what it is worth is what the hold of that sum in a sandbox is worth. -/
noncomputable def Try.pinned : Pinned := { name := "ytmnlcmgbmehggaa", sum := "4a3e1b91198e35adea0737a65a2775ceb55de5bed4002e677be3c3de2da51f6c", checked := Try.checked }
namespace Rows
def none {H : Type} : Left H := { results := [], args := [] }

/-- 'acequialaw06.Ip6Options': WHATEVER THE INPUT: true; the input reads as it did. -/
def ip6OptionsSpec : ChangeSpec := { name := "ip6Options", fn := fun _ => fun
  | [d] => { results := [.lit (.bool true)], args := [d] }
  | _ => none }
def ip6OptionsRow : OpenClaim := { program := "ytmnlcmgbmehggaa", sum := "4a3e1b91198e35adea0737a65a2775ceb55de5bed4002e677be3c3de2da51f6c", func := "acequia/acequialaw06.Ip6Options", spec := "ip6Options", apart := false }
def Ip6OptionsSaid : Prop := ip6OptionsRow.holds Try.pinned (OpenSpec.ofChange ip6OptionsSpec)

/-- ITS FALSE NEIGHBOUR: 'it returns false'. Refute it at one input. -/
def ip6OptionsWrong : ChangeSpec := { name := "ip6Options", fn := fun _ => fun
  | [d] => { results := [.lit (.bool false)], args := [d] }
  | _ => none }
def Ip6OptionsWrongFalsely : Prop := ip6OptionsRow.holds Try.pinned (OpenSpec.ofChange ip6OptionsWrong)

/-- 'acequialaw06.Ip6Reads': WHATEVER THE INPUT: true; the input reads as it did. -/
def ip6ReadsSpec : ChangeSpec := { name := "ip6Reads", fn := fun _ => fun
  | [d] => { results := [.lit (.bool true)], args := [d] }
  | _ => none }
def ip6ReadsRow : OpenClaim := { program := "ytmnlcmgbmehggaa", sum := "4a3e1b91198e35adea0737a65a2775ceb55de5bed4002e677be3c3de2da51f6c", func := "acequia/acequialaw06.Ip6Reads", spec := "ip6Reads", apart := false }
def Ip6ReadsSaid : Prop := ip6ReadsRow.holds Try.pinned (OpenSpec.ofChange ip6ReadsSpec)

/-- ITS FALSE NEIGHBOUR: 'it returns false'. Refute it at one input. -/
def ip6ReadsWrong : ChangeSpec := { name := "ip6Reads", fn := fun _ => fun
  | [d] => { results := [.lit (.bool false)], args := [d] }
  | _ => none }
def Ip6ReadsWrongFalsely : Prop := ip6ReadsRow.holds Try.pinned (OpenSpec.ofChange ip6ReadsWrong)

/-- 'acequialaw06.Ip6Long': WHATEVER THE INPUT: true; the input reads as it did. -/
def ip6LongSpec : ChangeSpec := { name := "ip6Long", fn := fun _ => fun
  | [d1, d2] => { results := [.lit (.bool true)], args := [d1, d2] }
  | _ => none }
def ip6LongRow : OpenClaim := { program := "ytmnlcmgbmehggaa", sum := "4a3e1b91198e35adea0737a65a2775ceb55de5bed4002e677be3c3de2da51f6c", func := "acequia/acequialaw06.Ip6Long", spec := "ip6Long", apart := false }
def Ip6LongSaid : Prop := ip6LongRow.holds Try.pinned (OpenSpec.ofChange ip6LongSpec)

/-- ITS FALSE NEIGHBOUR: 'it returns false'. Refute it at one input. -/
def ip6LongWrong : ChangeSpec := { name := "ip6Long", fn := fun _ => fun
  | [d1, d2] => { results := [.lit (.bool false)], args := [d1, d2] }
  | _ => none }
def Ip6LongWrongFalsely : Prop := ip6LongRow.holds Try.pinned (OpenSpec.ofChange ip6LongWrong)

/-- 'acequialaw06.Ip6Writes': WHATEVER THE INPUT: true; the input reads as it did. -/
def ip6WritesSpec : ChangeSpec := { name := "ip6Writes", fn := fun _ => fun
  | [d1, d2] => { results := [.lit (.bool true)], args := [d1, d2] }
  | _ => none }
def ip6WritesRow : OpenClaim := { program := "ytmnlcmgbmehggaa", sum := "4a3e1b91198e35adea0737a65a2775ceb55de5bed4002e677be3c3de2da51f6c", func := "acequia/acequialaw06.Ip6Writes", spec := "ip6Writes", apart := false }
def Ip6WritesSaid : Prop := ip6WritesRow.holds Try.pinned (OpenSpec.ofChange ip6WritesSpec)

/-- ITS FALSE NEIGHBOUR: 'it returns false'. Refute it at one input. -/
def ip6WritesWrong : ChangeSpec := { name := "ip6Writes", fn := fun _ => fun
  | [d1, d2] => { results := [.lit (.bool false)], args := [d1, d2] }
  | _ => none }
def Ip6WritesWrongFalsely : Prop := ip6WritesRow.holds Try.pinned (OpenSpec.ofChange ip6WritesWrong)

/- THE SECOND FORM. 'bulk': how many values and letters a reading holds, each counted each time it is reached (what is shared counts as often as it is met; a slice's spare places count too). A statement '..UptoSaid' is the law's where the arguments, and the package variables that the reading takes, are together of bulk at most 1048576: NARROWER than '..Said'. Prove '..Said' where nothing that the law and all that it calls make is longer than what came in: it says more and counts as full. Else prove '..UptoSaid'. A law counts once. -/
mutual
def uptoBulk {H : Type} : DataW H → Nat
  | .lit (.string bytes) => bytes.length + 1
  | .lit _ => 1
  | .nil => 1
  | .ptr d => uptoBulk d + 1
  | .slice elems spare => uptoBulkAll elems + uptoBulkAll spare + 1
  | .agg parts => uptoBulkAll parts + 1
  | .iface _ d => uptoBulk d + 1
  | .map entries => uptoBulkEntries entries + 1
  | .held _ => 1
def uptoBulkAll {H : Type} : List (DataW H) → Nat
  | [] => 0
  | d :: r => uptoBulk d + uptoBulkAll r
def uptoBulkEntries {H : Type} : List (Lit × DataW H) → Nat
  | [] => 0
  | x :: r => uptoBulkEntry x + uptoBulkEntries r
def uptoBulkEntry {H : Type} : Lit × DataW H → Nat
  | (.string bytes, d) => bytes.length + uptoBulk d + 1
  | (_, d) => uptoBulk d + 1
 end
def uptoSmall : (H : Type) → List (DataW H) → Bool := fun _ ds => decide (uptoBulkAll ds ≤ 1048576)
def OpenSpec.upto (s : _root_.Go.ChangeSpec) : _root_.Go.OpenSpec := { _root_.Go.OpenSpec.ofChange s with cond := some uptoSmall }

/-- 'acequialaw06.Ip6Options', WHERE WHAT IT READS IS OF BULK AT MOST 1048576: true; the input reads as it did. -/
def ip6OptionsUptoRow : OpenClaim := { program := "ytmnlcmgbmehggaa", sum := "4a3e1b91198e35adea0737a65a2775ceb55de5bed4002e677be3c3de2da51f6c", func := "acequia/acequialaw06.Ip6Options", spec := "ip6Options", apart := false, narrowed := true }
def Ip6OptionsUptoSaid : Prop := ip6OptionsUptoRow.holds Try.pinned (OpenSpec.upto ip6OptionsSpec)

/-- 'acequialaw06.Ip6Reads', WHERE WHAT IT READS IS OF BULK AT MOST 1048576: true; the input reads as it did. -/
def ip6ReadsUptoRow : OpenClaim := { program := "ytmnlcmgbmehggaa", sum := "4a3e1b91198e35adea0737a65a2775ceb55de5bed4002e677be3c3de2da51f6c", func := "acequia/acequialaw06.Ip6Reads", spec := "ip6Reads", apart := false, narrowed := true }
def Ip6ReadsUptoSaid : Prop := ip6ReadsUptoRow.holds Try.pinned (OpenSpec.upto ip6ReadsSpec)

/-- 'acequialaw06.Ip6Long', WHERE WHAT IT READS IS OF BULK AT MOST 1048576: true; the input reads as it did. -/
def ip6LongUptoRow : OpenClaim := { program := "ytmnlcmgbmehggaa", sum := "4a3e1b91198e35adea0737a65a2775ceb55de5bed4002e677be3c3de2da51f6c", func := "acequia/acequialaw06.Ip6Long", spec := "ip6Long", apart := false, narrowed := true }
def Ip6LongUptoSaid : Prop := ip6LongUptoRow.holds Try.pinned (OpenSpec.upto ip6LongSpec)

/-- 'acequialaw06.Ip6Writes', WHERE WHAT IT READS IS OF BULK AT MOST 1048576: true; the input reads as it did. -/
def ip6WritesUptoRow : OpenClaim := { program := "ytmnlcmgbmehggaa", sum := "4a3e1b91198e35adea0737a65a2775ceb55de5bed4002e677be3c3de2da51f6c", func := "acequia/acequialaw06.Ip6Writes", spec := "ip6Writes", apart := false, narrowed := true }
def Ip6WritesUptoSaid : Prop := ip6WritesUptoRow.holds Try.pinned (OpenSpec.upto ip6WritesSpec)

end Rows
end Go.Proofs.Ytmnlcmgbmehggaa

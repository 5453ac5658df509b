/-
  Regions that draw: three that may come up at once; two new blocks.
-/
import Derived.Test.YtfdkfimakdhbdaaSg
namespace Go.Proofs.Ytfdkfimakdhbdaa
open Go.ChangeShapes Go.WideShapes Go.ChangeAt Go.RowKit
set_option linter.unusedVariables false
set_option linter.unusedSimpArgs false
section
variable {P : Program} {B : Nat} {w0 W : World} {H H0 : HB} {a : Act} {Q : Exit → Act → World → Prop} {l : List Oper} {fuel : Nat} {listed : Array Bool}
theorem hm_three {o o2 o3 : Oper} (i j k : Nat) (ho : l[i]? = some o) (ho2 : l[j]? = some o2) (ho3 : l[k]? = some o3) (hr : Region.ready .any l.toArray listed = [i, j, k]) (h : wpList P l.toArray (hmQ P l Q B w0 H0 fuel (listed.setIfInBounds i true)) [o] a W)
    (h2 : wpList P l.toArray (hmQ P l Q B w0 H0 fuel (listed.setIfInBounds j true)) [o2] a W) (h3 : wpList P l.toArray (hmQ P l Q B w0 H0 fuel (listed.setIfInBounds k true)) [o3] a W) : WMS P l Q B w0 H0 (fuel + 1) listed a W := by
  unfold WMS
  refine wpAnyH_all hr (by simp) (fun m hm => ?_)
  simp at hm
  rcases hm with rfl | rfl | rfl
  · exact hm_op m ho h
  · exact hm_op m ho2 h2
  · exact hm_op m ho3 h3
def mixF2 (B : Nat) (w0 : World) (af : Nat → Nat → Act) (Hf : Nat → Nat → HB) : Exit → Act → World → Prop
  | .normal, a, w => ∃ g1 g2, a = af g1 g2 ∧ Hp B w0 w (Hf g1 g2)
  | _, _, _ => False
theorem regM2 {af : Nat → Nat → Act} {Hf : Nat → Nat → HB} {id : Nat} (hH : Hp B w0 W H) (hS : SubH H H0) (hm : P.follows .mixedOrders = true) (h : ∀ W', Hp B w0 W' H → WMS P l (mixF2 B w0 af Hf) B w0 H0 l.length (Array.replicate l.length false) a W')
    (hk : ∀ W' g1 g2, Hp B w0 W' (Hf g1 g2) → Q .normal (af g1 g2) W') : (Code.region id l.toArray true).wp P Q a W := by
  refine Code.wp_mono (fun e a w hq => ?_) (regM hH hS hm h)
  cases e <;> first | exact hq.elim | (obtain ⟨g1, g2, rfl, hg⟩ := hq; exact hk _ _ _ hg)
end
end Go.Proofs.Ytfdkfimakdhbdaa

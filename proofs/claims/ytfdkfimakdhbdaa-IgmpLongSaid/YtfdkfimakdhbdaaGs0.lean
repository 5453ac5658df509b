/-
  What the laws of igmp share: the package's Read, lives.
-/
import Derived.Test.YtfdkfimakdhbdaaGoz
import Derived.Test.YtfdkfimakdhbdaaGiz
import Derived.Test.YtfdkfimakdhbdaaGp
import Derived.Test.YtfdkfimakdhbdaaIn
namespace Go.Proofs.Ytfdkfimakdhbdaa
-- %in
open Go.ChangeShapes Go.WideShapes Go.ChangeAt Go.RowKit
set_option linter.unusedVariables false
set_option linter.unusedSimpArgs false
set_option maxRecDepth 20000
attribute [local irreducible] wpList

theorem own : ownKnob Try.prog.godebug = none := by kernel_rfl
def lit8 : ByteArray := ⟨#[17, 100, 238, 155, 0, 0, 0, 0]⟩
theorem read_lit8 : rReadF lit8 = (⟨false, 2, 1, 100, Ad.z, false, 0, 0, [], []⟩, 0) := by kernel_rfl
section
variable {w : World} {s : ByteArray}
theorem hIRead {B : Nat} {w0 W : World} {H : HB} {Q : Ending → World → Prop} (hs : s.size ≤ 100000) (hH : Hp B w0 W H) (hQ : ∀ W' sp sc rp rc D, Hid (TkIn D sp rp (rReadF s).1) → Hid (∀ r ∈ D, r.2.2.1 = true) → Hp B w0 W' (H ++ D) → Q (.returned (.tuple #[.agg (fls (tkS (rReadF s).1 sp sc rp rc)).toArray, .int .i64 (rReadF s).2])) W') : Calls Try.prog 7 #[.string s] W Q := by
  have h := iread_any (w := W) hs
  rw [readF_is] at h
  exact h.mono fun _ _ ⟨sp, sc, rp, rc, D, he, hm, hr⟩ => by subst he; exact hQ _ sp sc rp rc D (Lib.hid hr) (Lib.hid hm.2) (hH.join hm)
theorem lives08 : Gives Try.prog 11 #[] w (.bool true) := by
  refine Gives.of ?_
  have hH := Hp.refl w
  have IR := Lib.hid (show ∀ (W : World) (H : HB) (Q : Ending → World → Prop), Hp w.heap.size w W H → (∀ W' sp sc rp rc D, Hp w.heap.size w W' (H ++ D) → Q (.returned (.tuple #[.agg (fls [.one (.bool false), .one (.int .i64 2), .one (.int .i64 1), .one (.int .i64 100), .many (adL Ad.z) 17, .one (.bool false), .one (.int .i64 0), .one (.int .i64 0), .one (.slice sp 0 sc), .one (.slice rp 0 rc)]).toArray, .int .i64 0])) W') → Calls Try.prog 7 #[.string ⟨#[17, 100, 238, 155, 0, 0, 0, 0]⟩] W Q from fun W H Q hH hQ => by
    refine hIRead (s := lit8) (by decide) hH ?_
    rw [read_lit8]
    intro W' sp sc rp rc D _ _ h
    exact hQ W' sp sc rp rc D h)
  have oZ := adL_ok Ad.z
  generalize adL Ad.z = Z at *
  go_enter Try.func11, Try.ntmps11
  go_wp2_with (first | ((go_at_call 7; refine IR.out _ _ _ hH ?_; (clear hH; intro W sp sc rp rc D hH); (try simp only [List.cons_append, List.nil_append] at hH); ((try simp only [Act.put, pA, pB, pC])))) | ((first | (refine iL tab_ok rfl ?_ rfl hH ?_; (focus (first | exact wN rfl | exact rfl)); refine ⟨_, _, rfl, rfl, ?_⟩) | (refine iLi tab_ok rfl ?_ rfl hH ?_; (focus (first | exact wN rfl | exact rfl)); refine ⟨_, _, _, ?_, rfl, rfl, rfl, ?_, ?_⟩; rotate_left; (focus assumption)) | (refine iS1 tab_ok rfl ?_ rfl hH ?_; (focus (first | exact wN rfl | exact rfl)); refine ⟨_, _, _, _, rfl, rfl, rfl, rfl, rfl, ?_⟩) | (refine iSR tab_ok rfl ?_ rfl hH ?_; (focus (first | exact wN rfl | exact rfl)); refine ⟨_, _, _, _, rfl, rfl, rfl, rfl, rfl, ?_, ?_⟩; (focus (repeat (first | exact trivial | assumption | exact OkA.z (by kernel_rfl) (by kernel_rfl) | refine ⟨rfl, ?_⟩ | refine ⟨?_, ?_⟩)))) | (refine hAl tab_ok rfl ?_ hH rfl ?_; (focus (first | exact wN rfl | exact rfl))) | (refine hBx1 rfl ?_ rfl hH ?_; (focus (first | exact wN rfl | exact rfl))) | (refine hBx rfl ?_ rfl hH ?_ ?_; (focus (first | exact wN rfl | exact rfl)); (focus (repeat (first | exact trivial | assumption | exact OkA.z (by kernel_rfl) (by kernel_rfl) | refine ⟨rfl, ?_⟩ | refine ⟨?_, ?_⟩)))) | (refine hBd tab_ok rfl ?_ rfl rfl rfl hH ?_; (focus (first | exact wN rfl | exact rfl)); refine ⟨?_, ?_, ?_⟩; rotate_left; (focus (repeat (first | exact BR.nil | refine BR.one rfl rfl rfl ?_ | (refine BR.row rfl rfl rfl rfl ?_ ?_; (focus (repeat (first | exact trivial | assumption | exact OkA.z (by kernel_rfl) (by kernel_rfl) | refine ⟨rfl, ?_⟩ | refine ⟨?_, ?_⟩))))))))); clear hH; (first | intro W g hH | intro W hH); ((try simp only [Act.put, pA, pB, pC]))))
  go_ret
  exact ⟨rfl, hH.below⟩
end
end Go.Proofs.Ytfdkfimakdhbdaa

/-
  Contracts of package igmp: Read: the ends ahead (printed by tools/gen-gi.py).
-/
import Derived.Test.YtfdkfimakdhbdaaGi
import Derived.Test.YtfdkfimakdhbdaaIn
namespace Go.Proofs.Ytfdkfimakdhbdaa
-- %in
open Go.ChangeShapes Go.WideShapes Go.ChangeAt Go.RowKit
set_option linter.unusedVariables false
set_option linter.unusedSimpArgs false
set_option maxRecDepth 20000
attribute [local irreducible] wpList

section
variable {w : World} {s : ByteArray}
set_option maxHeartbeats 1000000 in
theorem iread_short (h : s.size < 8) : Calls Try.prog 7 #[.string s] w fun e w' => RdPost w Tk.z 3 e w' := by
  have hH := Hp.refl w
  have d1 : decide ((s.size : Int) < 8) = true := decide_eq_true (by omega)
  go_enter Try.func7, Try.ntmps7
  go_wp2_with (first | ((first | (refine iSR tab_ok rfl ?_ rfl hH ?_; (focus (first | exact wN rfl | exact rfl)); refine ⟨_, _, _, _, rfl, rfl, rfl, rfl, rfl, ?_, ?_⟩; (focus (repeat (first | exact trivial | assumption | exact OkA.z (by kernel_rfl) (by kernel_rfl) | refine ⟨rfl, ?_⟩ | refine ⟨?_, ?_⟩)))) | (refine hAl tab_ok rfl ?_ hH rfl ?_; (focus (first | exact wN rfl | exact rfl))) | (refine hBd tab_ok rfl ?_ rfl rfl rfl hH ?_; (focus (first | exact wN rfl | exact rfl)); refine ⟨?_, ?_, ?_⟩; rotate_left; (focus (repeat (first | exact BR.nil | refine BR.one rfl rfl rfl ?_ | (refine BR.row rfl rfl rfl rfl ?_ ?_; (focus (repeat (first | exact trivial | assumption | exact OkA.z (by kernel_rfl) (by kernel_rfl) | refine ⟨rfl, ?_⟩ | refine ⟨?_, ?_⟩))))))))); clear hH; (first | intro W g hH | intro W hH); ((try simp only [Act.put, pA, pB, pC]))))
  (refine iRet2 Try.results7 tab_ok rfl rfl hH ?_; refine ⟨_, _, rfl, rfl, rfl, ?_⟩)
  exact RdPost.mk (sp := none) (rp := none) (sc := 0) (rc := 0) (D := []) (by rw [tkz_seg]; rfl) ⟨hH.nil, by simp⟩ TkIn.z
set_option maxHeartbeats 1000000 in
theorem iread_sum (hs : s.size ≤ 100000) (h : 8 ≤ s.size) (hb : sumOk s = false) : Calls Try.prog 7 #[.string s] w fun e w' => RdPost w Tk.z 4 e w' := by
  have hH := Hp.refl w
  have d1 : decide ((s.size : Int) < 8) = false := decide_eq_false (by omega)
  have hgood := @sgood_any s hs
  rw [hb] at hgood
  go_enter Try.func7, Try.ntmps7
  go_wp2_with (first | ((go_at_call 18; refine callR 0 hH rfl (fun hr => hgood hr) ?_; (clear hH; (first | intro W g hH | intro W hH); (try simp only [Act.put, pA, pB, pC])))) | ((refine hSl tab_ok rfl ?_ rfl tabs_ok rfl rfl rfl rfl rfl hH ?_; (focus (first | exact wN rfl | exact rfl)); refine ⟨?_, ?_, ?_⟩; rotate_left; (focus (repeat (first | exact BR.nil | refine BR.one rfl rfl rfl ?_ | (refine BR.row rfl rfl rfl rfl ?_ ?_; (focus (repeat (first | exact trivial | assumption | exact OkA.z (by kernel_rfl) (by kernel_rfl) | refine ⟨rfl, ?_⟩ | refine ⟨?_, ?_⟩))))))); clear hH; intro W g hH; (try simp only [Act.put, pA, pB, pC]))) | ((first | (refine iSR tab_ok rfl ?_ rfl hH ?_; (focus (first | exact wN rfl | exact rfl)); refine ⟨_, _, _, _, rfl, rfl, rfl, rfl, rfl, ?_, ?_⟩; (focus (repeat (first | exact trivial | assumption | exact OkA.z (by kernel_rfl) (by kernel_rfl) | refine ⟨rfl, ?_⟩ | refine ⟨?_, ?_⟩)))) | (refine hAl tab_ok rfl ?_ hH rfl ?_; (focus (first | exact wN rfl | exact rfl))) | (refine hBd tab_ok rfl ?_ rfl rfl rfl hH ?_; (focus (first | exact wN rfl | exact rfl)); refine ⟨?_, ?_, ?_⟩; rotate_left; (focus (repeat (first | exact BR.nil | refine BR.one rfl rfl rfl ?_ | (refine BR.row rfl rfl rfl rfl ?_ ?_; (focus (repeat (first | exact trivial | assumption | exact OkA.z (by kernel_rfl) (by kernel_rfl) | refine ⟨rfl, ?_⟩ | refine ⟨?_, ?_⟩))))))))); clear hH; (first | intro W g hH | intro W hH); ((try simp only [Act.put, pA, pB, pC]))))
  (refine iRet2 Try.results7 tab_ok rfl rfl hH ?_; refine ⟨_, _, rfl, rfl, rfl, ?_⟩)
  exact RdPost.mk (sp := none) (rp := none) (sc := 0) (rc := 0) (D := []) (by rw [tkz_seg]; rfl) ⟨hH.nil, by simp⟩ TkIn.z
end
end Go.Proofs.Ytfdkfimakdhbdaa

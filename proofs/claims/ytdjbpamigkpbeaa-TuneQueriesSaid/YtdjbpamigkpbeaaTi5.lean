/-
  Contract of acequiaref09.Good: all talks; acequiaref10.Talk (printed by tools/gen-th.py).
-/
import Derived.Test.YtdjbpamigkpbeaaTi1
import Derived.Test.YtdjbpamigkpbeaaTi2
import Derived.Test.YtdjbpamigkpbeaaTi3
import Derived.Test.YtdjbpamigkpbeaaTi4
import Derived.Test.YtdjbpamigkpbeaaTh5
namespace Go.Proofs.Ytdjbpamigkpbeaa
open Go.ChangeShapes Go.WideShapes Go.ChangeAt Go.RowKit
set_option linter.unusedVariables false
set_option linter.unusedSimpArgs false
attribute [local irreducible] wpList

section
variable {w : World} {sp rp : Option Addr} {sc rc : Nat} {T : Tk}
theorem rgood6_any (hT : T.Ok) (hA : AdsAt w sp T.src) (hR : RcsAt w rp T.recs) : Gives Try.prog 30 #[.agg (fls (tkS T sp sc rp rc)).toArray] w (.bool (good6 T)) := by
  obtain ⟨v6, ver, kind, resp, g, quiet, rob, every, src, recs⟩ := T
  have b1 := hT.resp
  have b2 := hT.every
  unfold tkS
  simp only at *
  by_cases hb : v6 = false ∨ ver < 1 ∨ 2 < ver ∨ kind < 1 ∨ 3 < kind ∨ (ver = 2 ∧ kind = 3)
  · have e : good6 ⟨v6, ver, kind, resp, g, quiet, rob, every, src, recs⟩ = false := by
      unfold good6
      rw [if_pos (by simpa [or_assoc] using hb)]
    rw [e]
    exact rgood6_bad (adL_ok g) hb
  obtain rfl : v6 = true := by simp at hb; exact hb.1
  have h1 : 1 ≤ ver ∧ ver ≤ 2 ∧ 1 ≤ kind ∧ kind ≤ 3 ∧ ¬(ver = 2 ∧ kind = 3) := by simp at hb; omega
  rcases (show ver = 1 ∨ ver = 2 by omega) with rfl | rfl
  · by_cases hk : kind = 1
    · subst hk; exact rgood6_D (ver := 1) (kind := 1) hA.1 hR.1
    · exact rgood6_A (ver := 1) hA.1 hR.1 (by omega) (by omega)
  · rcases (show kind = 1 ∨ kind = 2 by omega) with rfl | rfl
    · exact rgood6_F (ver := 1) (kind := 1) hA.1 hR.1 hA b1 b2
    · exact rgood6_C (ver := 1) (kind := 1) hA.1 hR.1 hR
noncomputable def talkT (T : Tk) : Bool := if T.v6 then good6 T else good4 T
theorem rTalk_any (hT : T.Ok) (hA : AdsAt w sp T.src) (hR : RcsAt w rp T.recs) : Gives Try.prog 19 #[.agg (fls (tkS T sp sc rp rc)).toArray] w (.bool (talkT T)) := by
  have f1 := Lib.hid (show ∀ W, Below w.heap.size w W → Gives Try.prog 30 #[.agg (fls (tkS T sp sc rp rc)).toArray] W (.bool (good6 T)) from fun W hb => rgood6_any hT (hA.below hb) (hR.below hb))
  have f2 := Lib.hid (show ∀ W, Below w.heap.size w W → Gives Try.prog 31 #[.agg (fls (tkS T sp sc rp rc)).toArray] W (.bool (good4 T)) from fun W hb => rgood4_any hT (hA.below hb) (hR.below hb))
  clear hT hA hR
  unfold talkT
  generalize good6 T = b1 at *
  generalize good4 T = b2 at *
  obtain ⟨v6, ver, kind, resp, g, quiet, rob, every, src, recs⟩ := T
  unfold tkS at *
  simp only at *
  have oG := adL_ok g
  generalize adL g = G at *
  refine Gives.of ?_
  have hH := Hp.refl w
  go_enter Try.func19, Try.ntmps19
  cases v6 <;> cases b1 <;> cases b2
  all_goals
    go_wp2_with (first | ((first | (refine gL rfl ?_; first | (refine hL1 tab_ok 0 rfl ?_ rfl hH rfl rfl rfl rfl ?_; (focus (first | exact wN rfl | exact rfl))) | (refine hLR tab_ok 0 rfl ?_ rfl hH rfl rfl rfl rfl ?_; (focus (first | exact wN rfl | exact rfl))) | (refine hL1i tab_ok 0 rfl ?_ rfl hH rfl rfl rfl rfl ?_; (focus (first | exact wN rfl | exact rfl)); refine ⟨?_, ?_, ?_⟩; rotate_left; (focus assumption))) | (refine gS rfl ?_; first | (refine hS1 tab_ok 0 rfl ?_ rfl rfl hH rfl rfl rfl rfl rfl ?_; (focus (first | exact wN rfl | exact rfl))) | (refine hSR tab_ok 0 rfl ?_ rfl rfl hH rfl rfl rfl rfl rfl ?_ ?_; (focus (first | exact wN rfl | exact rfl)); (focus (repeat (first | exact trivial | assumption | exact OkA.z (by kernel_rfl) (by kernel_rfl) | refine ⟨rfl, ?_⟩ | refine ⟨?_, ?_⟩))))) | (refine hAl tab_ok rfl ?_ hH rfl ?_; (focus (first | exact wN rfl | exact rfl))) | (refine hBx1 rfl ?_ rfl hH ?_; (focus (first | exact wN rfl | exact rfl))) | (refine hBx rfl ?_ rfl hH ?_ ?_; (focus (first | exact wN rfl | exact rfl)); (focus (repeat (first | exact trivial | assumption | exact OkA.z (by kernel_rfl) (by kernel_rfl) | refine ⟨rfl, ?_⟩ | refine ⟨?_, ?_⟩)))) | (refine hBd tab_ok rfl ?_ rfl rfl rfl hH ?_; (focus (first | exact wN rfl | exact rfl)); refine ⟨?_, ?_, ?_⟩; rotate_left; (focus (repeat (first | exact BR.nil | refine BR.one rfl rfl rfl ?_ | (refine BR.row rfl rfl rfl rfl ?_ ?_; (focus (repeat (first | exact trivial | assumption | exact OkA.z (by kernel_rfl) (by kernel_rfl) | refine ⟨rfl, ?_⟩ | refine ⟨?_, ?_⟩)))))))) | ((with_reducible refine callH hH ?_); refine ⟨?_, ?_, ?_⟩; rotate_left; (focus (first | (exact f1.out _ hH.below) | (exact f2.out _ hH.below))))); clear hH; (first | intro W g hH | intro W hH); (try simp only [Act.put, List.setIfInBounds_toArray, List.set_cons_succ, List.set_cons_zero])))
    go_ret
    exact ⟨rfl, hH.below⟩
end
end Go.Proofs.Ytdjbpamigkpbeaa

/-
  Joined texts: Vc.
-/
import Derived.Test.YtdnehjhijmeihaaGreatQVa
import Derived.Test.YtdnehjhijmeihaaGreatQSl
namespace Go.Proofs.YtdnehjhijmeihaaGreat.V
open Go.ChangeShapes Go.WideShapes Go.ChangeAt Go.RowKit
set_option linter.unusedVariables false
set_option linter.unusedSimpArgs false
set_option maxRecDepth 20000
attribute [local irreducible] wpList
section
variable {w : World} {sp rp p : Option Addr} {sc rc c : Nat}
set_option maxHeartbeats 4000000 in
theorem vgood_11 {quiet : Bool} {resp rob every : Int} {g : Ad} {src : List Ad} {recs : List Rc} (hn : src.length ≤ 9223372036854775807) (hm : recs.length ≤ 9223372036854775807) : Gives Tryz.prog 125 #[.agg (fls [.one (.bool true), .one (.int .i64 1), .one (.int .i64 1), .one (.int .i64 resp), .many (adL g) 17, .one (.bool quiet), .one (.int .i64 rob), .one (.int .i64 every), .one (.slice sp src.length sc), .one (.slice rp recs.length rc)]).toArray] w (.bool (simpV ⟨true, 1, 1, resp, g, quiet, rob, every, src, recs⟩ && (zero6 g || grp6 g) && decide (0 ≤ resp) && decide (resp ≤ 65535))) := by
  have bb : ∀ w, Gives Tryz.prog 168 #[.agg (fls [.one (.bool true), .one (.int .i64 1), .one (.int .i64 1), .one (.int .i64 resp), .many (adL g) 17, .one (.bool quiet), .one (.int .i64 rob), .one (.int .i64 every), .one (.slice sp src.length sc), .one (.slice rp recs.length rc)]).toArray] w (.bool (simpV ⟨true, 1, 1, resp, g, quiet, rob, every, src, recs⟩)) := fun w => vsimple_any hn hm
  generalize simpV ⟨true, 1, 1, resp, g, quiet, rob, every, src, recs⟩ = b at *
  have f1 : ∀ w, Gives Tryz.prog 166 #[.agg (fls [.many (adL g) 17]).toArray] w (.bool (zero6 g)) := fun w => vzero_any
  have f2 : ∀ w, Gives Tryz.prog 167 #[.agg (fls [.many (adL g) 17]).toArray] w (.bool (grp6 g)) := fun w => vgroup_any
  generalize zero6 g = zb at *
  generalize grp6 g = gb at *
  have oG := adL_ok g
  generalize adL g = G at *
  refine Gives.of ?_
  have hH := Hp.refl w
  go_enter Tryz.func125, Tryz.ntmps125
  cases zb
  · cases gb
    all_goals
      cases b
      · go_wp2_with (refine st ?_; clear hH; first | intro W g hH | intro W hH)
        all_goals
          go_ret
          refine ⟨?_, hH.below⟩
          first | rfl | (simp_all; done) | (simp_all; omega)
      by_cases h1 : 0 ≤ resp
      rotate_left
      · have h1' : resp < 0 := by omega
        have d1 : decide (0 ≤ resp) = false := decide_eq_false (by omega)
        go_wp2_with (refine st ?_; clear hH; first | intro W g hH | intro W hH)
        all_goals
          go_ret
          refine ⟨?_, hH.below⟩
          first | rfl | (simp_all; done) | (simp_all; omega)
      have d1 : decide (0 ≤ resp) = true := decide_eq_true h1
      by_cases h2 : resp ≤ 65535
      rotate_left
      · have h2' : 65535 < resp := by omega
        have d2 : decide (resp ≤ 65535) = false := decide_eq_false (by omega)
        go_wp2_with (refine st ?_; clear hH; first | intro W g hH | intro W hH)
        all_goals
          go_ret
          refine ⟨?_, hH.below⟩
          first | rfl | (simp_all; done) | (simp_all; omega)
      have d2 : decide (resp ≤ 65535) = true := decide_eq_true h2
      go_wp2_with (refine st ?_; clear hH; first | intro W g hH | intro W hH)
      all_goals
        go_ret
        refine ⟨?_, hH.below⟩
        first | rfl | (simp_all; done) | (simp_all; omega)
  · cases b
    · go_wp2_with (refine st ?_; clear hH; first | intro W g hH | intro W hH)
      all_goals
        go_ret
        refine ⟨?_, hH.below⟩
        first | rfl | (simp_all; done) | (simp_all; omega)
    by_cases h1 : 0 ≤ resp
    rotate_left
    · have h1' : resp < 0 := by omega
      have d1 : decide (0 ≤ resp) = false := decide_eq_false (by omega)
      go_wp2_with (refine st ?_; clear hH; first | intro W g hH | intro W hH)
      all_goals
        go_ret
        refine ⟨?_, hH.below⟩
        first | rfl | (simp_all; done) | (simp_all; omega)
    have d1 : decide (0 ≤ resp) = true := decide_eq_true h1
    by_cases h2 : resp ≤ 65535
    rotate_left
    · have h2' : 65535 < resp := by omega
      have d2 : decide (resp ≤ 65535) = false := decide_eq_false (by omega)
      go_wp2_with (refine st ?_; clear hH; first | intro W g hH | intro W hH)
      all_goals
        go_ret
        refine ⟨?_, hH.below⟩
        first | rfl | (simp_all; done) | (simp_all; omega)
    have d2 : decide (resp ≤ 65535) = true := decide_eq_true h2
    go_wp2_with (refine st ?_; clear hH; first | intro W g hH | intro W hH)
    all_goals
      go_ret
      refine ⟨?_, hH.below⟩
      first | rfl | (simp_all; done) | (simp_all; omega)
set_option maxHeartbeats 4000000 in
theorem vgood_12 {quiet : Bool} {resp rob every : Int} {g : Ad} {src : List Ad} {recs : List Rc} (hn : src.length ≤ 9223372036854775807) (hm : recs.length ≤ 9223372036854775807) : Gives Tryz.prog 125 #[.agg (fls [.one (.bool true), .one (.int .i64 1), .one (.int .i64 2), .one (.int .i64 resp), .many (adL g) 17, .one (.bool quiet), .one (.int .i64 rob), .one (.int .i64 every), .one (.slice sp src.length sc), .one (.slice rp recs.length rc)]).toArray] w (.bool (simpV ⟨true, 1, 2, resp, g, quiet, rob, every, src, recs⟩ && grp6 g && resp == 0)) := by
  have bb : ∀ w, Gives Tryz.prog 168 #[.agg (fls [.one (.bool true), .one (.int .i64 1), .one (.int .i64 2), .one (.int .i64 resp), .many (adL g) 17, .one (.bool quiet), .one (.int .i64 rob), .one (.int .i64 every), .one (.slice sp src.length sc), .one (.slice rp recs.length rc)]).toArray] w (.bool (simpV ⟨true, 1, 2, resp, g, quiet, rob, every, src, recs⟩)) := fun w => vsimple_any hn hm
  generalize simpV ⟨true, 1, 2, resp, g, quiet, rob, every, src, recs⟩ = b at *
  have f1 : ∀ w, Gives Tryz.prog 166 #[.agg (fls [.many (adL g) 17]).toArray] w (.bool (zero6 g)) := fun w => vzero_any
  have f2 : ∀ w, Gives Tryz.prog 167 #[.agg (fls [.many (adL g) 17]).toArray] w (.bool (grp6 g)) := fun w => vgroup_any
  generalize zero6 g = zb at *
  generalize grp6 g = gb at *
  have oG := adL_ok g
  generalize adL g = G at *
  refine Gives.of ?_
  have hH := Hp.refl w
  go_enter Tryz.func125, Tryz.ntmps125
  cases zb
  · cases gb
    all_goals
      cases b
      · go_wp2_with (refine st ?_; clear hH; first | intro W g hH | intro W hH)
        all_goals
          go_ret
          refine ⟨?_, hH.below⟩
          first | rfl | (simp_all; done) | (simp_all; omega)
      by_cases h_resp : resp = 0
      rotate_left
      · have d_resp : (resp == 0) = false := by simpa using h_resp
        go_wp2_with (refine st ?_; clear hH; first | intro W g hH | intro W hH)
        all_goals
          go_ret
          refine ⟨?_, hH.below⟩
          first | rfl | (simp_all; done) | (simp_all; omega)
      subst h_resp
      go_wp2_with (refine st ?_; clear hH; first | intro W g hH | intro W hH)
      all_goals
        go_ret
        refine ⟨?_, hH.below⟩
        first | rfl | (simp_all; done) | (simp_all; omega)
  · cases gb
    all_goals
      cases b
      · go_wp2_with (refine st ?_; clear hH; first | intro W g hH | intro W hH)
        all_goals
          go_ret
          refine ⟨?_, hH.below⟩
          first | rfl | (simp_all; done) | (simp_all; omega)
      by_cases h_resp : resp = 0
      rotate_left
      · have d_resp : (resp == 0) = false := by simpa using h_resp
        go_wp2_with (refine st ?_; clear hH; first | intro W g hH | intro W hH)
        all_goals
          go_ret
          refine ⟨?_, hH.below⟩
          first | rfl | (simp_all; done) | (simp_all; omega)
      subst h_resp
      go_wp2_with (refine st ?_; clear hH; first | intro W g hH | intro W hH)
      all_goals
        go_ret
        refine ⟨?_, hH.below⟩
        first | rfl | (simp_all; done) | (simp_all; omega)
set_option maxHeartbeats 4000000 in
theorem vgood_13 {quiet : Bool} {resp rob every : Int} {g : Ad} {src : List Ad} {recs : List Rc} (hn : src.length ≤ 9223372036854775807) (hm : recs.length ≤ 9223372036854775807) : Gives Tryz.prog 125 #[.agg (fls [.one (.bool true), .one (.int .i64 1), .one (.int .i64 3), .one (.int .i64 resp), .many (adL g) 17, .one (.bool quiet), .one (.int .i64 rob), .one (.int .i64 every), .one (.slice sp src.length sc), .one (.slice rp recs.length rc)]).toArray] w (.bool (simpV ⟨true, 1, 3, resp, g, quiet, rob, every, src, recs⟩ && grp6 g && resp == 0)) := by
  have bb : ∀ w, Gives Tryz.prog 168 #[.agg (fls [.one (.bool true), .one (.int .i64 1), .one (.int .i64 3), .one (.int .i64 resp), .many (adL g) 17, .one (.bool quiet), .one (.int .i64 rob), .one (.int .i64 every), .one (.slice sp src.length sc), .one (.slice rp recs.length rc)]).toArray] w (.bool (simpV ⟨true, 1, 3, resp, g, quiet, rob, every, src, recs⟩)) := fun w => vsimple_any hn hm
  generalize simpV ⟨true, 1, 3, resp, g, quiet, rob, every, src, recs⟩ = b at *
  have f1 : ∀ w, Gives Tryz.prog 166 #[.agg (fls [.many (adL g) 17]).toArray] w (.bool (zero6 g)) := fun w => vzero_any
  have f2 : ∀ w, Gives Tryz.prog 167 #[.agg (fls [.many (adL g) 17]).toArray] w (.bool (grp6 g)) := fun w => vgroup_any
  generalize zero6 g = zb at *
  generalize grp6 g = gb at *
  have oG := adL_ok g
  generalize adL g = G at *
  refine Gives.of ?_
  have hH := Hp.refl w
  go_enter Tryz.func125, Tryz.ntmps125
  cases zb
  · cases gb
    all_goals
      cases b
      · go_wp2_with (refine st ?_; clear hH; first | intro W g hH | intro W hH)
        all_goals
          go_ret
          refine ⟨?_, hH.below⟩
          first | rfl | (simp_all; done) | (simp_all; omega)
      by_cases h_resp : resp = 0
      rotate_left
      · have d_resp : (resp == 0) = false := by simpa using h_resp
        go_wp2_with (refine st ?_; clear hH; first | intro W g hH | intro W hH)
        all_goals
          go_ret
          refine ⟨?_, hH.below⟩
          first | rfl | (simp_all; done) | (simp_all; omega)
      subst h_resp
      go_wp2_with (refine st ?_; clear hH; first | intro W g hH | intro W hH)
      all_goals
        go_ret
        refine ⟨?_, hH.below⟩
        first | rfl | (simp_all; done) | (simp_all; omega)
  · cases gb
    all_goals
      cases b
      · go_wp2_with (refine st ?_; clear hH; first | intro W g hH | intro W hH)
        all_goals
          go_ret
          refine ⟨?_, hH.below⟩
          first | rfl | (simp_all; done) | (simp_all; omega)
      by_cases h_resp : resp = 0
      rotate_left
      · have d_resp : (resp == 0) = false := by simpa using h_resp
        go_wp2_with (refine st ?_; clear hH; first | intro W g hH | intro W hH)
        all_goals
          go_ret
          refine ⟨?_, hH.below⟩
          first | rfl | (simp_all; done) | (simp_all; omega)
      subst h_resp
      go_wp2_with (refine st ?_; clear hH; first | intro W g hH | intro W hH)
      all_goals
        go_ret
        refine ⟨?_, hH.below⟩
        first | rfl | (simp_all; done) | (simp_all; omega)
set_option maxHeartbeats 4000000 in
theorem vgood_21 {quiet : Bool} {resp rob every : Int} {g : Ad} {src : List Ad} {recs : List Rc} (hn : src.length ≤ 9223372036854775807) (hm : recs.length ≤ 9223372036854775807) (hA : AdsAt w sp src) : Gives Tryz.prog 125 #[.agg (fls [.one (.bool true), .one (.int .i64 2), .one (.int .i64 1), .one (.int .i64 resp), .many (adL g) 17, .one (.bool quiet), .one (.int .i64 rob), .one (.int .i64 every), .one (.slice sp src.length sc), .one (.slice rp recs.length rc)]).toArray] w (.bool ((zero6 g || grp6 g) && asksV ⟨true, 2, 1, resp, g, quiet, rob, every, src, recs⟩)) := by
  have f8 := Lib.hid (show ∀ W, Below w.heap.size w W → Gives Tryz.prog 169 #[.agg (fls [.one (.bool true), .one (.int .i64 2), .one (.int .i64 1), .one (.int .i64 resp), .many (adL g) 17, .one (.bool quiet), .one (.int .i64 rob), .one (.int .i64 every), .one (.slice sp src.length sc), .one (.slice rp recs.length rc)]).toArray] W (.bool (asksV ⟨true, 2, 1, resp, g, quiet, rob, every, src, recs⟩)) from fun W hb => vasks_any hn hm (hA.below hb))
  clear hA
  generalize asksV ⟨true, 2, 1, resp, g, quiet, rob, every, src, recs⟩ = b at *
  have f1 : ∀ w, Gives Tryz.prog 166 #[.agg (fls [.many (adL g) 17]).toArray] w (.bool (zero6 g)) := fun w => vzero_any
  have f2 : ∀ w, Gives Tryz.prog 167 #[.agg (fls [.many (adL g) 17]).toArray] w (.bool (grp6 g)) := fun w => vgroup_any
  generalize zero6 g = zb at *
  generalize grp6 g = gb at *
  have oG := adL_ok g
  generalize adL g = G at *
  refine Gives.of ?_
  have hH := Hp.refl w
  go_enter Tryz.func125, Tryz.ntmps125
  cases zb <;> cases gb <;> cases b
  all_goals
    go_wp2_with (first | (refine st ?_; clear hH; first | intro W g hH | intro W hH) | ((with_reducible refine callH hH ?_); refine ⟨?_, ?_, ?_⟩; rotate_left; (focus (first | (exact f8.out _ hH.below))); (clear hH; first | intro W g hH | intro W hH); ((try simp only [Act.put, pA, pB, pC]))))
    all_goals
      go_ret
      refine ⟨?_, hH.below⟩
      first | rfl | (simp_all; done) | (simp_all; omega)
set_option maxHeartbeats 4000000 in
theorem vgood_22 {quiet : Bool} {resp rob every : Int} {g : Ad} {src : List Ad} {recs : List Rc} (hn : src.length ≤ 9223372036854775807) (hm : recs.length ≤ 9223372036854775807) (hR : RcsAt w rp recs) : Gives Tryz.prog 125 #[.agg (fls [.one (.bool true), .one (.int .i64 2), .one (.int .i64 2), .one (.int .i64 resp), .many (adL g) 17, .one (.bool quiet), .one (.int .i64 rob), .one (.int .i64 every), .one (.slice sp src.length sc), .one (.slice rp recs.length rc)]).toArray] w (.bool (simpV ⟨true, 2, 2, resp, g, quiet, rob, every, src, []⟩ && resp == 0 && g == Ad.z && recs6 recs)) := by
  have bb : ∀ w, Gives Tryz.prog 168 #[.agg (fls [.one (.bool true), .one (.int .i64 2), .one (.int .i64 2), .one (.int .i64 resp), .many (adL g) 17, .one (.bool quiet), .one (.int .i64 rob), .one (.int .i64 every), .one (.slice sp src.length sc), .one (.slice none 0 0)]).toArray] w (.bool (simpV ⟨true, 2, 2, resp, g, quiet, rob, every, src, []⟩)) := fun w => vsimple_any (recs := []) hn (by simp)
  generalize simpV ⟨true, 2, 2, resp, g, quiet, rob, every, src, []⟩ = b at *
  have f8 := Lib.hid (show ∀ W, Below w.heap.size w W → Gives Tryz.prog 170 #[.slice rp recs.length rc] W (.bool (recs6 recs)) from fun W hb => vrecorded_any (hR.below hb))
  clear hR
  generalize recs6 recs = rb at *
  have f3 := ad_eql g Ad.z
  rw [← zAd_eq] at f3
  generalize (g == Ad.z) = zz at *
  have f1 : ∀ w, Gives Tryz.prog 166 #[.agg (fls [.many (adL g) 17]).toArray] w (.bool (zero6 g)) := fun w => vzero_any
  have f2 : ∀ w, Gives Tryz.prog 167 #[.agg (fls [.many (adL g) 17]).toArray] w (.bool (grp6 g)) := fun w => vgroup_any
  generalize zero6 g = zb at *
  generalize grp6 g = gb at *
  have oG := adL_ok g
  generalize adL g = G at *
  refine Gives.of ?_
  have hH := Hp.refl w
  go_enter Tryz.func125, Tryz.ntmps125
  cases zb <;> cases gb
  all_goals
    cases b
    · go_wp2_with (first | (refine st ?_; clear hH; first | intro W g hH | intro W hH) | ((with_reducible refine callH hH ?_); refine ⟨?_, ?_, ?_⟩; rotate_left; (focus (first | (exact f8.out _ hH.below))); (clear hH; first | intro W g hH | intro W hH); ((try simp only [Act.put, pA, pB, pC]))))
      all_goals
        go_ret
        refine ⟨?_, hH.below⟩
        first | rfl | (simp_all; done) | (simp_all; omega)
    by_cases h_resp : resp = 0
    rotate_left
    · have d_resp : (resp == 0) = false := by simpa using h_resp
      go_wp2_with (first | (refine st ?_; clear hH; first | intro W g hH | intro W hH) | ((with_reducible refine callH hH ?_); refine ⟨?_, ?_, ?_⟩; rotate_left; (focus (first | (exact f8.out _ hH.below))); (clear hH; first | intro W g hH | intro W hH); ((try simp only [Act.put, pA, pB, pC]))))
      all_goals
        go_ret
        refine ⟨?_, hH.below⟩
        first | rfl | (simp_all; done) | (simp_all; omega)
    subst h_resp
    cases zz
    · go_wp2_with (first | (refine st ?_; clear hH; first | intro W g hH | intro W hH) | ((with_reducible refine callH hH ?_); refine ⟨?_, ?_, ?_⟩; rotate_left; (focus (first | (exact f8.out _ hH.below))); (clear hH; first | intro W g hH | intro W hH); ((try simp only [Act.put, pA, pB, pC]))))
      all_goals
        go_ret
        refine ⟨?_, hH.below⟩
        first | rfl | (simp_all; done) | (simp_all; omega)
    cases rb
    · go_wp2_with (first | (refine st ?_; clear hH; first | intro W g hH | intro W hH) | ((with_reducible refine callH hH ?_); refine ⟨?_, ?_, ?_⟩; rotate_left; (focus (first | (exact f8.out _ hH.below))); (clear hH; first | intro W g hH | intro W hH); ((try simp only [Act.put, pA, pB, pC]))))
      all_goals
        go_ret
        refine ⟨?_, hH.below⟩
        first | rfl | (simp_all; done) | (simp_all; omega)
    go_wp2_with (first | (refine st ?_; clear hH; first | intro W g hH | intro W hH) | ((with_reducible refine callH hH ?_); refine ⟨?_, ?_, ?_⟩; rotate_left; (focus (first | (exact f8.out _ hH.below))); (clear hH; first | intro W g hH | intro W hH); ((try simp only [Act.put, pA, pB, pC]))))
    all_goals
      go_ret
      refine ⟨?_, hH.below⟩
      first | rfl | (simp_all; done) | (simp_all; omega)
end
end Go.Proofs.YtdnehjhijmeihaaGreat.V

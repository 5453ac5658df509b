/-
  Joined texts: Gc.
-/
import Derived.Test.YtdnehjhijmeihaaGreatQGa
import Derived.Test.YtdnehjhijmeihaaGreatQSl
namespace Go.Proofs.YtdnehjhijmeihaaGreat
open Go.ChangeShapes Go.WideShapes Go.ChangeAt Go.RowKit
set_option linter.unusedVariables false
set_option linter.unusedSimpArgs false
set_option maxRecDepth 20000
attribute [local irreducible] wpList
section
variable {w : World} {sp rp : Option Addr} {sc rc : Nat}
set_option maxRecDepth 20000 in
set_option maxHeartbeats 4000000 in
theorem igood_11 {quiet : Bool} {ver kind resp rob every : Int} {g : Ad} {src : List Ad} {recs : List Rc} (hn : src.length ≤ 9223372036854775807) (hm : recs.length ≤ 9223372036854775807) : Gives Tryz.prog 133 #[.agg (fls [.one (.bool false), .one (.int .i64 1), .one (.int .i64 1), .one (.int .i64 resp), .many (adL g) 17, .one (.bool quiet), .one (.int .i64 rob), .one (.int .i64 every), .one (.slice sp src.length sc), .one (.slice rp recs.length rc)]).toArray] w (.bool (bareV false false false false ⟨false, 1, 1, resp, g, quiet, rob, every, src, recs⟩)) := by
  have bb : ∀ w, Gives Tryz.prog 178 #[.agg (fls [.one (.bool false), .one (.int .i64 1), .one (.int .i64 1), .one (.int .i64 resp), .many (adL g) 17, .one (.bool quiet), .one (.int .i64 rob), .one (.int .i64 every), .one (.slice sp src.length sc), .one (.slice rp recs.length rc)]).toArray, .bool false, .bool false, .bool false, .bool false] w (.bool (bareV false false false false ⟨false, 1, 1, resp, g, quiet, rob, every, src, recs⟩)) := fun w => ibare_ffff hn hm
  generalize bareV false false false false ⟨false, 1, 1, resp, g, quiet, rob, every, src, recs⟩ = b at *
  have oG := adL_ok g
  generalize adL g = G at *
  refine Gives.of ?_
  have hH := Hp.refl w
  go_enter Tryz.func133, Tryz.ntmps133
  cases b
  all_goals
    go_wp2_with (refine st ?_; clear hH; first | intro W g hH | intro W hH)
    all_goals
      go_ret
      refine ⟨?_, hH.below⟩
      first | rfl | (simp_all; done) | (simp_all; omega)
set_option maxRecDepth 20000 in
set_option maxHeartbeats 4000000 in
theorem igood_12 {quiet : Bool} {ver kind resp rob every : Int} {g : Ad} {src : List Ad} {recs : List Rc} (hn : src.length ≤ 9223372036854775807) (hm : recs.length ≤ 9223372036854775807) : Gives Tryz.prog 133 #[.agg (fls [.one (.bool false), .one (.int .i64 1), .one (.int .i64 2), .one (.int .i64 resp), .many (adL g) 17, .one (.bool quiet), .one (.int .i64 rob), .one (.int .i64 every), .one (.slice sp src.length sc), .one (.slice rp recs.length rc)]).toArray] w (.bool (bareV false true false false ⟨false, 1, 2, resp, g, quiet, rob, every, src, recs⟩ && grp4 g)) := by
  have bb : ∀ w, Gives Tryz.prog 178 #[.agg (fls [.one (.bool false), .one (.int .i64 1), .one (.int .i64 2), .one (.int .i64 resp), .many (adL g) 17, .one (.bool quiet), .one (.int .i64 rob), .one (.int .i64 every), .one (.slice sp src.length sc), .one (.slice rp recs.length rc)]).toArray, .bool false, .bool true, .bool false, .bool false] w (.bool (bareV false true false false ⟨false, 1, 2, resp, g, quiet, rob, every, src, recs⟩)) := fun w => ibare_ftff hn hm
  generalize bareV false true false false ⟨false, 1, 2, resp, g, quiet, rob, every, src, recs⟩ = b at *
  have f1 : ∀ w, Gives Tryz.prog 160 #[.agg (fls [.many (adL g) 17]).toArray] w (.bool (grp4 g)) := fun w => igroup_any
  generalize grp4 g = gb at *
  have oG := adL_ok g
  generalize adL g = G at *
  refine Gives.of ?_
  have hH := Hp.refl w
  go_enter Tryz.func133, Tryz.ntmps133
  cases b <;> cases gb
  all_goals
    go_wp2_with (refine st ?_; clear hH; first | intro W g hH | intro W hH)
    all_goals
      go_ret
      refine ⟨?_, hH.below⟩
      first | rfl | (simp_all; done) | (simp_all; omega)
set_option maxRecDepth 20000 in
set_option maxHeartbeats 4000000 in
theorem igood_22 {quiet : Bool} {ver kind resp rob every : Int} {g : Ad} {src : List Ad} {recs : List Rc} (hn : src.length ≤ 9223372036854775807) (hm : recs.length ≤ 9223372036854775807) : Gives Tryz.prog 133 #[.agg (fls [.one (.bool false), .one (.int .i64 2), .one (.int .i64 2), .one (.int .i64 resp), .many (adL g) 17, .one (.bool quiet), .one (.int .i64 rob), .one (.int .i64 every), .one (.slice sp src.length sc), .one (.slice rp recs.length rc)]).toArray] w (.bool (bareV false true false false ⟨false, 2, 2, resp, g, quiet, rob, every, src, recs⟩ && grp4 g)) := by
  have bb : ∀ w, Gives Tryz.prog 178 #[.agg (fls [.one (.bool false), .one (.int .i64 2), .one (.int .i64 2), .one (.int .i64 resp), .many (adL g) 17, .one (.bool quiet), .one (.int .i64 rob), .one (.int .i64 every), .one (.slice sp src.length sc), .one (.slice rp recs.length rc)]).toArray, .bool false, .bool true, .bool false, .bool false] w (.bool (bareV false true false false ⟨false, 2, 2, resp, g, quiet, rob, every, src, recs⟩)) := fun w => ibare_ftff hn hm
  generalize bareV false true false false ⟨false, 2, 2, resp, g, quiet, rob, every, src, recs⟩ = b at *
  have f1 : ∀ w, Gives Tryz.prog 160 #[.agg (fls [.many (adL g) 17]).toArray] w (.bool (grp4 g)) := fun w => igroup_any
  generalize grp4 g = gb at *
  have oG := adL_ok g
  generalize adL g = G at *
  refine Gives.of ?_
  have hH := Hp.refl w
  go_enter Tryz.func133, Tryz.ntmps133
  cases b <;> cases gb
  all_goals
    go_wp2_with (refine st ?_; clear hH; first | intro W g hH | intro W hH)
    all_goals
      go_ret
      refine ⟨?_, hH.below⟩
      first | rfl | (simp_all; done) | (simp_all; omega)
set_option maxRecDepth 20000 in
set_option maxHeartbeats 4000000 in
theorem igood_23 {quiet : Bool} {ver kind resp rob every : Int} {g : Ad} {src : List Ad} {recs : List Rc} (hn : src.length ≤ 9223372036854775807) (hm : recs.length ≤ 9223372036854775807) : Gives Tryz.prog 133 #[.agg (fls [.one (.bool false), .one (.int .i64 2), .one (.int .i64 3), .one (.int .i64 resp), .many (adL g) 17, .one (.bool quiet), .one (.int .i64 rob), .one (.int .i64 every), .one (.slice sp src.length sc), .one (.slice rp recs.length rc)]).toArray] w (.bool (bareV false true false false ⟨false, 2, 3, resp, g, quiet, rob, every, src, recs⟩ && grp4 g)) := by
  have bb : ∀ w, Gives Tryz.prog 178 #[.agg (fls [.one (.bool false), .one (.int .i64 2), .one (.int .i64 3), .one (.int .i64 resp), .many (adL g) 17, .one (.bool quiet), .one (.int .i64 rob), .one (.int .i64 every), .one (.slice sp src.length sc), .one (.slice rp recs.length rc)]).toArray, .bool false, .bool true, .bool false, .bool false] w (.bool (bareV false true false false ⟨false, 2, 3, resp, g, quiet, rob, every, src, recs⟩)) := fun w => ibare_ftff hn hm
  generalize bareV false true false false ⟨false, 2, 3, resp, g, quiet, rob, every, src, recs⟩ = b at *
  have f1 : ∀ w, Gives Tryz.prog 160 #[.agg (fls [.many (adL g) 17]).toArray] w (.bool (grp4 g)) := fun w => igroup_any
  generalize grp4 g = gb at *
  have oG := adL_ok g
  generalize adL g = G at *
  refine Gives.of ?_
  have hH := Hp.refl w
  go_enter Tryz.func133, Tryz.ntmps133
  cases b <;> cases gb
  all_goals
    go_wp2_with (refine st ?_; clear hH; first | intro W g hH | intro W hH)
    all_goals
      go_ret
      refine ⟨?_, hH.below⟩
      first | rfl | (simp_all; done) | (simp_all; omega)
set_option maxRecDepth 20000 in
set_option maxHeartbeats 4000000 in
theorem igood_21 {quiet : Bool} {ver kind resp rob every : Int} {g : Ad} {src : List Ad} {recs : List Rc} (hn : src.length ≤ 9223372036854775807) (hm : recs.length ≤ 9223372036854775807) : Gives Tryz.prog 133 #[.agg (fls [.one (.bool false), .one (.int .i64 2), .one (.int .i64 1), .one (.int .i64 resp), .many (adL g) 17, .one (.bool quiet), .one (.int .i64 rob), .one (.int .i64 every), .one (.slice sp src.length sc), .one (.slice rp recs.length rc)]).toArray] w (.bool (bareV true true false false ⟨false, 2, 1, resp, g, quiet, rob, every, src, recs⟩ && decide (1 ≤ resp) && decide (resp ≤ 255) && (g == Ad.z || grp4 g))) := by
  have bb : ∀ w, Gives Tryz.prog 178 #[.agg (fls [.one (.bool false), .one (.int .i64 2), .one (.int .i64 1), .one (.int .i64 resp), .many (adL g) 17, .one (.bool quiet), .one (.int .i64 rob), .one (.int .i64 every), .one (.slice sp src.length sc), .one (.slice rp recs.length rc)]).toArray, .bool true, .bool true, .bool false, .bool false] w (.bool (bareV true true false false ⟨false, 2, 1, resp, g, quiet, rob, every, src, recs⟩)) := fun w => ibare_ttff hn hm
  generalize bareV true true false false ⟨false, 2, 1, resp, g, quiet, rob, every, src, recs⟩ = b at *
  have f1 : ∀ w, Gives Tryz.prog 179 #[.agg (fls [.many (adL g) 17]).toArray] w (.bool (g == Ad.z || grp4 g)) := fun w => iasked_any
  generalize (g == Ad.z || grp4 g) = ab at *
  have oG := adL_ok g
  generalize adL g = G at *
  refine Gives.of ?_
  have hH := Hp.refl w
  go_enter Tryz.func133, Tryz.ntmps133
  cases b
  · go_wp2_with (refine st ?_; clear hH; first | intro W g hH | intro W hH)
    all_goals
      go_ret
      refine ⟨?_, hH.below⟩
      first | rfl | (simp_all; done) | (simp_all; omega)
  by_cases h1 : 1 ≤ resp
  rotate_left
  · have h1' : resp < 1 := by omega
    have d1 : decide (1 ≤ resp) = false := decide_eq_false (by omega)
    go_wp2_with (refine st ?_; clear hH; first | intro W g hH | intro W hH)
    all_goals
      go_ret
      refine ⟨?_, hH.below⟩
      first | rfl | (simp_all; done) | (simp_all; omega)
  have d1 : decide (1 ≤ resp) = true := decide_eq_true h1
  by_cases h2 : resp ≤ 255
  rotate_left
  · have h2' : 255 < resp := by omega
    have d2 : decide (resp ≤ 255) = false := decide_eq_false (by omega)
    go_wp2_with (refine st ?_; clear hH; first | intro W g hH | intro W hH)
    all_goals
      go_ret
      refine ⟨?_, hH.below⟩
      first | rfl | (simp_all; done) | (simp_all; omega)
  have d2 : decide (resp ≤ 255) = true := decide_eq_true h2
  cases ab
  all_goals
    go_wp2_with (refine st ?_; clear hH; first | intro W g hH | intro W hH)
    all_goals
      go_ret
      refine ⟨?_, hH.below⟩
      first | rfl | (simp_all; done) | (simp_all; omega)
set_option maxRecDepth 20000 in
set_option maxHeartbeats 4000000 in
theorem igood_32 {quiet : Bool} {ver kind resp rob every : Int} {g : Ad} {src : List Ad} {recs : List Rc} (hn : src.length ≤ 9223372036854775807) (hm : recs.length ≤ 9223372036854775807) (hR : RcsAt w rp recs) : Gives Tryz.prog 133 #[.agg (fls [.one (.bool false), .one (.int .i64 3), .one (.int .i64 2), .one (.int .i64 resp), .many (adL g) 17, .one (.bool quiet), .one (.int .i64 rob), .one (.int .i64 every), .one (.slice sp src.length sc), .one (.slice rp recs.length rc)]).toArray] w (.bool (bareV false false false true ⟨false, 3, 2, resp, g, quiet, rob, every, src, recs⟩ && recs4 recs)) := by
  have bb : ∀ w, Gives Tryz.prog 178 #[.agg (fls [.one (.bool false), .one (.int .i64 3), .one (.int .i64 2), .one (.int .i64 resp), .many (adL g) 17, .one (.bool quiet), .one (.int .i64 rob), .one (.int .i64 every), .one (.slice sp src.length sc), .one (.slice rp recs.length rc)]).toArray, .bool false, .bool false, .bool false, .bool true] w (.bool (bareV false false false true ⟨false, 3, 2, resp, g, quiet, rob, every, src, recs⟩)) := fun w => ibare_ffft hn hm
  generalize bareV false false false true ⟨false, 3, 2, resp, g, quiet, rob, every, src, recs⟩ = b at *
  have f8 := Lib.hid (show ∀ W, Below w.heap.size w W → Gives Tryz.prog 180 #[.slice rp recs.length rc] W (.bool (recs4 recs)) from fun W hb => irecorded_any (hR.below hb))
  clear hR
  generalize recs4 recs = rb at *
  have oG := adL_ok g
  generalize adL g = G at *
  refine Gives.of ?_
  have hH := Hp.refl w
  go_enter Tryz.func133, Tryz.ntmps133
  cases b <;> cases rb
  all_goals
    go_wp2_with (first | (refine st ?_; clear hH; first | intro W g hH | intro W hH) | ((with_reducible refine callH hH ?_); refine ⟨?_, ?_, ?_⟩; rotate_left; (focus (first | (exact f8.out _ hH.below))); (clear hH; first | intro W g hH | intro W hH); ((try simp only [Act.put, pA, pB, pC]))))
    all_goals
      go_ret
      refine ⟨?_, hH.below⟩
      first | rfl | (simp_all; done) | (simp_all; omega)
theorem iexact_any {n : Int} : Gives Tryz.prog 181 #[.int .i64 n] w (.bool (ex8 n)) := by
  by_cases h : 0 ≤ n
  · have := Exact8_pos (w := w) h (cod8_is n)
    have e : ex8 n = ((valN 16 (cod8 n) : Int) == n) := by unfold ex8; rw [decide_eq_true h, Bool.true_and]
    rw [e]; exact this
  · have := Exact8_neg (w := w) (n := n) (by omega)
    have e : ex8 n = false := by unfold ex8; rw [decide_eq_false h, Bool.false_and]
    rw [e]; exact this
set_option maxRecDepth 20000 in
set_option maxHeartbeats 4000000 in
theorem igood_31 {quiet : Bool} {ver kind resp rob every : Int} {g : Ad} {src : List Ad} {recs : List Rc} (hn : src.length ≤ 9223372036854775807) (hm : recs.length ≤ 9223372036854775807) (hA : AdsAt w sp src) : Gives Tryz.prog 133 #[.agg (fls [.one (.bool false), .one (.int .i64 3), .one (.int .i64 1), .one (.int .i64 resp), .many (adL g) 17, .one (.bool quiet), .one (.int .i64 rob), .one (.int .i64 every), .one (.slice sp src.length sc), .one (.slice rp recs.length rc)]).toArray] w (.bool (bareV true true true false ⟨false, 3, 1, resp, g, quiet, rob, every, src, recs⟩ && ex8 resp && ex8 every && decide (0 ≤ rob) && decide (rob ≤ 7) && (g == Ad.z || grp4 g) && srcs4 src && !(g == Ad.z && decide (0 < src.length)))) := by
  have f2 := ad_eql g Ad.z
  rw [← zAd_eq] at f2
  have f1 : ∀ w, Gives Tryz.prog 179 #[.agg (fls [.many (adL g) 17]).toArray] w (.bool (g == Ad.z || grp4 g)) := fun w => iasked_any
  generalize (g == Ad.z) = zb at *
  generalize grp4 g = gb at *
  have bb : ∀ w, Gives Tryz.prog 178 #[.agg (fls [.one (.bool false), .one (.int .i64 3), .one (.int .i64 1), .one (.int .i64 resp), .many (adL g) 17, .one (.bool quiet), .one (.int .i64 rob), .one (.int .i64 every), .one (.slice sp src.length sc), .one (.slice rp recs.length rc)]).toArray, .bool true, .bool true, .bool true, .bool false] w (.bool (bareV true true true false ⟨false, 3, 1, resp, g, quiet, rob, every, src, recs⟩)) := fun w => ibare_tttf hn hm
  generalize bareV true true true false ⟨false, 3, 1, resp, g, quiet, rob, every, src, recs⟩ = b at *
  have e1 : ∀ w, Gives Tryz.prog 181 #[.int .i64 resp] w (.bool (ex8 resp)) := fun w => iexact_any
  have e2 : ∀ w, Gives Tryz.prog 181 #[.int .i64 every] w (.bool (ex8 every)) := fun w => iexact_any
  generalize ex8 resp = x1 at *
  generalize ex8 every = x2 at *
  have f8 := Lib.hid (show ∀ W, Below w.heap.size w W → Gives Tryz.prog 182 #[.slice sp src.length sc] W (.bool (srcs4 src)) from fun W hb => ilisted_any (hA.below hb))
  clear hA
  generalize srcs4 src = lb at *
  obtain ⟨ab, hab⟩ : ∃ x, (zb || gb) = x := ⟨_, rfl⟩
  rw [hab] at f1 ⊢
  clear hab
  have oG := adL_ok g
  generalize adL g = G at *
  refine Gives.of ?_
  have hH := Hp.refl w
  go_enter Tryz.func133, Tryz.ntmps133
  obtain ⟨nb, hnb⟩ : ∃ x, decide (0 < src.length) = x := ⟨_, rfl⟩
  have hnb2 : decide (0 < (src.length : Int)) = nb := by rw [← hnb]; exact decide_eq_decide.2 (by omega)
  rw [hnb]
  clear hnb
  cases zb <;> cases nb
  all_goals
    cases b
    · go_wp2_with (first | (refine st ?_; clear hH; first | intro W g hH | intro W hH) | ((with_reducible refine callH hH ?_); refine ⟨?_, ?_, ?_⟩; rotate_left; (focus (first | (exact f8.out _ hH.below))); (clear hH; first | intro W g hH | intro W hH); ((try simp only [Act.put, pA, pB, pC]))))
      all_goals
        go_ret
        refine ⟨?_, hH.below⟩
        first | rfl | (simp_all; done) | (simp_all; omega)
    cases x1
    · go_wp2_with (first | (refine st ?_; clear hH; first | intro W g hH | intro W hH) | ((with_reducible refine callH hH ?_); refine ⟨?_, ?_, ?_⟩; rotate_left; (focus (first | (exact f8.out _ hH.below))); (clear hH; first | intro W g hH | intro W hH); ((try simp only [Act.put, pA, pB, pC]))))
      all_goals
        go_ret
        refine ⟨?_, hH.below⟩
        first | rfl | (simp_all; done) | (simp_all; omega)
    cases x2
    · go_wp2_with (first | (refine st ?_; clear hH; first | intro W g hH | intro W hH) | ((with_reducible refine callH hH ?_); refine ⟨?_, ?_, ?_⟩; rotate_left; (focus (first | (exact f8.out _ hH.below))); (clear hH; first | intro W g hH | intro W hH); ((try simp only [Act.put, pA, pB, pC]))))
      all_goals
        go_ret
        refine ⟨?_, hH.below⟩
        first | rfl | (simp_all; done) | (simp_all; omega)
    by_cases h1 : 0 ≤ rob
    rotate_left
    · have h1' : rob < 0 := by omega
      have d1 : decide (0 ≤ rob) = false := decide_eq_false (by omega)
      go_wp2_with (first | (refine st ?_; clear hH; first | intro W g hH | intro W hH) | ((with_reducible refine callH hH ?_); refine ⟨?_, ?_, ?_⟩; rotate_left; (focus (first | (exact f8.out _ hH.below))); (clear hH; first | intro W g hH | intro W hH); ((try simp only [Act.put, pA, pB, pC]))))
      all_goals
        go_ret
        refine ⟨?_, hH.below⟩
        first | rfl | (simp_all; done) | (simp_all; omega)
    have d1 : decide (0 ≤ rob) = true := decide_eq_true h1
    by_cases h2 : rob ≤ 7
    rotate_left
    · have h2' : 7 < rob := by omega
      have d2 : decide (rob ≤ 7) = false := decide_eq_false (by omega)
      go_wp2_with (first | (refine st ?_; clear hH; first | intro W g hH | intro W hH) | ((with_reducible refine callH hH ?_); refine ⟨?_, ?_, ?_⟩; rotate_left; (focus (first | (exact f8.out _ hH.below))); (clear hH; first | intro W g hH | intro W hH); ((try simp only [Act.put, pA, pB, pC]))))
      all_goals
        go_ret
        refine ⟨?_, hH.below⟩
        first | rfl | (simp_all; done) | (simp_all; omega)
    have d2 : decide (rob ≤ 7) = true := decide_eq_true h2
    cases ab
    · go_wp2_with (first | (refine st ?_; clear hH; first | intro W g hH | intro W hH) | ((with_reducible refine callH hH ?_); refine ⟨?_, ?_, ?_⟩; rotate_left; (focus (first | (exact f8.out _ hH.below))); (clear hH; first | intro W g hH | intro W hH); ((try simp only [Act.put, pA, pB, pC]))))
      all_goals
        go_ret
        refine ⟨?_, hH.below⟩
        first | rfl | (simp_all; done) | (simp_all; omega)
    cases lb
    · go_wp2_with (first | (refine st ?_; clear hH; first | intro W g hH | intro W hH) | ((with_reducible refine callH hH ?_); refine ⟨?_, ?_, ?_⟩; rotate_left; (focus (first | (exact f8.out _ hH.below))); (clear hH; first | intro W g hH | intro W hH); ((try simp only [Act.put, pA, pB, pC]))))
      all_goals
        go_ret
        refine ⟨?_, hH.below⟩
        first | rfl | (simp_all; done) | (simp_all; omega)
    go_wp2_with (first | (refine st ?_; clear hH; first | intro W g hH | intro W hH) | ((with_reducible refine callH hH ?_); refine ⟨?_, ?_, ?_⟩; rotate_left; (focus (first | (exact f8.out _ hH.below))); (clear hH; first | intro W g hH | intro W hH); ((try simp only [Act.put, pA, pB, pC]))))
    all_goals
      go_ret
      refine ⟨?_, hH.below⟩
      first | rfl | (simp_all; done) | (simp_all; omega)
end
end Go.Proofs.YtdnehjhijmeihaaGreat

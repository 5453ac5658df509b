/-
  Joined texts: Ti12.
-/
import Derived.Test.YtdnehjhijmeihaaGreatQTg
import Derived.Test.YtdnehjhijmeihaaGreatQSl
namespace Go.Proofs.YtdnehjhijmeihaaGreat
section
open Go.ChangeShapes Go.WideShapes Go.ChangeAt Go.RowKit
set_option linter.unusedVariables false
set_option linter.unusedSimpArgs false
set_option maxRecDepth 20000
attribute [local irreducible] wpList

section
variable {w : World} {sp rp : Option Addr} {sc rc : Nat} {T : Tk}
set_option maxRecDepth 20000 in
set_option maxHeartbeats 4000000 in
theorem rgood6_A {quiet : Bool} {ver kind resp rob every : Int} {g : Ad} {src : List Ad} {recs : List Rc} (hn : src.length ≤ 9223372036854775807) (hm : recs.length ≤ 9223372036854775807) (h1 : 1 < kind) (h2 : kind ≤ 3) : Gives Tryz.prog 84 #[.agg (fls [.one (.bool true), .one (.int .i64 1), .one (.int .i64 kind), .one (.int .i64 resp), .many (adL g) 17, .one (.bool quiet), .one (.int .i64 rob), .one (.int .i64 every), .one (.slice sp src.length sc), .one (.slice rp recs.length rc)]).toArray] w (.bool (good6 ⟨true, 1, kind, resp, g, quiet, rob, every, src, recs⟩)) := by
  have f1 : ∀ w, Gives Tryz.prog 114 #[.agg (fls [.many (adL g) 17]).toArray] w (.bool (grp6 g)) := fun w => rGroup6_any
  have f2 : ∀ w, Gives Tryz.prog 115 #[.agg (fls [.many (adL g) 17]).toArray] w (.bool (zero6 g)) := fun w => rzero6_any
  have f3 : ∀ w, Gives Tryz.prog 40 #[.agg (fls [.many (adL g) 17]).toArray] w (.bool (zeroA g.b)) := fun w => by rw [← rg_segs]; exact raZero_any g.h
  have oZ := adL_0 g
  obtain ⟨res, hres⟩ : ∃ r, good6 ⟨true, 1, kind, resp, g, quiet, rob, every, src, recs⟩ = r := ⟨_, rfl⟩
  rw [hres]
  unfold good6 at hres
  have oG := adL_ok g
  generalize grp6 g = gb at *
  generalize zero6 g = zb at *
  generalize zeroA g.b = zz at *
  generalize adL g = G at *
  generalize g.v = gw at *
  have HRES := Lib.hid hres
  clear hres
  refine Gives.of ?_
  have hH := Hp.refl w
  go_enter Tryz.func84, Tryz.ntmps84
  rcases (show kind = 2 ∨ kind = 3 by omega) with rfl | rfl
  · cases quiet
    rotate_left
    · go_wp2_with (refine st ?_; clear hH; first | intro W g hH | intro W hH)
      all_goals
        go_ret
        refine ⟨?_, hH.below⟩
        rw [← HRES.out]
        clear HRES hH f1 f2 f3 oG oZ
        (try simp_all)
        all_goals first | omega | (intros; omega) | exact len_beq _ | (simp [len_beq]; done) | (simp [len_beq]; intros; omega)
    by_cases hrob : rob = 0
    rotate_left
    · have drob : (rob != 0) = true := by simpa using hrob
      have erob : (rob == 0) = false := by simpa using hrob
      go_wp2_with (refine st ?_; clear hH; first | intro W g hH | intro W hH)
      all_goals
        go_ret
        refine ⟨?_, hH.below⟩
        rw [← HRES.out]
        clear HRES hH f1 f2 f3 oG oZ
        (try simp_all)
        all_goals first | omega | (intros; omega) | exact len_beq _ | (simp [len_beq]; done) | (simp [len_beq]; intros; omega)
    subst hrob
    by_cases hevery : every = 0
    rotate_left
    · have devery : (every != 0) = true := by simpa using hevery
      have eevery : (every == 0) = false := by simpa using hevery
      go_wp2_with (refine st ?_; clear hH; first | intro W g hH | intro W hH)
      all_goals
        go_ret
        refine ⟨?_, hH.below⟩
        rw [← HRES.out]
        clear HRES hH f1 f2 f3 oG oZ
        (try simp_all)
        all_goals first | omega | (intros; omega) | exact len_beq _ | (simp [len_beq]; done) | (simp [len_beq]; intros; omega)
    subst hevery
    by_cases hs : 0 < src.length
    · go_wp2_with (refine st ?_; clear hH; first | intro W g hH | intro W hH)
      all_goals
        go_ret
        refine ⟨?_, hH.below⟩
        rw [← HRES.out]
        clear HRES hH f1 f2 f3 oG oZ
        (try simp_all)
        all_goals first | omega | (intros; omega) | exact len_beq _ | (simp [len_beq]; done) | (simp [len_beq]; intros; omega)
    by_cases hresp : resp = 0
    rotate_left
    · have dresp : (resp != 0) = true := by simpa using hresp
      have eresp : (resp == 0) = false := by simpa using hresp
      go_wp2_with (refine st ?_; clear hH; first | intro W g hH | intro W hH)
      all_goals
        go_ret
        refine ⟨?_, hH.below⟩
        rw [← HRES.out]
        clear HRES hH f1 f2 f3 oG oZ
        (try simp_all)
        all_goals first | omega | (intros; omega) | exact len_beq _ | (simp [len_beq]; done) | (simp [len_beq]; intros; omega)
    subst hresp
    by_cases hr : 0 < recs.length
    · go_wp2_with (refine st ?_; clear hH; first | intro W g hH | intro W hH)
      all_goals
        go_ret
        refine ⟨?_, hH.below⟩
        rw [← HRES.out]
        clear HRES hH f1 f2 f3 oG oZ
        (try simp_all)
        all_goals first | omega | (intros; omega) | exact len_beq _ | (simp [len_beq]; done) | (simp [len_beq]; intros; omega)
    go_wp2_with (refine st ?_; clear hH; first | intro W g hH | intro W hH)
    all_goals
      go_ret
      refine ⟨?_, hH.below⟩
      rw [← HRES.out]
      clear HRES hH f1 f2 f3 oG oZ
      (try simp_all)
      all_goals first | omega | (intros; omega) | exact len_beq _ | (simp [len_beq]; done) | (simp [len_beq]; intros; omega)
  · cases quiet
    rotate_left
    · go_wp2_with (refine st ?_; clear hH; first | intro W g hH | intro W hH)
      all_goals
        go_ret
        refine ⟨?_, hH.below⟩
        rw [← HRES.out]
        clear HRES hH f1 f2 f3 oG oZ
        (try simp_all)
        all_goals first | omega | (intros; omega) | exact len_beq _ | (simp [len_beq]; done) | (simp [len_beq]; intros; omega)
    by_cases hrob : rob = 0
    rotate_left
    · have drob : (rob != 0) = true := by simpa using hrob
      have erob : (rob == 0) = false := by simpa using hrob
      go_wp2_with (refine st ?_; clear hH; first | intro W g hH | intro W hH)
      all_goals
        go_ret
        refine ⟨?_, hH.below⟩
        rw [← HRES.out]
        clear HRES hH f1 f2 f3 oG oZ
        (try simp_all)
        all_goals first | omega | (intros; omega) | exact len_beq _ | (simp [len_beq]; done) | (simp [len_beq]; intros; omega)
    subst hrob
    by_cases hevery : every = 0
    rotate_left
    · have devery : (every != 0) = true := by simpa using hevery
      have eevery : (every == 0) = false := by simpa using hevery
      go_wp2_with (refine st ?_; clear hH; first | intro W g hH | intro W hH)
      all_goals
        go_ret
        refine ⟨?_, hH.below⟩
        rw [← HRES.out]
        clear HRES hH f1 f2 f3 oG oZ
        (try simp_all)
        all_goals first | omega | (intros; omega) | exact len_beq _ | (simp [len_beq]; done) | (simp [len_beq]; intros; omega)
    subst hevery
    by_cases hs : 0 < src.length
    · go_wp2_with (refine st ?_; clear hH; first | intro W g hH | intro W hH)
      all_goals
        go_ret
        refine ⟨?_, hH.below⟩
        rw [← HRES.out]
        clear HRES hH f1 f2 f3 oG oZ
        (try simp_all)
        all_goals first | omega | (intros; omega) | exact len_beq _ | (simp [len_beq]; done) | (simp [len_beq]; intros; omega)
    by_cases hresp : resp = 0
    rotate_left
    · have dresp : (resp != 0) = true := by simpa using hresp
      have eresp : (resp == 0) = false := by simpa using hresp
      go_wp2_with (refine st ?_; clear hH; first | intro W g hH | intro W hH)
      all_goals
        go_ret
        refine ⟨?_, hH.below⟩
        rw [← HRES.out]
        clear HRES hH f1 f2 f3 oG oZ
        (try simp_all)
        all_goals first | omega | (intros; omega) | exact len_beq _ | (simp [len_beq]; done) | (simp [len_beq]; intros; omega)
    subst hresp
    by_cases hr : 0 < recs.length
    · go_wp2_with (refine st ?_; clear hH; first | intro W g hH | intro W hH)
      all_goals
        go_ret
        refine ⟨?_, hH.below⟩
        rw [← HRES.out]
        clear HRES hH f1 f2 f3 oG oZ
        (try simp_all)
        all_goals first | omega | (intros; omega) | exact len_beq _ | (simp [len_beq]; done) | (simp [len_beq]; intros; omega)
    go_wp2_with (refine st ?_; clear hH; first | intro W g hH | intro W hH)
    all_goals
      go_ret
      refine ⟨?_, hH.below⟩
      rw [← HRES.out]
      clear HRES hH f1 f2 f3 oG oZ
      (try simp_all)
      all_goals first | omega | (intros; omega) | exact len_beq _ | (simp [len_beq]; done) | (simp [len_beq]; intros; omega)
end
end
section
open Go.ChangeShapes Go.WideShapes Go.ChangeAt Go.RowKit
set_option linter.unusedVariables false
set_option linter.unusedSimpArgs false
set_option maxRecDepth 20000
attribute [local irreducible] wpList

section
variable {w : World} {sp rp : Option Addr} {sc rc : Nat} {T : Tk}
set_option maxRecDepth 20000 in
set_option maxHeartbeats 4000000 in
theorem rgood6_D {quiet : Bool} {ver kind resp rob every : Int} {g : Ad} {src : List Ad} {recs : List Rc} (hn : src.length ≤ 9223372036854775807) (hm : recs.length ≤ 9223372036854775807) : Gives Tryz.prog 84 #[.agg (fls [.one (.bool true), .one (.int .i64 1), .one (.int .i64 1), .one (.int .i64 resp), .many (adL g) 17, .one (.bool quiet), .one (.int .i64 rob), .one (.int .i64 every), .one (.slice sp src.length sc), .one (.slice rp recs.length rc)]).toArray] w (.bool (good6 ⟨true, 1, 1, resp, g, quiet, rob, every, src, recs⟩)) := by
  have f1 : ∀ w, Gives Tryz.prog 114 #[.agg (fls [.many (adL g) 17]).toArray] w (.bool (grp6 g)) := fun w => rGroup6_any
  have f2 : ∀ w, Gives Tryz.prog 115 #[.agg (fls [.many (adL g) 17]).toArray] w (.bool (zero6 g)) := fun w => rzero6_any
  have f3 : ∀ w, Gives Tryz.prog 40 #[.agg (fls [.many (adL g) 17]).toArray] w (.bool (zeroA g.b)) := fun w => by rw [← rg_segs]; exact raZero_any g.h
  have oZ := adL_0 g
  obtain ⟨res, hres⟩ : ∃ r, good6 ⟨true, 1, 1, resp, g, quiet, rob, every, src, recs⟩ = r := ⟨_, rfl⟩
  rw [hres]
  unfold good6 at hres
  have oG := adL_ok g
  generalize grp6 g = gb at *
  generalize zero6 g = zb at *
  generalize zeroA g.b = zz at *
  generalize adL g = G at *
  generalize g.v = gw at *
  have HRES := Lib.hid hres
  clear hres
  refine Gives.of ?_
  have hH := Hp.refl w
  go_enter Tryz.func84, Tryz.ntmps84
  cases quiet
  rotate_left
  · go_wp2_with (refine st ?_; clear hH; first | intro W g hH | intro W hH)
    all_goals
      go_ret
      refine ⟨?_, hH.below⟩
      rw [← HRES.out]
      clear HRES hH f1 f2 f3 oG oZ
      (try simp_all)
      all_goals first | omega | (intros; omega) | exact len_beq _ | (simp [len_beq]; done) | (simp [len_beq]; intros; omega)
  by_cases hrob : rob = 0
  rotate_left
  · have drob : (rob != 0) = true := by simpa using hrob
    have erob : (rob == 0) = false := by simpa using hrob
    go_wp2_with (refine st ?_; clear hH; first | intro W g hH | intro W hH)
    all_goals
      go_ret
      refine ⟨?_, hH.below⟩
      rw [← HRES.out]
      clear HRES hH f1 f2 f3 oG oZ
      (try simp_all)
      all_goals first | omega | (intros; omega) | exact len_beq _ | (simp [len_beq]; done) | (simp [len_beq]; intros; omega)
  subst hrob
  by_cases hevery : every = 0
  rotate_left
  · have devery : (every != 0) = true := by simpa using hevery
    have eevery : (every == 0) = false := by simpa using hevery
    go_wp2_with (refine st ?_; clear hH; first | intro W g hH | intro W hH)
    all_goals
      go_ret
      refine ⟨?_, hH.below⟩
      rw [← HRES.out]
      clear HRES hH f1 f2 f3 oG oZ
      (try simp_all)
      all_goals first | omega | (intros; omega) | exact len_beq _ | (simp [len_beq]; done) | (simp [len_beq]; intros; omega)
  subst hevery
  by_cases hs : 0 < src.length
  · go_wp2_with (refine st ?_; clear hH; first | intro W g hH | intro W hH)
    all_goals
      go_ret
      refine ⟨?_, hH.below⟩
      rw [← HRES.out]
      clear HRES hH f1 f2 f3 oG oZ
      (try simp_all)
      all_goals first | omega | (intros; omega) | exact len_beq _ | (simp [len_beq]; done) | (simp [len_beq]; intros; omega)
  by_cases hr : 0 < recs.length
  · go_wp2_with (refine st ?_; clear hH; first | intro W g hH | intro W hH)
    all_goals
      go_ret
      refine ⟨?_, hH.below⟩
      rw [← HRES.out]
      clear HRES hH f1 f2 f3 oG oZ
      (try simp_all)
      all_goals first | omega | (intros; omega) | exact len_beq _ | (simp [len_beq]; done) | (simp [len_beq]; intros; omega)
  by_cases hz : zb = false ∧ gb = false
  · obtain ⟨rfl, rfl⟩ := hz
    go_wp2_with (refine st ?_; clear hH; first | intro W g hH | intro W hH)
    all_goals
      go_ret
      refine ⟨?_, hH.below⟩
      rw [← HRES.out]
      clear HRES hH f1 f2 f3 oG oZ
      (try simp_all)
      all_goals first | omega | (intros; omega) | exact len_beq _ | (simp [len_beq]; done) | (simp [len_beq]; intros; omega)
  by_cases h4 : resp < 0
  · have dec_h4 : decide (0 ≤ resp) = false := decide_eq_false (by omega)
    go_wp2_with (refine st ?_; clear hH; first | intro W g hH | intro W hH)
    all_goals
      go_ret
      refine ⟨?_, hH.below⟩
      rw [← HRES.out]
      clear HRES hH f1 f2 f3 oG oZ
      (try simp_all)
      all_goals first | omega | (intros; omega) | exact len_beq _ | (simp [len_beq]; done) | (simp [len_beq]; intros; omega)
  replace h4 : 0 ≤ resp := by omega
  go_wp2_with (refine st ?_; clear hH; first | intro W g hH | intro W hH)
  all_goals
    go_ret
    refine ⟨?_, hH.below⟩
    rw [← HRES.out]
    clear HRES hH f1 f2 f3 oG oZ
    (try simp_all)
    all_goals first | omega | (intros; omega) | exact len_beq _ | (simp [len_beq]; done) | (simp [len_beq]; intros; omega)
end
end
end Go.Proofs.YtdnehjhijmeihaaGreat

/-
  Joined texts: Th1.
-/
import Derived.Test.YtdnehjhijmeihaaGreatQTg
import Derived.Test.YtdnehjhijmeihaaGreatQSl
namespace Go.Proofs.YtdnehjhijmeihaaGreat
open Go.ChangeShapes Go.WideShapes Go.ChangeAt Go.RowKit
set_option linter.unusedVariables false
set_option linter.unusedSimpArgs false
set_option maxRecDepth 20000
attribute [local irreducible] wpList
section
variable {w : World} {sp rp : Option Addr} {sc rc : Nat} {T : Tk}
set_option maxRecDepth 20000 in
set_option maxHeartbeats 4000000 in
theorem rgood4_A {quiet : Bool} {ver resp rob every : Int} {g : Ad} {src : List Ad} {recs : List Rc} (hn : src.length ≤ 9223372036854775807) (hm : recs.length ≤ 9223372036854775807) (h1 : 1 ≤ ver) (h2 : ver ≤ 3) : Gives Tryz.prog 85 #[.agg (fls [.one (.bool false), .one (.int .i64 ver), .one (.int .i64 3), .one (.int .i64 resp), .many (adL g) 17, .one (.bool quiet), .one (.int .i64 rob), .one (.int .i64 every), .one (.slice sp src.length sc), .one (.slice rp recs.length rc)]).toArray] w (.bool (good4 ⟨false, ver, 3, resp, g, quiet, rob, every, src, recs⟩)) := by
  have f1 : ∀ w, Gives Tryz.prog 68 #[.agg (fls [.many (adL g) 17]).toArray] w (.bool (grp4 g)) := fun w => rGroup4_any
  have f2 := ad_eql g Ad.z
  have f3 := ad_neq g Ad.z
  rw [← zAd_eq] at f2 f3
  obtain ⟨res, hres⟩ : ∃ r, good4 ⟨false, ver, 3, resp, g, quiet, rob, every, src, recs⟩ = r := ⟨_, rfl⟩
  rw [hres]
  unfold good4 at hres
  have oG := adL_ok g
  have oZ : OkA (zeroL Tryz.prog 25) 17 := by rw [← adL_z]; exact adL_ok _
  rw [show (g != Ad.z) = !(g == Ad.z) from rfl] at f3 hres
  generalize grp4 g = gb at *
  generalize (g == Ad.z) = zb at *
  generalize adL g = G at *
  have HRES := Lib.hid hres
  clear hres
  refine Gives.of ?_
  have hH := Hp.refl w
  go_enter Tryz.func85, Tryz.ntmps85
  rcases (show ver = 1 ∨ ver = 2 ∨ ver = 3 by omega) with rfl | rfl | rfl
  · cases quiet
    rotate_left
    · go_wp2_with (refine st ?_; clear hH; first | intro W g hH | intro W hH)
      all_goals
        go_ret
        refine ⟨?_, hH.below⟩
        rw [← HRES.out]
        clear HRES hH f1 f2 f3 oG oZ
        (try simp_all)
        all_goals first | omega | (intros; omega) | exact len_beq _ | (simp [len_beq]; done) | (simp [len_beq]; intros; omega)
    by_cases hrob : rob = 0
    rotate_left
    · have drob : (rob != 0) = true := by simpa using hrob
      have erob : (rob == 0) = false := by simpa using hrob
      go_wp2_with (refine st ?_; clear hH; first | intro W g hH | intro W hH)
      all_goals
        go_ret
        refine ⟨?_, hH.below⟩
        rw [← HRES.out]
        clear HRES hH f1 f2 f3 oG oZ
        (try simp_all)
        all_goals first | omega | (intros; omega) | exact len_beq _ | (simp [len_beq]; done) | (simp [len_beq]; intros; omega)
    subst hrob
    by_cases hevery : every = 0
    rotate_left
    · have devery : (every != 0) = true := by simpa using hevery
      have eevery : (every == 0) = false := by simpa using hevery
      go_wp2_with (refine st ?_; clear hH; first | intro W g hH | intro W hH)
      all_goals
        go_ret
        refine ⟨?_, hH.below⟩
        rw [← HRES.out]
        clear HRES hH f1 f2 f3 oG oZ
        (try simp_all)
        all_goals first | omega | (intros; omega) | exact len_beq _ | (simp [len_beq]; done) | (simp [len_beq]; intros; omega)
    subst hevery
    by_cases hs : 0 < src.length
    · go_wp2_with (refine st ?_; clear hH; first | intro W g hH | intro W hH)
      all_goals
        go_ret
        refine ⟨?_, hH.below⟩
        rw [← HRES.out]
        clear HRES hH f1 f2 f3 oG oZ
        (try simp_all)
        all_goals first | omega | (intros; omega) | exact len_beq _ | (simp [len_beq]; done) | (simp [len_beq]; intros; omega)
    by_cases hresp : resp = 0
    rotate_left
    · have dresp : (resp != 0) = true := by simpa using hresp
      have eresp : (resp == 0) = false := by simpa using hresp
      go_wp2_with (refine st ?_; clear hH; first | intro W g hH | intro W hH)
      all_goals
        go_ret
        refine ⟨?_, hH.below⟩
        rw [← HRES.out]
        clear HRES hH f1 f2 f3 oG oZ
        (try simp_all)
        all_goals first | omega | (intros; omega) | exact len_beq _ | (simp [len_beq]; done) | (simp [len_beq]; intros; omega)
    subst hresp
    by_cases hr : 0 < recs.length
    · go_wp2_with (refine st ?_; clear hH; first | intro W g hH | intro W hH)
      all_goals
        go_ret
        refine ⟨?_, hH.below⟩
        rw [← HRES.out]
        clear HRES hH f1 f2 f3 oG oZ
        (try simp_all)
        all_goals first | omega | (intros; omega) | exact len_beq _ | (simp [len_beq]; done) | (simp [len_beq]; intros; omega)
    go_wp2_with (refine st ?_; clear hH; first | intro W g hH | intro W hH)
    all_goals
      go_ret
      refine ⟨?_, hH.below⟩
      rw [← HRES.out]
      clear HRES hH f1 f2 f3 oG oZ
      (try simp_all)
      all_goals first | omega | (intros; omega) | exact len_beq _ | (simp [len_beq]; done) | (simp [len_beq]; intros; omega)
  · cases quiet
    rotate_left
    · go_wp2_with (refine st ?_; clear hH; first | intro W g hH | intro W hH)
      all_goals
        go_ret
        refine ⟨?_, hH.below⟩
        rw [← HRES.out]
        clear HRES hH f1 f2 f3 oG oZ
        (try simp_all)
        all_goals first | omega | (intros; omega) | exact len_beq _ | (simp [len_beq]; done) | (simp [len_beq]; intros; omega)
    by_cases hrob : rob = 0
    rotate_left
    · have drob : (rob != 0) = true := by simpa using hrob
      have erob : (rob == 0) = false := by simpa using hrob
      go_wp2_with (refine st ?_; clear hH; first | intro W g hH | intro W hH)
      all_goals
        go_ret
        refine ⟨?_, hH.below⟩
        rw [← HRES.out]
        clear HRES hH f1 f2 f3 oG oZ
        (try simp_all)
        all_goals first | omega | (intros; omega) | exact len_beq _ | (simp [len_beq]; done) | (simp [len_beq]; intros; omega)
    subst hrob
    by_cases hevery : every = 0
    rotate_left
    · have devery : (every != 0) = true := by simpa using hevery
      have eevery : (every == 0) = false := by simpa using hevery
      go_wp2_with (refine st ?_; clear hH; first | intro W g hH | intro W hH)
      all_goals
        go_ret
        refine ⟨?_, hH.below⟩
        rw [← HRES.out]
        clear HRES hH f1 f2 f3 oG oZ
        (try simp_all)
        all_goals first | omega | (intros; omega) | exact len_beq _ | (simp [len_beq]; done) | (simp [len_beq]; intros; omega)
    subst hevery
    by_cases hs : 0 < src.length
    · go_wp2_with (refine st ?_; clear hH; first | intro W g hH | intro W hH)
      all_goals
        go_ret
        refine ⟨?_, hH.below⟩
        rw [← HRES.out]
        clear HRES hH f1 f2 f3 oG oZ
        (try simp_all)
        all_goals first | omega | (intros; omega) | exact len_beq _ | (simp [len_beq]; done) | (simp [len_beq]; intros; omega)
    by_cases hresp : resp = 0
    rotate_left
    · have dresp : (resp != 0) = true := by simpa using hresp
      have eresp : (resp == 0) = false := by simpa using hresp
      go_wp2_with (refine st ?_; clear hH; first | intro W g hH | intro W hH)
      all_goals
        go_ret
        refine ⟨?_, hH.below⟩
        rw [← HRES.out]
        clear HRES hH f1 f2 f3 oG oZ
        (try simp_all)
        all_goals first | omega | (intros; omega) | exact len_beq _ | (simp [len_beq]; done) | (simp [len_beq]; intros; omega)
    subst hresp
    by_cases hr : 0 < recs.length
    · go_wp2_with (refine st ?_; clear hH; first | intro W g hH | intro W hH)
      all_goals
        go_ret
        refine ⟨?_, hH.below⟩
        rw [← HRES.out]
        clear HRES hH f1 f2 f3 oG oZ
        (try simp_all)
        all_goals first | omega | (intros; omega) | exact len_beq _ | (simp [len_beq]; done) | (simp [len_beq]; intros; omega)
    go_wp2_with (refine st ?_; clear hH; first | intro W g hH | intro W hH)
    all_goals
      go_ret
      refine ⟨?_, hH.below⟩
      rw [← HRES.out]
      clear HRES hH f1 f2 f3 oG oZ
      (try simp_all)
      all_goals first | omega | (intros; omega) | exact len_beq _ | (simp [len_beq]; done) | (simp [len_beq]; intros; omega)
  · cases quiet
    rotate_left
    · go_wp2_with (refine st ?_; clear hH; first | intro W g hH | intro W hH)
      all_goals
        go_ret
        refine ⟨?_, hH.below⟩
        rw [← HRES.out]
        clear HRES hH f1 f2 f3 oG oZ
        (try simp_all)
        all_goals first | omega | (intros; omega) | exact len_beq _ | (simp [len_beq]; done) | (simp [len_beq]; intros; omega)
    by_cases hrob : rob = 0
    rotate_left
    · have drob : (rob != 0) = true := by simpa using hrob
      have erob : (rob == 0) = false := by simpa using hrob
      go_wp2_with (refine st ?_; clear hH; first | intro W g hH | intro W hH)
      all_goals
        go_ret
        refine ⟨?_, hH.below⟩
        rw [← HRES.out]
        clear HRES hH f1 f2 f3 oG oZ
        (try simp_all)
        all_goals first | omega | (intros; omega) | exact len_beq _ | (simp [len_beq]; done) | (simp [len_beq]; intros; omega)
    subst hrob
    by_cases hevery : every = 0
    rotate_left
    · have devery : (every != 0) = true := by simpa using hevery
      have eevery : (every == 0) = false := by simpa using hevery
      go_wp2_with (refine st ?_; clear hH; first | intro W g hH | intro W hH)
      all_goals
        go_ret
        refine ⟨?_, hH.below⟩
        rw [← HRES.out]
        clear HRES hH f1 f2 f3 oG oZ
        (try simp_all)
        all_goals first | omega | (intros; omega) | exact len_beq _ | (simp [len_beq]; done) | (simp [len_beq]; intros; omega)
    subst hevery
    by_cases hs : 0 < src.length
    · go_wp2_with (refine st ?_; clear hH; first | intro W g hH | intro W hH)
      all_goals
        go_ret
        refine ⟨?_, hH.below⟩
        rw [← HRES.out]
        clear HRES hH f1 f2 f3 oG oZ
        (try simp_all)
        all_goals first | omega | (intros; omega) | exact len_beq _ | (simp [len_beq]; done) | (simp [len_beq]; intros; omega)
    by_cases hresp : resp = 0
    rotate_left
    · have dresp : (resp != 0) = true := by simpa using hresp
      have eresp : (resp == 0) = false := by simpa using hresp
      go_wp2_with (refine st ?_; clear hH; first | intro W g hH | intro W hH)
      all_goals
        go_ret
        refine ⟨?_, hH.below⟩
        rw [← HRES.out]
        clear HRES hH f1 f2 f3 oG oZ
        (try simp_all)
        all_goals first | omega | (intros; omega) | exact len_beq _ | (simp [len_beq]; done) | (simp [len_beq]; intros; omega)
    subst hresp
    by_cases hr : 0 < recs.length
    · go_wp2_with (refine st ?_; clear hH; first | intro W g hH | intro W hH)
      all_goals
        go_ret
        refine ⟨?_, hH.below⟩
        rw [← HRES.out]
        clear HRES hH f1 f2 f3 oG oZ
        (try simp_all)
        all_goals first | omega | (intros; omega) | exact len_beq _ | (simp [len_beq]; done) | (simp [len_beq]; intros; omega)
    go_wp2_with (refine st ?_; clear hH; first | intro W g hH | intro W hH)
    all_goals
      go_ret
      refine ⟨?_, hH.below⟩
      rw [← HRES.out]
      clear HRES hH f1 f2 f3 oG oZ
      (try simp_all)
      all_goals first | omega | (intros; omega) | exact len_beq _ | (simp [len_beq]; done) | (simp [len_beq]; intros; omega)
set_option maxRecDepth 20000 in
set_option maxHeartbeats 4000000 in
theorem rgood4_B {quiet : Bool} {ver resp rob every : Int} {g : Ad} {src : List Ad} {recs : List Rc} (hn : src.length ≤ 9223372036854775807) (hm : recs.length ≤ 9223372036854775807) (h1 : 1 ≤ ver) (h2 : ver < 3) : Gives Tryz.prog 85 #[.agg (fls [.one (.bool false), .one (.int .i64 ver), .one (.int .i64 2), .one (.int .i64 resp), .many (adL g) 17, .one (.bool quiet), .one (.int .i64 rob), .one (.int .i64 every), .one (.slice sp src.length sc), .one (.slice rp recs.length rc)]).toArray] w (.bool (good4 ⟨false, ver, 2, resp, g, quiet, rob, every, src, recs⟩)) := by
  have f1 : ∀ w, Gives Tryz.prog 68 #[.agg (fls [.many (adL g) 17]).toArray] w (.bool (grp4 g)) := fun w => rGroup4_any
  have f2 := ad_eql g Ad.z
  have f3 := ad_neq g Ad.z
  rw [← zAd_eq] at f2 f3
  obtain ⟨res, hres⟩ : ∃ r, good4 ⟨false, ver, 2, resp, g, quiet, rob, every, src, recs⟩ = r := ⟨_, rfl⟩
  rw [hres]
  unfold good4 at hres
  have oG := adL_ok g
  have oZ : OkA (zeroL Tryz.prog 25) 17 := by rw [← adL_z]; exact adL_ok _
  rw [show (g != Ad.z) = !(g == Ad.z) from rfl] at f3 hres
  generalize grp4 g = gb at *
  generalize (g == Ad.z) = zb at *
  generalize adL g = G at *
  have HRES := Lib.hid hres
  clear hres
  refine Gives.of ?_
  have hH := Hp.refl w
  go_enter Tryz.func85, Tryz.ntmps85
  rcases (show ver = 1 ∨ ver = 2 by omega) with rfl | rfl
  · cases quiet
    rotate_left
    · go_wp2_with (refine st ?_; clear hH; first | intro W g hH | intro W hH)
      all_goals
        go_ret
        refine ⟨?_, hH.below⟩
        rw [← HRES.out]
        clear HRES hH f1 f2 f3 oG oZ
        (try simp_all)
        all_goals first | omega | (intros; omega) | exact len_beq _ | (simp [len_beq]; done) | (simp [len_beq]; intros; omega)
    by_cases hrob : rob = 0
    rotate_left
    · have drob : (rob != 0) = true := by simpa using hrob
      have erob : (rob == 0) = false := by simpa using hrob
      go_wp2_with (refine st ?_; clear hH; first | intro W g hH | intro W hH)
      all_goals
        go_ret
        refine ⟨?_, hH.below⟩
        rw [← HRES.out]
        clear HRES hH f1 f2 f3 oG oZ
        (try simp_all)
        all_goals first | omega | (intros; omega) | exact len_beq _ | (simp [len_beq]; done) | (simp [len_beq]; intros; omega)
    subst hrob
    by_cases hevery : every = 0
    rotate_left
    · have devery : (every != 0) = true := by simpa using hevery
      have eevery : (every == 0) = false := by simpa using hevery
      go_wp2_with (refine st ?_; clear hH; first | intro W g hH | intro W hH)
      all_goals
        go_ret
        refine ⟨?_, hH.below⟩
        rw [← HRES.out]
        clear HRES hH f1 f2 f3 oG oZ
        (try simp_all)
        all_goals first | omega | (intros; omega) | exact len_beq _ | (simp [len_beq]; done) | (simp [len_beq]; intros; omega)
    subst hevery
    by_cases hs : 0 < src.length
    · go_wp2_with (refine st ?_; clear hH; first | intro W g hH | intro W hH)
      all_goals
        go_ret
        refine ⟨?_, hH.below⟩
        rw [← HRES.out]
        clear HRES hH f1 f2 f3 oG oZ
        (try simp_all)
        all_goals first | omega | (intros; omega) | exact len_beq _ | (simp [len_beq]; done) | (simp [len_beq]; intros; omega)
    by_cases hresp : resp = 0
    rotate_left
    · have dresp : (resp != 0) = true := by simpa using hresp
      have eresp : (resp == 0) = false := by simpa using hresp
      go_wp2_with (refine st ?_; clear hH; first | intro W g hH | intro W hH)
      all_goals
        go_ret
        refine ⟨?_, hH.below⟩
        rw [← HRES.out]
        clear HRES hH f1 f2 f3 oG oZ
        (try simp_all)
        all_goals first | omega | (intros; omega) | exact len_beq _ | (simp [len_beq]; done) | (simp [len_beq]; intros; omega)
    subst hresp
    by_cases hr : 0 < recs.length
    · go_wp2_with (refine st ?_; clear hH; first | intro W g hH | intro W hH)
      all_goals
        go_ret
        refine ⟨?_, hH.below⟩
        rw [← HRES.out]
        clear HRES hH f1 f2 f3 oG oZ
        (try simp_all)
        all_goals first | omega | (intros; omega) | exact len_beq _ | (simp [len_beq]; done) | (simp [len_beq]; intros; omega)
    go_wp2_with (refine st ?_; clear hH; first | intro W g hH | intro W hH)
    all_goals
      go_ret
      refine ⟨?_, hH.below⟩
      rw [← HRES.out]
      clear HRES hH f1 f2 f3 oG oZ
      (try simp_all)
      all_goals first | omega | (intros; omega) | exact len_beq _ | (simp [len_beq]; done) | (simp [len_beq]; intros; omega)
  · cases quiet
    rotate_left
    · go_wp2_with (refine st ?_; clear hH; first | intro W g hH | intro W hH)
      all_goals
        go_ret
        refine ⟨?_, hH.below⟩
        rw [← HRES.out]
        clear HRES hH f1 f2 f3 oG oZ
        (try simp_all)
        all_goals first | omega | (intros; omega) | exact len_beq _ | (simp [len_beq]; done) | (simp [len_beq]; intros; omega)
    by_cases hrob : rob = 0
    rotate_left
    · have drob : (rob != 0) = true := by simpa using hrob
      have erob : (rob == 0) = false := by simpa using hrob
      go_wp2_with (refine st ?_; clear hH; first | intro W g hH | intro W hH)
      all_goals
        go_ret
        refine ⟨?_, hH.below⟩
        rw [← HRES.out]
        clear HRES hH f1 f2 f3 oG oZ
        (try simp_all)
        all_goals first | omega | (intros; omega) | exact len_beq _ | (simp [len_beq]; done) | (simp [len_beq]; intros; omega)
    subst hrob
    by_cases hevery : every = 0
    rotate_left
    · have devery : (every != 0) = true := by simpa using hevery
      have eevery : (every == 0) = false := by simpa using hevery
      go_wp2_with (refine st ?_; clear hH; first | intro W g hH | intro W hH)
      all_goals
        go_ret
        refine ⟨?_, hH.below⟩
        rw [← HRES.out]
        clear HRES hH f1 f2 f3 oG oZ
        (try simp_all)
        all_goals first | omega | (intros; omega) | exact len_beq _ | (simp [len_beq]; done) | (simp [len_beq]; intros; omega)
    subst hevery
    by_cases hs : 0 < src.length
    · go_wp2_with (refine st ?_; clear hH; first | intro W g hH | intro W hH)
      all_goals
        go_ret
        refine ⟨?_, hH.below⟩
        rw [← HRES.out]
        clear HRES hH f1 f2 f3 oG oZ
        (try simp_all)
        all_goals first | omega | (intros; omega) | exact len_beq _ | (simp [len_beq]; done) | (simp [len_beq]; intros; omega)
    by_cases hresp : resp = 0
    rotate_left
    · have dresp : (resp != 0) = true := by simpa using hresp
      have eresp : (resp == 0) = false := by simpa using hresp
      go_wp2_with (refine st ?_; clear hH; first | intro W g hH | intro W hH)
      all_goals
        go_ret
        refine ⟨?_, hH.below⟩
        rw [← HRES.out]
        clear HRES hH f1 f2 f3 oG oZ
        (try simp_all)
        all_goals first | omega | (intros; omega) | exact len_beq _ | (simp [len_beq]; done) | (simp [len_beq]; intros; omega)
    subst hresp
    by_cases hr : 0 < recs.length
    · go_wp2_with (refine st ?_; clear hH; first | intro W g hH | intro W hH)
      all_goals
        go_ret
        refine ⟨?_, hH.below⟩
        rw [← HRES.out]
        clear HRES hH f1 f2 f3 oG oZ
        (try simp_all)
        all_goals first | omega | (intros; omega) | exact len_beq _ | (simp [len_beq]; done) | (simp [len_beq]; intros; omega)
    go_wp2_with (refine st ?_; clear hH; first | intro W g hH | intro W hH)
    all_goals
      go_ret
      refine ⟨?_, hH.below⟩
      rw [← HRES.out]
      clear HRES hH f1 f2 f3 oG oZ
      (try simp_all)
      all_goals first | omega | (intros; omega) | exact len_beq _ | (simp [len_beq]; done) | (simp [len_beq]; intros; omega)
end
end Go.Proofs.YtdnehjhijmeihaaGreat

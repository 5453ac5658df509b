/-
  Joined texts: Th3.
-/
import Derived.Test.YtdnehjhijmeihaaGreatQTg
import Derived.Test.YtdnehjhijmeihaaGreatQSl
namespace Go.Proofs.YtdnehjhijmeihaaGreat
open Go.ChangeShapes Go.WideShapes Go.ChangeAt Go.RowKit
set_option linter.unusedVariables false
set_option linter.unusedSimpArgs false
set_option maxRecDepth 20000
attribute [local irreducible] wpList
section
variable {w : World} {sp rp : Option Addr} {sc rc : Nat} {T : Tk}
set_option maxRecDepth 20000 in
set_option maxHeartbeats 4000000 in
theorem rgood4_F {quiet : Bool} {ver resp rob every : Int} {g : Ad} {src : List Ad} {recs : List Rc} (hn : src.length ≤ 9223372036854775807) (hm : recs.length ≤ 9223372036854775807) (hA : AdsAt w sp src) (b1 : inI resp) (b2 : inI every) : Gives Tryz.prog 85 #[.agg (fls [.one (.bool false), .one (.int .i64 3), .one (.int .i64 1), .one (.int .i64 resp), .many (adL g) 17, .one (.bool quiet), .one (.int .i64 rob), .one (.int .i64 every), .one (.slice sp src.length sc), .one (.slice rp recs.length rc)]).toArray] w (.bool (good4 ⟨false, 3, 1, resp, g, quiet, rob, every, src, recs⟩)) := by
  have f1 : ∀ w, Gives Tryz.prog 68 #[.agg (fls [.many (adL g) 17]).toArray] w (.bool (grp4 g)) := fun w => rGroup4_any
  have f2 := ad_eql g Ad.z
  have f3 := ad_neq g Ad.z
  rw [← zAd_eq] at f2 f3
  obtain ⟨res, hres⟩ : ∃ r, good4 ⟨false, 3, 1, resp, g, quiet, rob, every, src, recs⟩ = r := ⟨_, rfl⟩
  rw [hres]
  unfold good4 at hres
  have oG := adL_ok g
  have oZ : OkA (zeroL Tryz.prog 25) 17 := by rw [← adL_z]; exact adL_ok _
  rw [show (g != Ad.z) = !(g == Ad.z) from rfl] at f3 hres
  generalize grp4 g = gb at *
  generalize (g == Ad.z) = zb at *
  generalize adL g = G at *
  have f4 : ∀ w, Gives Tryz.prog 143 #[.int .i64 resp] w (.bool (ex8 resp)) := fun w => rexact_any b1
  have f5 : ∀ w, Gives Tryz.prog 143 #[.int .i64 every] w (.bool (ex8 every)) := fun w => rexact_any b2
  have f6 := Lib.hid (show ∀ W, Below w.heap.size w W → Gives Tryz.prog 142 #[.slice sp src.length sc] W (.bool (srcs4 src)) from fun W hb => rSrcs4_any (hA.below hb))
  clear b1 b2 hA
  generalize ex8 resp = x1 at *
  generalize ex8 every = x2 at *
  generalize srcs4 src = x3 at *
  have HRES := Lib.hid hres
  clear hres
  refine Gives.of ?_
  have hH := Hp.refl w
  go_enter Tryz.func85, Tryz.ntmps85
  by_cases hr : 0 < recs.length
  · go_wp2_with (first | (refine st ?_; clear hH; first | intro W g hH | intro W hH) | ((with_reducible refine callH hH ?_); refine ⟨?_, ?_, ?_⟩; rotate_left; (focus (first | (exact f6.out _ hH.below))); (clear hH; first | intro W g hH | intro W hH); ((try simp only [Act.put, pA, pB, pC]))))
    all_goals
      go_ret
      refine ⟨?_, hH.below⟩
      rw [← HRES.out]
      clear HRES hH f1 f2 f3 f4 f5 f6 oG oZ
      (try simp_all)
      all_goals first | omega | (intros; omega) | exact len_beq _ | (simp [len_beq]; done) | (simp [len_beq]; intros; omega)
  by_cases hz : zb = false ∧ gb = false
  · obtain ⟨rfl, rfl⟩ := hz
    go_wp2_with (first | (refine st ?_; clear hH; first | intro W g hH | intro W hH) | ((with_reducible refine callH hH ?_); refine ⟨?_, ?_, ?_⟩; rotate_left; (focus (first | (exact f6.out _ hH.below))); (clear hH; first | intro W g hH | intro W hH); ((try simp only [Act.put, pA, pB, pC]))))
    all_goals
      go_ret
      refine ⟨?_, hH.below⟩
      rw [← HRES.out]
      clear HRES hH f1 f2 f3 f4 f5 f6 oG oZ
      (try simp_all)
      all_goals first | omega | (intros; omega) | exact len_beq _ | (simp [len_beq]; done) | (simp [len_beq]; intros; omega)
  cases x1
  · go_wp2_with (first | (refine st ?_; clear hH; first | intro W g hH | intro W hH) | ((with_reducible refine callH hH ?_); refine ⟨?_, ?_, ?_⟩; rotate_left; (focus (first | (exact f6.out _ hH.below))); (clear hH; first | intro W g hH | intro W hH); ((try simp only [Act.put, pA, pB, pC]))))
    all_goals
      go_ret
      refine ⟨?_, hH.below⟩
      rw [← HRES.out]
      clear HRES hH f1 f2 f3 f4 f5 f6 oG oZ
      (try simp_all)
      all_goals first | omega | (intros; omega) | exact len_beq _ | (simp [len_beq]; done) | (simp [len_beq]; intros; omega)
  cases x2
  · go_wp2_with (first | (refine st ?_; clear hH; first | intro W g hH | intro W hH) | ((with_reducible refine callH hH ?_); refine ⟨?_, ?_, ?_⟩; rotate_left; (focus (first | (exact f6.out _ hH.below))); (clear hH; first | intro W g hH | intro W hH); ((try simp only [Act.put, pA, pB, pC]))))
    all_goals
      go_ret
      refine ⟨?_, hH.below⟩
      rw [← HRES.out]
      clear HRES hH f1 f2 f3 f4 f5 f6 oG oZ
      (try simp_all)
      all_goals first | omega | (intros; omega) | exact len_beq _ | (simp [len_beq]; done) | (simp [len_beq]; intros; omega)
  by_cases h4 : rob < 0
  · have dec_h4 : decide (0 ≤ rob) = false := decide_eq_false (by omega)
    go_wp2_with (first | (refine st ?_; clear hH; first | intro W g hH | intro W hH) | ((with_reducible refine callH hH ?_); refine ⟨?_, ?_, ?_⟩; rotate_left; (focus (first | (exact f6.out _ hH.below))); (clear hH; first | intro W g hH | intro W hH); ((try simp only [Act.put, pA, pB, pC]))))
    all_goals
      go_ret
      refine ⟨?_, hH.below⟩
      rw [← HRES.out]
      clear HRES hH f1 f2 f3 f4 f5 f6 oG oZ
      (try simp_all)
      all_goals first | omega | (intros; omega) | exact len_beq _ | (simp [len_beq]; done) | (simp [len_beq]; intros; omega)
  replace h4 : 0 ≤ rob := by omega
  by_cases h5 : 8 ≤ rob
  · have dec_h5 : decide (rob < 8) = false := decide_eq_false (by omega)
    go_wp2_with (first | (refine st ?_; clear hH; first | intro W g hH | intro W hH) | ((with_reducible refine callH hH ?_); refine ⟨?_, ?_, ?_⟩; rotate_left; (focus (first | (exact f6.out _ hH.below))); (clear hH; first | intro W g hH | intro W hH); ((try simp only [Act.put, pA, pB, pC]))))
    all_goals
      go_ret
      refine ⟨?_, hH.below⟩
      rw [← HRES.out]
      clear HRES hH f1 f2 f3 f4 f5 f6 oG oZ
      (try simp_all)
      all_goals first | omega | (intros; omega) | exact len_beq _ | (simp [len_beq]; done) | (simp [len_beq]; intros; omega)
  replace h5 : rob < 8 := by omega
  cases x3
  · go_wp2_with (first | (refine st ?_; clear hH; first | intro W g hH | intro W hH) | ((with_reducible refine callH hH ?_); refine ⟨?_, ?_, ?_⟩; rotate_left; (focus (first | (exact f6.out _ hH.below))); (clear hH; first | intro W g hH | intro W hH); ((try simp only [Act.put, pA, pB, pC]))))
    all_goals
      go_ret
      refine ⟨?_, hH.below⟩
      rw [← HRES.out]
      clear HRES hH f1 f2 f3 f4 f5 f6 oG oZ
      (try simp_all)
      all_goals first | omega | (intros; omega) | exact len_beq _ | (simp [len_beq]; done) | (simp [len_beq]; intros; omega)
  go_wp2_with (first | (refine st ?_; clear hH; first | intro W g hH | intro W hH) | ((with_reducible refine callH hH ?_); refine ⟨?_, ?_, ?_⟩; rotate_left; (focus (first | (exact f6.out _ hH.below))); (clear hH; first | intro W g hH | intro W hH); ((try simp only [Act.put, pA, pB, pC]))))
  all_goals
    go_ret
    refine ⟨?_, hH.below⟩
    rw [← HRES.out]
    clear HRES hH f1 f2 f3 f4 f5 f6 oG oZ
    (try simp_all)
    all_goals first | omega | (intros; omega) | exact len_beq _ | (simp [len_beq]; done) | (simp [len_beq]; intros; omega)
end
end Go.Proofs.YtdnehjhijmeihaaGreat

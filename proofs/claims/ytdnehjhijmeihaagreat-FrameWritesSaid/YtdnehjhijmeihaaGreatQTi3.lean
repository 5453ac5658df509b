/-
  Joined texts: Ti3.
-/
import Derived.Test.YtdnehjhijmeihaaGreatQTg
import Derived.Test.YtdnehjhijmeihaaGreatQSl
namespace Go.Proofs.YtdnehjhijmeihaaGreat
open Go.ChangeShapes Go.WideShapes Go.ChangeAt Go.RowKit
set_option linter.unusedVariables false
set_option linter.unusedSimpArgs false
set_option maxRecDepth 20000
attribute [local irreducible] wpList
section
variable {w : World} {sp rp : Option Addr} {sc rc : Nat} {T : Tk}
set_option maxRecDepth 20000 in
set_option maxHeartbeats 4000000 in
theorem rgood6_F {quiet : Bool} {ver kind resp rob every : Int} {g : Ad} {src : List Ad} {recs : List Rc} (hn : src.length ≤ 9223372036854775807) (hm : recs.length ≤ 9223372036854775807) (hA : AdsAt w sp src) (b1 : inI resp) (b2 : inI every) : Gives Tryz.prog 84 #[.agg (fls [.one (.bool true), .one (.int .i64 2), .one (.int .i64 1), .one (.int .i64 resp), .many (adL g) 17, .one (.bool quiet), .one (.int .i64 rob), .one (.int .i64 every), .one (.slice sp src.length sc), .one (.slice rp recs.length rc)]).toArray] w (.bool (good6 ⟨true, 2, 1, resp, g, quiet, rob, every, src, recs⟩)) := by
  have f1 : ∀ w, Gives Tryz.prog 114 #[.agg (fls [.many (adL g) 17]).toArray] w (.bool (grp6 g)) := fun w => rGroup6_any
  have f2 : ∀ w, Gives Tryz.prog 115 #[.agg (fls [.many (adL g) 17]).toArray] w (.bool (zero6 g)) := fun w => rzero6_any
  have f3 : ∀ w, Gives Tryz.prog 40 #[.agg (fls [.many (adL g) 17]).toArray] w (.bool (zeroA g.b)) := fun w => by rw [← rg_segs]; exact raZero_any g.h
  have oZ := adL_0 g
  obtain ⟨res, hres⟩ : ∃ r, good6 ⟨true, 2, 1, resp, g, quiet, rob, every, src, recs⟩ = r := ⟨_, rfl⟩
  rw [hres]
  unfold good6 at hres
  have oG := adL_ok g
  generalize grp6 g = gb at *
  generalize zero6 g = zb at *
  generalize zeroA g.b = zz at *
  generalize adL g = G at *
  generalize g.v = gw at *
  have c1 : ∀ w, Gives Tryz.prog 93 #[.int .i64 resp] w (.int .i64 (cod16 resp : Int)) := fun w => rCode16_any (cod16_is resp) b1
  have c2 : ∀ w, Gives Tryz.prog 116 #[.int .i64 (cod16 resp : Int)] w (.int .i64 (valN 4096 (cod16 resp) : Int)) := fun w => rv16 (cod16_le resp)
  have c3 : ∀ w, Gives Tryz.prog 94 #[.int .i64 every] w (.int .i64 (cod8 every : Int)) := fun w => rCode8_any (cod8_is every) b2
  have c4 : ∀ w, Gives Tryz.prog 117 #[.int .i64 (cod8 every : Int)] w (.int .i64 (valN 16 (cod8 every) : Int)) := fun w => rv8 (cod8_le every)
  have f6 := Lib.hid (show ∀ W, Below w.heap.size w W → Gives Tryz.prog 141 #[.slice sp src.length sc] W (.bool (srcs6 src)) from fun W hb => rSrcs6_any (hA.below hb))
  clear b1 b2 hA
  generalize (valN 4096 (cod16 resp) : Int) = X at *
  generalize (valN 16 (cod8 every) : Int) = Y at *
  generalize (cod16 resp : Int) = X' at *
  generalize (cod8 every : Int) = Y' at *
  generalize srcs6 src = x3 at *
  have HRES := Lib.hid hres
  clear hres
  refine Gives.of ?_
  have hH := Hp.refl w
  go_enter Tryz.func84, Tryz.ntmps84
  by_cases hr : 0 < recs.length
  · go_wp2_with (refine st ?_; clear hH; first | intro W g hH | intro W hH)
    all_goals
      go_ret
      refine ⟨?_, hH.below⟩
      rw [← HRES.out]
      clear HRES hH f1 f2 f3 f6 c1 c2 c3 c4 oG oZ
      (try simp_all)
      all_goals first | omega | (intros; omega) | exact len_beq _ | (simp [len_beq]; done) | (simp [len_beq]; intros; omega)
  by_cases hz : zb = false ∧ gb = false
  · obtain ⟨rfl, rfl⟩ := hz
    go_wp2_with (refine st ?_; clear hH; first | intro W g hH | intro W hH)
    all_goals
      go_ret
      refine ⟨?_, hH.below⟩
      rw [← HRES.out]
      clear HRES hH f1 f2 f3 f6 c1 c2 c3 c4 oG oZ
      (try simp_all)
      all_goals first | omega | (intros; omega) | exact len_beq _ | (simp [len_beq]; done) | (simp [len_beq]; intros; omega)
  by_cases h4 : resp < 0
  · have dec_h4 : decide (0 ≤ resp) = false := decide_eq_false (by omega)
    go_wp2_with (refine st ?_; clear hH; first | intro W g hH | intro W hH)
    all_goals
      go_ret
      refine ⟨?_, hH.below⟩
      rw [← HRES.out]
      clear HRES hH f1 f2 f3 f6 c1 c2 c3 c4 oG oZ
      (try simp_all)
      all_goals first | omega | (intros; omega) | exact len_beq _ | (simp [len_beq]; done) | (simp [len_beq]; intros; omega)
  replace h4 : 0 ≤ resp := by omega
  by_cases hX : X = resp
  rotate_left
  · have dX : (X == resp) = false := by simpa using hX
    go_wp2_with (refine st ?_; clear hH; first | intro W g hH | intro W hH)
    all_goals try ((refine rq ?_; clear hH; intro W hH); go_wp2_with (first | (refine st ?_; clear hH; first | intro W g hH | intro W hH) | ((with_reducible refine callH hH ?_); refine ⟨?_, ?_, ?_⟩; rotate_left; (focus (first | (exact f6.out _ hH.below))); (clear hH; first | intro W g hH | intro W hH); ((try simp only [Act.put, pA, pB, pC])))))
    all_goals
      go_ret
      refine ⟨?_, hH.below⟩
      rw [← HRES.out]
      clear HRES hH f1 f2 f3 f6 c1 c2 c3 c4 oG oZ
      (try simp_all)
      all_goals first | omega | (intros; omega) | exact len_beq _ | (simp [len_beq]; done) | (simp [len_beq]; intros; omega)
  have dX : (X == resp) = true := by simpa using hX
  clear hX
  by_cases h5 : every < 0
  · have dec_h5 : decide (0 ≤ every) = false := decide_eq_false (by omega)
    go_wp2_with (refine st ?_; clear hH; first | intro W g hH | intro W hH)
    all_goals try ((refine rq ?_; clear hH; intro W hH); go_wp2_with (first | (refine st ?_; clear hH; first | intro W g hH | intro W hH) | ((with_reducible refine callH hH ?_); refine ⟨?_, ?_, ?_⟩; rotate_left; (focus (first | (exact f6.out _ hH.below))); (clear hH; first | intro W g hH | intro W hH); ((try simp only [Act.put, pA, pB, pC])))))
    all_goals
      go_ret
      refine ⟨?_, hH.below⟩
      rw [← HRES.out]
      clear HRES hH f1 f2 f3 f6 c1 c2 c3 c4 oG oZ
      (try simp_all)
      all_goals first | omega | (intros; omega) | exact len_beq _ | (simp [len_beq]; done) | (simp [len_beq]; intros; omega)
  replace h5 : 0 ≤ every := by omega
  by_cases hY : Y = every
  rotate_left
  · have dY : (Y == every) = false := by simpa using hY
    go_wp2_with (refine st ?_; clear hH; first | intro W g hH | intro W hH)
    all_goals try ((refine rq ?_; clear hH; intro W hH); go_wp2_with (first | (refine st ?_; clear hH; first | intro W g hH | intro W hH) | ((with_reducible refine callH hH ?_); refine ⟨?_, ?_, ?_⟩; rotate_left; (focus (first | (exact f6.out _ hH.below))); (clear hH; first | intro W g hH | intro W hH); ((try simp only [Act.put, pA, pB, pC])))))
    all_goals
      go_ret
      refine ⟨?_, hH.below⟩
      rw [← HRES.out]
      clear HRES hH f1 f2 f3 f6 c1 c2 c3 c4 oG oZ
      (try simp_all)
      all_goals first | omega | (intros; omega) | exact len_beq _ | (simp [len_beq]; done) | (simp [len_beq]; intros; omega)
  have dY : (Y == every) = true := by simpa using hY
  clear hY
  by_cases h6 : rob < 0
  · have dec_h6 : decide (0 ≤ rob) = false := decide_eq_false (by omega)
    go_wp2_with (refine st ?_; clear hH; first | intro W g hH | intro W hH)
    all_goals try ((refine rq ?_; clear hH; intro W hH); go_wp2_with (first | (refine st ?_; clear hH; first | intro W g hH | intro W hH) | ((with_reducible refine callH hH ?_); refine ⟨?_, ?_, ?_⟩; rotate_left; (focus (first | (exact f6.out _ hH.below))); (clear hH; first | intro W g hH | intro W hH); ((try simp only [Act.put, pA, pB, pC])))))
    all_goals
      go_ret
      refine ⟨?_, hH.below⟩
      rw [← HRES.out]
      clear HRES hH f1 f2 f3 f6 c1 c2 c3 c4 oG oZ
      (try simp_all)
      all_goals first | omega | (intros; omega) | exact len_beq _ | (simp [len_beq]; done) | (simp [len_beq]; intros; omega)
  replace h6 : 0 ≤ rob := by omega
  by_cases h7 : 8 ≤ rob
  · have dec_h7 : decide (rob < 8) = false := decide_eq_false (by omega)
    go_wp2_with (refine st ?_; clear hH; first | intro W g hH | intro W hH)
    all_goals try ((refine rq ?_; clear hH; intro W hH); go_wp2_with (first | (refine st ?_; clear hH; first | intro W g hH | intro W hH) | ((with_reducible refine callH hH ?_); refine ⟨?_, ?_, ?_⟩; rotate_left; (focus (first | (exact f6.out _ hH.below))); (clear hH; first | intro W g hH | intro W hH); ((try simp only [Act.put, pA, pB, pC])))))
    all_goals
      go_ret
      refine ⟨?_, hH.below⟩
      rw [← HRES.out]
      clear HRES hH f1 f2 f3 f6 c1 c2 c3 c4 oG oZ
      (try simp_all)
      all_goals first | omega | (intros; omega) | exact len_beq _ | (simp [len_beq]; done) | (simp [len_beq]; intros; omega)
  replace h7 : rob < 8 := by omega
  cases x3
  · go_wp2_with (refine st ?_; clear hH; first | intro W g hH | intro W hH)
    all_goals try ((refine rq ?_; clear hH; intro W hH); go_wp2_with (first | (refine st ?_; clear hH; first | intro W g hH | intro W hH) | ((with_reducible refine callH hH ?_); refine ⟨?_, ?_, ?_⟩; rotate_left; (focus (first | (exact f6.out _ hH.below))); (clear hH; first | intro W g hH | intro W hH); ((try simp only [Act.put, pA, pB, pC])))))
    all_goals
      go_ret
      refine ⟨?_, hH.below⟩
      rw [← HRES.out]
      clear HRES hH f1 f2 f3 f6 c1 c2 c3 c4 oG oZ
      (try simp_all)
      all_goals first | omega | (intros; omega) | exact len_beq _ | (simp [len_beq]; done) | (simp [len_beq]; intros; omega)
  go_wp2_with (refine st ?_; clear hH; first | intro W g hH | intro W hH)
  all_goals try ((refine rq ?_; clear hH; intro W hH); go_wp2_with (first | (refine st ?_; clear hH; first | intro W g hH | intro W hH) | ((with_reducible refine callH hH ?_); refine ⟨?_, ?_, ?_⟩; rotate_left; (focus (first | (exact f6.out _ hH.below))); (clear hH; first | intro W g hH | intro W hH); ((try simp only [Act.put, pA, pB, pC])))))
  all_goals
    go_ret
    refine ⟨?_, hH.below⟩
    rw [← HRES.out]
    clear HRES hH f1 f2 f3 f6 c1 c2 c3 c4 oG oZ
    (try simp_all)
    all_goals first | omega | (intros; omega) | exact len_beq _ | (simp [len_beq]; done) | (simp [len_beq]; intros; omega)
end
end Go.Proofs.YtdnehjhijmeihaaGreat

/-
  Contracts of package mld: good, all talks; Good; Is (printed by tools/gen-vp.py).
-/
import Derived.Test.YtnobencogihbnaaGreatVc
import Derived.Test.YtnobencogihbnaaGreatRd
import Derived.Test.YtnobencogihbnaaGreatIn
namespace Go.Proofs.YtnobencogihbnaaGreat
-- %in
open Go.ChangeShapes Go.WideShapes Go.ChangeAt Go.RowKit
set_option linter.unusedVariables false
set_option linter.unusedSimpArgs false
set_option maxRecDepth 20000
attribute [local irreducible] wpList

section
variable {w : World} {sp rp : Option Addr} {sc rc : Nat} {T : Tk}
set_option maxHeartbeats 8000000 in
theorem vgood_bad {v6 quiet : Bool} {ver kind resp rob every : Int} {g : Ad} {n m : Nat} (h : v6 = false ∨ (ver ≠ 1 ∧ ver ≠ 2) ∨ (kind ≠ 1 ∧ kind ≠ 2 ∧ kind ≠ 3) ∨ (ver = 2 ∧ kind = 3)) : Gives Tryz.prog 71 #[.agg (fls [.one (.bool v6), .one (.int .i64 ver), .one (.int .i64 kind), .one (.int .i64 resp), .many (adL g) 17, .one (.bool quiet), .one (.int .i64 rob), .one (.int .i64 every), .one (.slice sp n sc), .one (.slice rp m rc)]).toArray] w (.bool false) := by
  have f1 : ∀ w, Gives Tryz.prog 102 #[.agg (fls [.many (adL g) 17]).toArray] w (.bool (zero6 g)) := fun w => vzero_any
  have f2 : ∀ w, Gives Tryz.prog 103 #[.agg (fls [.many (adL g) 17]).toArray] w (.bool (grp6 g)) := fun w => vgroup_any
  have oG := adL_ok g
  generalize adL g = G at *
  generalize zero6 g = zb at *
  generalize grp6 g = gb at *
  refine Gives.of ?_
  have hH := Hp.refl w
  have hab : zb = true ∨ zb = false := by cases zb <;> simp
  by_cases h1 : v6 = false
  · subst h1
    clear h
    rcases hab with rfl | rfl
    all_goals
      go_enter Tryz.func71, Tryz.ntmps71
      go_wp2_with (first | ((first | (refine iL tab_ok rfl ?_ rfl hH ?_; (focus (first | exact wN rfl | exact rfl)); refine ⟨_, _, rfl, rfl, ?_⟩) | (refine hBx rfl ?_ rfl hH ?_ ?_; (focus (first | exact wN rfl | exact rfl)); (focus (repeat (first | exact trivial | assumption | exact OkA.z (by kernel_rfl) (by kernel_rfl) | refine ⟨rfl, ?_⟩ | refine ⟨?_, ?_⟩)))) | ((with_reducible refine callH hH ?_); refine ⟨?_, ?_, ?_⟩; rotate_left; (focus (first | (with_reducible exact f1 _) | (with_reducible exact f2 _))))); clear hH; (first | intro W g hH | intro W hH); ((try simp only [Act.put, pA, pB, pC]))))
      go_ret
      exact ⟨rfl, hH.below⟩
  have h1 : v6 = true := by simpa using h1
  subst h1
  by_cases h2 : ver ≠ 1 ∧ ver ≠ 2
  · obtain ⟨a1, a2⟩ := h2
    have d1 : (ver == 1) = false := by simpa using a1
    have d2 : (ver == 2) = false := by simpa using a2
    clear h a1 a2
    rcases hab with rfl | rfl
    all_goals
      go_enter Tryz.func71, Tryz.ntmps71
      go_wp2_with (first | ((first | (refine iL tab_ok rfl ?_ rfl hH ?_; (focus (first | exact wN rfl | exact rfl)); refine ⟨_, _, rfl, rfl, ?_⟩) | (refine hBx rfl ?_ rfl hH ?_ ?_; (focus (first | exact wN rfl | exact rfl)); (focus (repeat (first | exact trivial | assumption | exact OkA.z (by kernel_rfl) (by kernel_rfl) | refine ⟨rfl, ?_⟩ | refine ⟨?_, ?_⟩)))) | ((with_reducible refine callH hH ?_); refine ⟨?_, ?_, ?_⟩; rotate_left; (focus (first | (with_reducible exact f1 _) | (with_reducible exact f2 _))))); clear hH; (first | intro W g hH | intro W hH); ((try simp only [Act.put, pA, pB, pC]))))
      go_ret
      exact ⟨rfl, hH.below⟩
  by_cases h3 : kind ≠ 1 ∧ kind ≠ 2 ∧ kind ≠ 3
  · obtain ⟨a1, a2, a3⟩ := h3
    have d1 : (kind == 1) = false := by simpa using a1
    have d2 : (kind == 2) = false := by simpa using a2
    have d3 : (kind == 3) = false := by simpa using a3
    clear h a1 a2 a3
    rcases (show ver = 1 ∨ ver = 2 by omega) with rfl | rfl
    all_goals
      clear h2
      rcases hab with rfl | rfl
      all_goals
        go_enter Tryz.func71, Tryz.ntmps71
        go_wp2_with (first | ((first | (refine iL tab_ok rfl ?_ rfl hH ?_; (focus (first | exact wN rfl | exact rfl)); refine ⟨_, _, rfl, rfl, ?_⟩) | (refine hBx rfl ?_ rfl hH ?_ ?_; (focus (first | exact wN rfl | exact rfl)); (focus (repeat (first | exact trivial | assumption | exact OkA.z (by kernel_rfl) (by kernel_rfl) | refine ⟨rfl, ?_⟩ | refine ⟨?_, ?_⟩)))) | ((with_reducible refine callH hH ?_); refine ⟨?_, ?_, ?_⟩; rotate_left; (focus (first | (with_reducible exact f1 _) | (with_reducible exact f2 _))))); clear hH; (first | intro W g hH | intro W hH); ((try simp only [Act.put, pA, pB, pC]))))
        go_ret
        exact ⟨rfl, hH.below⟩
  obtain ⟨rfl, rfl⟩ : ver = 2 ∧ kind = 3 := by
    rcases h with h | h | h | h
    · cases h
    · exact absurd h h2
    · exact absurd h h3
    · exact h
  clear h h2 h3
  rcases hab with rfl | rfl
  all_goals
    go_enter Tryz.func71, Tryz.ntmps71
    go_wp2_with (first | ((first | (refine iL tab_ok rfl ?_ rfl hH ?_; (focus (first | exact wN rfl | exact rfl)); refine ⟨_, _, rfl, rfl, ?_⟩) | (refine hBx rfl ?_ rfl hH ?_ ?_; (focus (first | exact wN rfl | exact rfl)); (focus (repeat (first | exact trivial | assumption | exact OkA.z (by kernel_rfl) (by kernel_rfl) | refine ⟨rfl, ?_⟩ | refine ⟨?_, ?_⟩)))) | ((with_reducible refine callH hH ?_); refine ⟨?_, ?_, ?_⟩; rotate_left; (focus (first | (with_reducible exact f1 _) | (with_reducible exact f2 _))))); clear hH; (first | intro W g hH | intro W hH); ((try simp only [Act.put, pA, pB, pC]))))
    go_ret
    exact ⟨rfl, hH.below⟩
theorem bne_notV {α : Type} [BEq α] (a b : α) : (a != b) = !(a == b) := rfl
theorem lenBV (n : Nat) : decide (0 < n) = !(n == 0) := by cases n <;> rfl
theorem lenB0 (n : Nat) : ((0 : Nat) == 0) = true := rfl
theorem zAd_bool (g : Ad) : (g == Ad.z) = (!g.v && zeroA g.b) := by
  rw [Bool.eq_iff_iff]
  unfold zeroA
  simp only [beq_iff_eq, Bool.and_eq_true, Bool.not_eq_true']
  exact ⟨fun h => by subst h; exact ⟨rfl, rfl⟩, fun h => Ad.ext2 h.1 h.2⟩
set_option maxHeartbeats 4000000 in
theorem vgood_any (hA : AdsAt w sp T.src) (hR : RcsAt w rp T.recs) : Gives Tryz.prog 71 #[.agg (fls (tkS T sp sc rp rc)).toArray] w (.bool (good6 T)) := by
  obtain ⟨v6, ver, kind, resp, g, quiet, rob, every, src, recs⟩ := T
  have hn := hA.1
  have hm := hR.1
  unfold tkS
  simp only at *
  by_cases hb : v6 = false ∨ (ver ≠ 1 ∧ ver ≠ 2) ∨ (kind ≠ 1 ∧ kind ≠ 2 ∧ kind ≠ 3) ∨ (ver = 2 ∧ kind = 3)
  · have e : good6 ⟨v6, ver, kind, resp, g, quiet, rob, every, src, recs⟩ = false := by
      unfold good6
      simp only
      rw [if_pos]
      simp only [Bool.or_eq_true, Bool.not_eq_true', decide_eq_true_eq, Bool.and_eq_true, beq_iff_eq]
      rcases hb with h | h | h | h
      · simp [h]
      · omega
      · omega
      · omega
    rw [e]
    exact vgood_bad hb
  obtain rfl : v6 = true := by simp at hb; exact hb.1
  have hv : (ver = 1 ∧ (kind = 1 ∨ kind = 2 ∨ kind = 3)) ∨ (ver = 2 ∧ (kind = 1 ∨ kind = 2)) := by
    simp only [Bool.true_eq_false, false_or] at hb
    omega
  rcases hv with ⟨rfl, rfl | rfl | rfl⟩ | ⟨rfl, rfl | rfl⟩
  · have e : good6 ⟨true, 1, 1, resp, g, quiet, rob, every, src, recs⟩ = (simpV ⟨true, 1, 1, resp, g, quiet, rob, every, src, recs⟩ && (zero6 g || grp6 g) && decide (0 ≤ resp) && decide (resp ≤ 65535)) := by
      unfold good6 simpV
      simp only [lenBV, bne_notV]
      rw [show decide (resp ≤ 65535) = decide (resp < 65536) from decide_eq_decide.2 (by omega), show decide (0 ≤ resp) = !decide (resp < 0) by rw [Bool.eq_iff_iff]; simp]
      cases quiet <;> cases (rob == 0) <;> cases (every == 0) <;> cases (src.length == 0) <;> cases (recs.length == 0) <;> cases (zero6 g) <;> cases (grp6 g) <;> cases decide (resp < 0) <;> cases decide (resp < 65536) <;> rfl
    rw [e]
    exact vgood_11 hn hm
  · have e : good6 ⟨true, 1, 2, resp, g, quiet, rob, every, src, recs⟩ = (simpV ⟨true, 1, 2, resp, g, quiet, rob, every, src, recs⟩ && grp6 g && resp == 0) := by
      unfold good6 simpV
      simp only [lenBV, bne_notV]
      cases quiet <;> cases (rob == 0) <;> cases (every == 0) <;> cases (src.length == 0) <;> cases (recs.length == 0) <;> cases (resp == 0) <;> cases (grp6 g) <;> rfl
    rw [e]
    exact vgood_12 hn hm
  · have e : good6 ⟨true, 1, 3, resp, g, quiet, rob, every, src, recs⟩ = (simpV ⟨true, 1, 3, resp, g, quiet, rob, every, src, recs⟩ && grp6 g && resp == 0) := by
      unfold good6 simpV
      simp only [lenBV, bne_notV]
      cases quiet <;> cases (rob == 0) <;> cases (every == 0) <;> cases (src.length == 0) <;> cases (recs.length == 0) <;> cases (resp == 0) <;> cases (grp6 g) <;> rfl
    rw [e]
    exact vgood_13 hn hm
  · have e : good6 ⟨true, 2, 1, resp, g, quiet, rob, every, src, recs⟩ = ((zero6 g || grp6 g) && asksV ⟨true, 2, 1, resp, g, quiet, rob, every, src, recs⟩) := by
      unfold good6 asksV ex16 ex8
      simp only [lenBV, bne_notV]
      rw [show decide (rob ≤ 7) = decide (rob < 8) from decide_eq_decide.2 (by omega), show decide (0 ≤ resp) = !decide (resp < 0) by rw [Bool.eq_iff_iff]; simp]
      cases (src.length == 0) <;> cases (recs.length == 0) <;> cases (zero6 g) <;> cases (grp6 g) <;> cases decide (resp < 0) <;> cases ((valN 4096 (cod16 resp) : Int) == resp) <;> cases decide (0 ≤ every) <;> cases ((valN 16 (cod8 every) : Int) == every) <;> cases decide (0 ≤ rob) <;> cases decide (rob < 8) <;> cases srcs6 src <;> rfl
    rw [e]
    exact vgood_21 hn hm hA
  · have e : good6 ⟨true, 2, 2, resp, g, quiet, rob, every, src, recs⟩ = (simpV ⟨true, 2, 2, resp, g, quiet, rob, every, src, []⟩ && resp == 0 && g == Ad.z && recs6 recs) := by
      unfold good6 simpV recs6
      simp only [lenBV, bne_notV, zAd_bool, List.length_nil]
      cases quiet <;> cases (rob == 0) <;> cases (every == 0) <;> cases (src.length == 0) <;> cases (resp == 0) <;> cases (!g.v && zeroA g.b) <;> cases (recs.all rcOk6) <;> cases decide (recs.length < 65) <;> cases decide (8 + recN 20 16 recs < 1401) <;> rfl
    rw [e]
    exact vgood_22 hn hm hR
theorem vGood_any (h1 : AdsAt w sp T.src) (h2 : RcsAt w rp T.recs) : Gives Tryz.prog 42 #[.agg (fls (tkS T sp sc rp rc)).toArray] w (.bool (good6 T)) := by
  have F := Lib.hid (fun W' (hb : Below w.heap.size w W') => vgood_any (T := T) (sc := sc) (rc := rc) (h1.below hb) (h2.below hb))
  refine Gives.of ?_
  have hH := Hp.refl w
  clear h1 h2
  generalize good6 T = g at *
  obtain ⟨v6, ver, kind, resp, G, quiet, rob, every, src, recs⟩ := T
  unfold tkS at *
  have oG := adL_ok G
  simp only at *
  generalize adL G = Y at *
  go_enter Tryz.func42, Tryz.ntmps42
  go_wp2_with (first | ((first | (refine iL tab_ok rfl ?_ rfl hH ?_; (focus (first | exact wN rfl | exact rfl)); refine ⟨_, _, rfl, rfl, ?_⟩) | (refine hBx rfl ?_ rfl hH ?_ ?_; (focus (first | exact wN rfl | exact rfl)); (focus (repeat (first | exact trivial | assumption | exact OkA.z (by kernel_rfl) (by kernel_rfl) | refine ⟨rfl, ?_⟩ | refine ⟨?_, ?_⟩)))) | ((with_reducible refine callH hH ?_); refine ⟨?_, ?_, ?_⟩; rotate_left; (focus (first | (exact F.out _ hH.below))))); clear hH; (first | intro W g hH | intro W hH); ((try simp only [Act.put, pA, pB, pC]))))
  go_ret
  exact ⟨rfl, hH.below⟩
end
end Go.Proofs.YtnobencogihbnaaGreat

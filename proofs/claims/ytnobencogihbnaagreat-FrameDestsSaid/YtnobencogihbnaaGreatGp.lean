/-
  Contract of package igmp: which talks are good: all of them.
-/
import Derived.Test.YtnobencogihbnaaGreatGc
import Derived.Test.YtnobencogihbnaaGreatIn
namespace Go.Proofs.YtnobencogihbnaaGreat
-- %in
open Go.ChangeShapes Go.WideShapes Go.ChangeAt Go.RowKit
set_option linter.unusedVariables false
set_option linter.unusedSimpArgs false
set_option maxRecDepth 20000
attribute [local irreducible] wpList

section
variable {w : World} {sp rp : Option Addr} {sc rc : Nat} {T : Tk}
set_option maxRecDepth 20000 in
set_option maxHeartbeats 4000000 in
theorem igood_bad {v6 quiet : Bool} {ver kind resp rob every : Int} {G : List Value} (oG : OkA G 17) {n m : Nat} (h : v6 = true ∨ (ver ≠ 1 ∧ ver ≠ 2 ∧ ver ≠ 3) ∨ (kind ≠ 1 ∧ kind ≠ 2 ∧ kind ≠ 3) ∨ (ver ≠ 2 ∧ kind = 3)) : Gives Tryz.prog 72 #[.agg (fls [.one (.bool v6), .one (.int .i64 ver), .one (.int .i64 kind), .one (.int .i64 resp), .many G 17, .one (.bool quiet), .one (.int .i64 rob), .one (.int .i64 every), .one (.slice sp n sc), .one (.slice rp m rc)]).toArray] w (.bool false) := by
  refine Gives.of ?_
  have hH := Hp.refl w
  by_cases h1 : v6 = true
  · subst h1
    clear h
    go_enter Tryz.func72, Tryz.ntmps72
    go_wp2_with (first | ((first | (refine iL tab_ok rfl ?_ rfl hH ?_; (focus (first | exact wN rfl | exact rfl)); refine ⟨_, _, rfl, rfl, ?_⟩) | (refine hBx rfl ?_ rfl hH ?_ ?_; (focus (first | exact wN rfl | exact rfl)); (focus (repeat (first | exact trivial | assumption | exact OkA.z (by kernel_rfl) (by kernel_rfl) | refine ⟨rfl, ?_⟩ | refine ⟨?_, ?_⟩))))); clear hH; (first | intro W g hH | intro W hH); ((try simp only [Act.put, pA, pB, pC]))))
    go_ret
    exact ⟨rfl, hH.below⟩
  have h1 : v6 = false := by simpa using h1
  subst h1
  by_cases h2 : ver ≠ 1 ∧ ver ≠ 2 ∧ ver ≠ 3
  · obtain ⟨a1, a2, a3⟩ := h2
    have d1 : (ver == 1) = false := by simpa using a1
    have d2 : (ver == 2) = false := by simpa using a2
    have d3 : (ver == 3) = false := by simpa using a3
    clear h a1 a2 a3
    go_enter Tryz.func72, Tryz.ntmps72
    go_wp2_with (first | ((first | (refine iL tab_ok rfl ?_ rfl hH ?_; (focus (first | exact wN rfl | exact rfl)); refine ⟨_, _, rfl, rfl, ?_⟩) | (refine hBx rfl ?_ rfl hH ?_ ?_; (focus (first | exact wN rfl | exact rfl)); (focus (repeat (first | exact trivial | assumption | exact OkA.z (by kernel_rfl) (by kernel_rfl) | refine ⟨rfl, ?_⟩ | refine ⟨?_, ?_⟩))))); clear hH; (first | intro W g hH | intro W hH); ((try simp only [Act.put, pA, pB, pC]))))
    go_ret
    exact ⟨rfl, hH.below⟩
  by_cases h3 : kind ≠ 1 ∧ kind ≠ 2 ∧ kind ≠ 3
  · obtain ⟨a1, a2, a3⟩ := h3
    have d1 : (kind == 1) = false := by simpa using a1
    have d2 : (kind == 2) = false := by simpa using a2
    have d3 : (kind == 3) = false := by simpa using a3
    clear h a1 a2 a3
    rcases (show ver = 1 ∨ ver = 2 ∨ ver = 3 by omega) with rfl | rfl | rfl
    all_goals
      clear h2
      go_enter Tryz.func72, Tryz.ntmps72
      go_wp2_with (first | ((first | (refine iL tab_ok rfl ?_ rfl hH ?_; (focus (first | exact wN rfl | exact rfl)); refine ⟨_, _, rfl, rfl, ?_⟩) | (refine hBx rfl ?_ rfl hH ?_ ?_; (focus (first | exact wN rfl | exact rfl)); (focus (repeat (first | exact trivial | assumption | exact OkA.z (by kernel_rfl) (by kernel_rfl) | refine ⟨rfl, ?_⟩ | refine ⟨?_, ?_⟩))))); clear hH; (first | intro W g hH | intro W hH); ((try simp only [Act.put, pA, pB, pC]))))
      go_ret
      exact ⟨rfl, hH.below⟩
  have h4 : ver ≠ 2 ∧ kind = 3 := by
    rcases h with h | h | h | h
    · cases h
    · exact absurd h h2
    · exact absurd h h3
    · exact h
  obtain ⟨a1, rfl⟩ := h4
  rcases (show ver = 1 ∨ ver = 3 by omega) with rfl | rfl
  all_goals
    clear h h2 h3 a1
    go_enter Tryz.func72, Tryz.ntmps72
    go_wp2_with (first | ((first | (refine iL tab_ok rfl ?_ rfl hH ?_; (focus (first | exact wN rfl | exact rfl)); refine ⟨_, _, rfl, rfl, ?_⟩) | (refine hBx rfl ?_ rfl hH ?_ ?_; (focus (first | exact wN rfl | exact rfl)); (focus (repeat (first | exact trivial | assumption | exact OkA.z (by kernel_rfl) (by kernel_rfl) | refine ⟨rfl, ?_⟩ | refine ⟨?_, ?_⟩))))); clear hH; (first | intro W g hH | intro W hH); ((try simp only [Act.put, pA, pB, pC]))))
    go_ret
    exact ⟨rfl, hH.below⟩
theorem bne_not {α : Type} [BEq α] (a b : α) : (a != b) = !(a == b) := rfl
theorem lenB (n : Nat) : decide (0 < n) = !(n == 0) := by cases n <;> rfl
set_option maxHeartbeats 4000000 in
theorem igood_any (hA : AdsAt w sp T.src) (hR : RcsAt w rp T.recs) : Gives Tryz.prog 72 #[.agg (fls (tkS T sp sc rp rc)).toArray] w (.bool (good4 T)) := by
  obtain ⟨v6, ver, kind, resp, g, quiet, rob, every, src, recs⟩ := T
  have hn := hA.1
  have hm := hR.1
  unfold tkS
  simp only at *
  by_cases hb : v6 = true ∨ (ver ≠ 1 ∧ ver ≠ 2 ∧ ver ≠ 3) ∨ (kind ≠ 1 ∧ kind ≠ 2 ∧ kind ≠ 3) ∨ (ver ≠ 2 ∧ kind = 3)
  · have e : good4 ⟨v6, ver, kind, resp, g, quiet, rob, every, src, recs⟩ = false := by
      unfold good4
      simp only
      rcases hb with rfl | hb | hb | ⟨hb, rfl⟩
      · rfl
      · rw [if_pos (by simp; omega)]
      · rw [if_pos (by simp; omega)]
      · have : (ver == 2) = false := by simpa using hb
        split
        · rfl
        split
        · rfl
        split
        · rfl
        simp [this]
    rw [e]
    exact igood_bad (adL_ok g) hb
  obtain rfl : v6 = false := by simp at hb; exact hb.1
  rcases (show ver = 1 ∨ ver = 2 ∨ ver = 3 by omega) with rfl | rfl | rfl
  · rcases (show kind = 1 ∨ kind = 2 by omega) with rfl | rfl
    · have e : good4 ⟨false, 1, 1, resp, g, quiet, rob, every, src, recs⟩ = bareV false false false false ⟨false, 1, 1, resp, g, quiet, rob, every, src, recs⟩ := by
        unfold good4 bareV
        simp only [lenB, bne_not]
        cases quiet <;> cases (rob == 0) <;> cases (every == 0) <;> cases (src.length == 0) <;> cases (recs.length == 0) <;> cases (resp == 0) <;> cases (g == Ad.z) <;> rfl
      rw [e]
      exact igood_11 (ver := 0) (kind := 0) hn hm
    · have e : good4 ⟨false, 1, 2, resp, g, quiet, rob, every, src, recs⟩ = (bareV false true false false ⟨false, 1, 2, resp, g, quiet, rob, every, src, recs⟩ && grp4 g) := by
        unfold good4 bareV
        simp only [lenB, bne_not]
        cases quiet <;> cases (rob == 0) <;> cases (every == 0) <;> cases (src.length == 0) <;> cases (recs.length == 0) <;> cases (resp == 0) <;> cases (grp4 g) <;> rfl
      rw [e]
      exact igood_12 (ver := 0) (kind := 0) hn hm
  · rcases (show kind = 1 ∨ kind = 2 ∨ kind = 3 by omega) with rfl | rfl | rfl
    · have e : good4 ⟨false, 2, 1, resp, g, quiet, rob, every, src, recs⟩ = (bareV true true false false ⟨false, 2, 1, resp, g, quiet, rob, every, src, recs⟩ && decide (1 ≤ resp) && decide (resp ≤ 255) && (g == Ad.z || grp4 g)) := by
        unfold good4 bareV
        simp only [lenB, bne_not]
        rw [show decide (1 ≤ resp) = decide (0 < resp) from decide_eq_decide.2 (by omega), show decide (resp ≤ 255) = decide (resp < 256) from decide_eq_decide.2 (by omega)]
        cases quiet <;> cases (rob == 0) <;> cases (every == 0) <;> cases (src.length == 0) <;> cases (recs.length == 0) <;> cases decide (0 < resp) <;> cases decide (resp < 256) <;> cases (g == Ad.z) <;> cases (grp4 g) <;> rfl
      rw [e]
      exact igood_21 (ver := 0) (kind := 0) hn hm
    · have e : good4 ⟨false, 2, 2, resp, g, quiet, rob, every, src, recs⟩ = (bareV false true false false ⟨false, 2, 2, resp, g, quiet, rob, every, src, recs⟩ && grp4 g) := by
        unfold good4 bareV
        simp only [lenB, bne_not]
        cases quiet <;> cases (rob == 0) <;> cases (every == 0) <;> cases (src.length == 0) <;> cases (recs.length == 0) <;> cases (resp == 0) <;> cases (grp4 g) <;> rfl
      rw [e]
      exact igood_22 (ver := 0) (kind := 0) hn hm
    · have e : good4 ⟨false, 2, 3, resp, g, quiet, rob, every, src, recs⟩ = (bareV false true false false ⟨false, 2, 3, resp, g, quiet, rob, every, src, recs⟩ && grp4 g) := by
        unfold good4 bareV
        simp only [lenB, bne_not]
        cases quiet <;> cases (rob == 0) <;> cases (every == 0) <;> cases (src.length == 0) <;> cases (recs.length == 0) <;> cases (resp == 0) <;> cases (grp4 g) <;> rfl
      rw [e]
      exact igood_23 (ver := 0) (kind := 0) hn hm
  · rcases (show kind = 1 ∨ kind = 2 by omega) with rfl | rfl
    · have e : good4 ⟨false, 3, 1, resp, g, quiet, rob, every, src, recs⟩ = (bareV true true true false ⟨false, 3, 1, resp, g, quiet, rob, every, src, recs⟩ && ex8 resp && ex8 every && decide (0 ≤ rob) && decide (rob ≤ 7) && (g == Ad.z || grp4 g) && srcs4 src && !(g == Ad.z && decide (0 < src.length))) := by
        unfold good4 bareV
        simp only [lenB, bne_not]
        rw [show decide (rob ≤ 7) = decide (rob < 8) from decide_eq_decide.2 (by omega)]
        cases (recs.length == 0) <;> cases (src.length == 0) <;> cases ex8 resp <;> cases ex8 every <;> cases decide (0 ≤ rob) <;> cases decide (rob < 8) <;> cases srcs4 src <;> cases (g == Ad.z) <;> cases (grp4 g) <;> rfl
      rw [e]
      exact igood_31 (ver := 0) (kind := 0) hn hm hA
    · have e : good4 ⟨false, 3, 2, resp, g, quiet, rob, every, src, recs⟩ = (bareV false false false true ⟨false, 3, 2, resp, g, quiet, rob, every, src, recs⟩ && recs4 recs) := by
        unfold good4 bareV recs4
        simp only [lenB, bne_not]
        cases quiet <;> cases (rob == 0) <;> cases (every == 0) <;> cases (src.length == 0) <;> cases (resp == 0) <;> cases (g == Ad.z) <;> cases (recs.length == 0) <;> cases (recs.all rcOk4) <;> cases decide (recs.length < 65) <;> cases decide (8 + recN 8 4 recs < 1401) <;> rfl
      rw [e]
      exact igood_32 (ver := 0) (kind := 0) hn hm hR
end
end Go.Proofs.YtnobencogihbnaaGreat

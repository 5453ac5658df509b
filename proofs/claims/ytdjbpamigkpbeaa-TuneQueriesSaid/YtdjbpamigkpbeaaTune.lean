/-
  Contracts of package tune and of its reference, as far as tunes alone are asked.
-/
import Derived.Test.YtdjbpamigkpbeaaRows
import Derived.Test.YtdjbpamigkpbeaaKit
namespace Go.Proofs.Ytdjbpamigkpbeaa
open Go.ChangeShapes Go.WideShapes Go.ChangeAt Go.RowKit
set_option linter.unusedVariables false
set_option linter.unusedSimpArgs false

def inB (a b c : Int) : Bool := decide (b ≤ a) && decide (a ≤ c)
theorem in_any {a b c : Int} {w : World} : Gives Try.prog 27 #[.int .i64 a, .int .i64 b, .int .i64 c] w (.bool (inB a b c)) := by
  refine Gives.of ?_
  by_cases h1 : b ≤ a
  · go_enter Try.func27, Try.ntmps27
    go_wp2
    go_ret
    exact ⟨by simp [inB, h1], by simp⟩
  · go_enter Try.func27, Try.ntmps27
    go_wp2
    go_ret
    exact ⟨by simp [inB]; omega, by simp⟩

def tGood (r e p l c : Int) : Bool := inB r 1 7 && (inB c 1 7 && (inB e 1 317440 && (inB p 1 (if 31744 < e then 31744 else e) && inB l 1 31744)))
theorem tGood_iff {r e p l c : Int} : tGood r e p l c = true ↔ (1 ≤ r ∧ r ≤ 7 ∧ 1 ≤ c ∧ c ≤ 7 ∧ 1 ≤ e ∧ e ≤ 317440 ∧ 1 ≤ p ∧ p ≤ 31744 ∧ p ≤ e ∧ 1 ≤ l ∧ l ≤ 31744) := by
  simp [tGood, inB]
  omega

section
variable {r e p l c : Int} {w : World}
set_option maxHeartbeats 400000 in
theorem good_any : Gives Try.prog 7 #[.agg #[.int .i64 r, .int .i64 e, .int .i64 p, .int .i64 l, .int .i64 c]] w (.bool (tGood r e p l c)) := by
  refine Gives.of ?_
  go_enter Try.func7, Try.ntmps7
  go_wp2_with ((with_reducible (first | apply Gives.call_bw (Nat.le_refl _) | apply Gives.call)); (focus (first | (with_reducible exact in_any))); intro x; (try dsimp only [drew_heap] at x))
  all_goals go_ret
  all_goals refine ⟨congrArg (fun b => Ending.returned (.bool b)) ?_, by simp⟩
  all_goals (rw [Bool.eq_iff_iff]; simp [tGood, inB] at *; omega)

theorem rgood_any : Gives Try.prog 8 #[.agg #[.int .i64 r, .int .i64 e, .int .i64 p, .int .i64 l, .int .i64 c]] w (.bool (tGood r e p l c)) := by
  refine Gives.of ?_
  go_enter Try.func8, Try.ntmps8
  go_wp2
  all_goals go_ret
  all_goals refine ⟨congrArg (fun b => Ending.returned (.bool b)) ?_, by simp⟩
  all_goals (rw [Bool.eq_iff_iff]; simp [tGood, inB] at *; try omega)

theorem member_any : Gives Try.prog 11 #[.agg #[.int .i64 r, .int .i64 e, .int .i64 p, .int .i64 l, .int .i64 c]] w (.int .i64 (wrap64 (wrap64 (r * e) + p))) := by
  refine Gives.of ?_
  go_enter Try.func11, Try.ntmps11
  go_wp2
  go_ret
  exact ⟨rfl, by simp⟩
theorem older_any : Gives Try.prog 15 #[.agg #[.int .i64 r, .int .i64 e, .int .i64 p, .int .i64 l, .int .i64 c]] w (.int .i64 (wrap64 (wrap64 (r * e) + p))) := by
  refine Gives.of ?_
  go_enter Try.func15, Try.ntmps15
  go_wp2
  go_ret
  exact ⟨rfl, by simp⟩
theorem rmember_any : Gives Try.prog 12 #[.agg #[.int .i64 r, .int .i64 e, .int .i64 p, .int .i64 l, .int .i64 c]] w (.int .i64 (wrap64 (wrap64 (r * e) + p))) := by
  refine Gives.of ?_
  go_enter Try.func12, Try.ntmps12
  go_wp2
  go_ret
  exact ⟨rfl, by simp⟩
theorem other_any : Gives Try.prog 13 #[.agg #[.int .i64 r, .int .i64 e, .int .i64 p, .int .i64 l, .int .i64 c]] w (.int .i64 (wrap64 (wrap64 (r * e) + wrap64 (p.tdiv 2)))) := by
  refine Gives.of ?_
  go_enter Try.func13, Try.ntmps13
  go_wp2
  go_ret
  exact ⟨rfl, by simp⟩
theorem rother_any : Gives Try.prog 14 #[.agg #[.int .i64 r, .int .i64 e, .int .i64 p, .int .i64 l, .int .i64 c]] w (.int .i64 (wrap64 (wrap64 (r * e) + wrap64 (p.tdiv 2)))) := by
  refine Gives.of ?_
  go_enter Try.func14, Try.ntmps14
  go_wp2
  go_ret
  exact ⟨rfl, by simp⟩
theorem final_any : Gives Try.prog 17 #[.agg #[.int .i64 r, .int .i64 e, .int .i64 p, .int .i64 l, .int .i64 c]] w (.int .i64 (wrap64 (l * c))) := by
  refine Gives.of ?_
  go_enter Try.func17, Try.ntmps17
  go_wp2
  go_ret
  exact ⟨rfl, by simp⟩
theorem rfinal_any : Gives Try.prog 18 #[.agg #[.int .i64 r, .int .i64 e, .int .i64 p, .int .i64 l, .int .i64 c]] w (.int .i64 (wrap64 (l * c))) := by
  refine Gives.of ?_
  go_enter Try.func18, Try.ntmps18
  go_wp2
  go_ret
  exact ⟨rfl, by simp⟩
theorem startup_any : Gives Try.prog 10 #[.agg #[.int .i64 r, .int .i64 e, .int .i64 p, .int .i64 l, .int .i64 c]] w (.tuple #[.int .i64 (max (wrap64 (e.tdiv 4)) 1), .int .i64 r]) := by
  refine Gives.of ?_
  go_enter Try.func10, Try.ntmps10
  go_wp2
  go_quiet (fail)
  go_wp2
  all_goals go_ret2
  all_goals exact ⟨by simp; omega, by simp⟩
theorem gap_any : Gives Try.prog 16 #[.agg #[.int .i64 r, .int .i64 e, .int .i64 p, .int .i64 l, .int .i64 c]] w (.int .i64 (max (wrap64 (e.tdiv 4)) 1)) := by
  refine Gives.of ?_
  go_enter Try.func16, Try.ntmps16
  go_wp2
  all_goals go_ret
  all_goals exact ⟨by simp; omega, by simp⟩
theorem usual_any : Gives Try.prog 28 #[] w (.agg #[.int .i64 2, .int .i64 1250, .int .i64 100, .int .i64 10, .int .i64 2]) := by
  refine Gives.of ?_
  go_enter Try.func28, Try.ntmps28
  go_wp2
  exact bodyPost_ret (v := .agg #[.int .i64 2, .int .i64 1250, .int .i64 100, .int .i64 10, .int .i64 2]) (by simp [results, Try.results28, go_sem]) rfl ⟨rfl, by simp⟩
end

attribute [local go_sem] wrap64_lit
set_option maxHeartbeats 1000000 in
theorem lives14_any {w : World} : Gives Try.prog 9 #[] w (.bool true) := by
  refine Gives.of ?_
  have e1 : tGood 2 1250 100 10 2 = true := by decide
  go_enter Try.func9, Try.ntmps9
  go_wp2_with ((with_reducible (first | apply Gives.call_bw (Nat.le_refl _) | apply Gives.call)); (focus (first | (with_reducible exact usual_any) | (with_reducible exact startup_any) | (with_reducible exact good_any) | (with_reducible exact member_any) | (with_reducible exact other_any) | (with_reducible exact older_any) | (with_reducible exact final_any))); intro x; (try dsimp only [drew_heap] at x))
  go_ret
  refine ⟨rfl, ?_⟩
  exact below_bw _ ((below_bw _ (Below.refl _ _) (Nat.le_refl _)).alloc (by simp) _) (by simp)

end Go.Proofs.Ytdjbpamigkpbeaa

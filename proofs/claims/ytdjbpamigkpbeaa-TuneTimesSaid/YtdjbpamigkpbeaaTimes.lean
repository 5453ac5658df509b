/-
  'TuneTimes': whether any tune is good, and how long everything lasts by a good one. For every tune.
-/
import Derived.Test.YtdjbpamigkpbeaaTune
namespace Go.Proofs.Ytdjbpamigkpbeaa.times
open Go.ChangeShapes Go.WideShapes Go.ChangeAt Go.RowKit
set_option linter.unusedVariables false
set_option linter.unusedSimpArgs false

theorem own : ownKnob Try.prog.godebug = none := by kernel_rfl

set_option maxHeartbeats 1000000 in
theorem walk {r e p l c : Int} {w : World} : Gives Try.prog 3 #[.agg #[.int .i64 r, .int .i64 e, .int .i64 p, .int .i64 l, .int .i64 c]] w (.bool true) := by
  refine Gives.of ?_
  cases hg : tGood r e p l c
  · go_enter Try.func3, Try.ntmps3
    go_wp2_with fail
    ((with_reducible first | refine wp_region_bx (Nat.le_refl _) (by kernel_rfl) (by kernel_rfl) ?_ | refine wp_region_bw (by kernel_rfl) (by kernel_rfl) ?_); (repeat (go_big_quiet_step (((with_reducible apply Gives.bw (Nat.le_refl _)); first | (with_reducible exact good_any) | (with_reducible exact rgood_any))))); refine wpQuiet_nil ?_; rintro _ ⟨x, rfl⟩)
    go_wp2_with ((with_reducible (first | apply Gives.call_bw (Nat.le_refl _) | apply Gives.call)); (focus (first | (with_reducible exact rgood_any) | (with_reducible exact lives14_any))); intro x)
    go_ret
    exact ⟨rfl, by (first | (simp; done) | (repeat (first | exact Below.refl _ _ | refine below_bw _ ?_ (by simp; done) | refine Below.alloc ?_ (by simp; done) _ | refine Below.setCell ?_ (by simp; done) _ | refine Below.drew ?_ | refine below_drewN ?_ _)))⟩
  · have hle : wrap64 (wrap64 (r * e) + wrap64 (p.tdiv 2)) ≤ wrap64 (wrap64 (r * e) + p) := by
      rw [tGood_iff] at hg
      obtain ⟨h1, h2, h3, h4, h5, h6, h7, h8, h9, h10, h11⟩ := hg
      have hd : p.tdiv 2 = p / 2 := Int.tdiv_eq_ediv_of_nonneg (by omega)
      have hr : r = 1 ∨ r = 2 ∨ r = 3 ∨ r = 4 ∨ r = 5 ∨ r = 6 ∨ r = 7 := by omega
      have hm : 0 ≤ r * e ∧ r * e ≤ 2222080 := by rcases hr with rfl | rfl | rfl | rfl | rfl | rfl | rfl <;> omega
      rw [hd]
      generalize r * e = m at *
      rw [wrap64_lit (n := m) (by omega) (by omega), wrap64_lit (n := p / 2) (by omega) (by omega), wrap64_lit (n := m + p / 2) (by omega) (by omega), wrap64_lit (n := m + p) (by omega) (by omega)]
      omega
    go_enter Try.func3, Try.ntmps3
    go_wp2_with fail
    ((with_reducible first | refine wp_region_bx (Nat.le_refl _) (by kernel_rfl) (by kernel_rfl) ?_ | refine wp_region_bw (by kernel_rfl) (by kernel_rfl) ?_); (repeat (go_big_quiet_step (((with_reducible apply Gives.bw (Nat.le_refl _)); first | (with_reducible exact good_any) | (with_reducible exact rgood_any))))); refine wpQuiet_nil ?_; rintro _ ⟨x, rfl⟩)
    go_wp2_with ((with_reducible (first | apply Gives.call_bw (Nat.le_refl _) | apply Gives.call)); (focus (first | (with_reducible exact rgood_any) | (with_reducible exact startup_any))); intro x)
    ((with_reducible first | refine wp_region_bx (Nat.le_refl _) (by kernel_rfl) (by kernel_rfl) ?_ | refine wp_region_bw (by kernel_rfl) (by kernel_rfl) ?_); (repeat (go_big_quiet_step (((with_reducible apply Gives.bw (Nat.le_refl _)); first | (with_reducible exact member_any) | (with_reducible exact rmember_any) | (with_reducible exact other_any) | (with_reducible exact rother_any) | (with_reducible exact older_any) | (with_reducible exact gap_any) | (with_reducible exact final_any) | (with_reducible exact rfinal_any) | (with_reducible exact lives14_any))))); refine wpQuiet_nil ?_; rintro _ ⟨x, rfl⟩)
    go_wp2
    go_ret
    exact ⟨rfl, by (first | (simp; done) | (repeat (first | exact Below.refl _ _ | refine below_bw _ ?_ (by simp; done) | refine Below.alloc ?_ (by simp; done) _ | refine Below.setCell ?_ (by simp; done) _ | refine Below.drew ?_ | refine below_drewN ?_ _)))⟩

theorem lifted (os : Os) (started : os.Started) (H : Type) (enc : TypeId × Value → H) :
    ReturnsInHanded {} Try.checked os 3 .any (Rows.tuneTimesSpec.pre6 enc Try.prog Try.f3 Rows.tuneTimesRow.domain false) (Rows.tuneTimesSpec.post enc Try.prog Try.f3 false true false false) := by
  refine lifted_of_walk (C := Try.checked) (tb := 4) own started (by kernel_rfl) Try.func3
    (ChangeSpec.witness6 (enc := enc) (C := Try.checked) false ⟨#[], #[.agg #[.int .i64 0, .int .i64 0, .int .i64 0, .int .i64 0, .int .i64 0]], []⟩ 8 (by kernel_rfl) (by kernel_rfl) (by kernel_rfl) (by kernel_rfl))
    (by kernel_rfl) Try.underlying4 (by kernel_rfl) (by kernel_rfl) rfl ?_ ?_
  · intro ds hl
    match ds, hl with
    | [d], _ => exact ⟨rfl, rfl, rfl⟩
  · intro W base args ds ps hval hA hfz
    have hA' : DataW.TrodAll enc Try.prog W 0 (fun _ => true) true Try.f3.params.toList args.toList ds ps := hA
    rw [Try.params3] at hA'
    obtain ⟨v0, d0, rfl, rfl, h0⟩ := trodAll_one hA'
    obtain ⟨cs, rfl, hc⟩ := open_agg_struct (ts := [3, 3, 3, 3, 3]) Try.underlying23 (by kernel_rfl) (by kernel_rfl) (hval 0 23 v0 rfl rfl)
    obtain ⟨r, cs, rfl, hr, hc⟩ := cellsAll_cons hc
    obtain ⟨e, cs, rfl, he, hc⟩ := cellsAll_cons hc
    obtain ⟨p, cs, rfl, hp, hc⟩ := cellsAll_cons hc
    obtain ⟨l, cs, rfl, hl, hc⟩ := cellsAll_cons hc
    obtain ⟨c, cs, rfl, hcc, hc⟩ := cellsAll_cons hc
    obtain rfl := cellsAll_nil hc
    obtain ⟨r, rfl, _⟩ := cell_i64 Try.underlying3 hr
    obtain ⟨e, rfl, _⟩ := cell_i64 Try.underlying3 he
    obtain ⟨p, rfl, _⟩ := cell_i64 Try.underlying3 hp
    obtain ⟨l, rfl, _⟩ := cell_i64 Try.underlying3 hl
    obtain ⟨c, rfl, _⟩ := cell_i64 Try.underlying3 hcc
    exact walk

theorem proved : Rows.TuneTimesSaid :=
  OpenClaim.holds_of_wide 3 Try.f3 rfl rfl rfl rfl rfl rfl rfl ⟨rfl, rfl, rfl, rfl, rfl⟩ rfl rfl rfl rfl rfl (by kernel_rfl) Try.func3 (by kernel_rfl)
    (of_decide_eq_true (by kernel_rfl)) (by unfold Func.isWrapper; first | (rw [if_pos (by decide +kernel)]; kernel_rfl) | (rw [if_neg (by decide +kernel)]; exact ⟨rfl, rfl⟩))
    (fun os started H enc _ => lifted os started H enc)
end Go.Proofs.Ytdjbpamigkpbeaa.times

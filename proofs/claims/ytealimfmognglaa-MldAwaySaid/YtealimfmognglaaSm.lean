/-
  Contract of acequiaref08.Same: whether two talks are one (printed by tools/gen-sm.py).
-/
import Derived.Test.YtealimfmognglaaTs
import Derived.Test.YtealimfmognglaaIn
namespace Go.Proofs.Ytealimfmognglaa
-- %in
open Go.ChangeShapes Go.WideShapes Go.ChangeAt Go.RowKit
set_option linter.unusedVariables false
set_option linter.unusedSimpArgs false
set_option maxRecDepth 20000
attribute [local irreducible] wpList

noncomputable def sameT (A B : Tk) : Bool := @decide (A = B) (Classical.propDecidable _)
theorem sameT_self (A : Tk) : sameT A A = true := by unfold sameT; exact @decide_eq_true _ (Classical.propDecidable _) rfl
theorem sameT_yes {A B : Tk} (h : A = B) : sameT A B = true := by subst h; exact sameT_self A
theorem sameT_no {A B : Tk} (h : A ≠ B) : sameT A B = false := by unfold sameT; exact @decide_eq_false _ (Classical.propDecidable _) h
section
variable {w : World} {sp rp sp' rp' : Option Addr} {sc rc sc' rc' : Nat}
set_option maxRecDepth 20000 in
set_option maxHeartbeats 4000000 in
theorem same_any {A B : Tk} (hS : AdsAt w sp A.src) (hR : RcsAt w rp A.recs) (hS' : AdsAt w sp' B.src) (hR' : RcsAt w rp' B.recs) : Gives Try.prog 13 #[.agg (fls (tkS A sp sc rp rc)).toArray, .agg (fls (tkS B sp' sc' rp' rc')).toArray] w (.bool (sameT A B)) := by
  have h1 := hS.1
  have h2 := hR.1
  have h3 := hS'.1
  have h4 := hR'.1
  have f1 := Lib.hid (show ∀ W, Below w.heap.size w W → Gives Try.prog 44 #[.slice sp A.src.length sc, .slice sp' B.src.length sc'] W (.bool (decide (A.src = B.src))) from fun W hb => sameAds_any (hS.below hb) (hS'.below hb))
  have f2 := Lib.hid (show ∀ W, Below w.heap.size w W → Gives Try.prog 45 #[.slice rp A.recs.length rc, .slice rp' B.recs.length rc'] W (.bool (decide (A.recs = B.recs))) from fun W hb => sameRcs_any (hR.below hb) (hR'.below hb))
  clear hS hR hS' hR'
  obtain ⟨res, hres⟩ : ∃ r, sameT A B = r := ⟨_, rfl⟩
  rw [hres]
  have HN := Lib.hid (show A ≠ B → res = false from fun h => hres ▸ sameT_no h)
  have HY := Lib.hid (show A = B → res = true from fun h => hres ▸ sameT_yes h)
  clear hres
  obtain ⟨v6, ver, kind, resp, g, quiet, rob, every, src, recs⟩ := A
  obtain ⟨v6', ver', kind', resp', g', quiet', rob', every', src', recs'⟩ := B
  simp only [tkS] at *
  have fE := ad_neq g g'
  have oG := adL_ok g
  have oG' := adL_ok g'
  refine Gives.of ?_
  have hH := Hp.refl w
  go_enter Try.func13, Try.ntmps13
  by_cases h_v6 : v6 = v6'
  rotate_left
  · have e : res = false := HN.out (fun e => h_v6 (congrArg Tk.v6 e))
    have d_v6 : (v6 != v6') = true := by simpa using h_v6
    subst e
    clear HN HY f1 f2 d_v6
    cases v6 <;> cases v6'
    · exact absurd rfl h_v6
    · clear h_v6
      go_wp2_with (first | ((first | (refine iL tab_ok rfl ?_ rfl hH ?_; (focus (first | exact wN rfl | exact rfl)); refine ⟨_, _, rfl, rfl, ?_⟩) | (refine hBx rfl ?_ rfl hH ?_ ?_; (focus (first | exact wN rfl | exact rfl)); (focus (repeat (first | exact trivial | assumption | exact OkA.z (by kernel_rfl) (by kernel_rfl) | refine ⟨rfl, ?_⟩ | refine ⟨?_, ?_⟩))))); clear hH; (first | intro W g hH | intro W hH); ((try simp only [Act.put, pA, pB, pC]))))
      go_ret
      exact ⟨rfl, hH.below⟩
    · clear h_v6
      go_wp2_with (first | ((first | (refine iL tab_ok rfl ?_ rfl hH ?_; (focus (first | exact wN rfl | exact rfl)); refine ⟨_, _, rfl, rfl, ?_⟩) | (refine hBx rfl ?_ rfl hH ?_ ?_; (focus (first | exact wN rfl | exact rfl)); (focus (repeat (first | exact trivial | assumption | exact OkA.z (by kernel_rfl) (by kernel_rfl) | refine ⟨rfl, ?_⟩ | refine ⟨?_, ?_⟩))))); clear hH; (first | intro W g hH | intro W hH); ((try simp only [Act.put, pA, pB, pC]))))
      go_ret
      exact ⟨rfl, hH.below⟩
    · exact absurd rfl h_v6
  subst h_v6
  by_cases h_ver : ver = ver'
  rotate_left
  · have e : res = false := HN.out (fun e => h_ver (congrArg Tk.ver e))
    have d_ver : (ver != ver') = true := by simpa using h_ver
    clear h_ver
    subst e
    clear HN HY f1 f2
    go_wp2_with (first | ((first | (refine iL tab_ok rfl ?_ rfl hH ?_; (focus (first | exact wN rfl | exact rfl)); refine ⟨_, _, rfl, rfl, ?_⟩) | (refine hBx rfl ?_ rfl hH ?_ ?_; (focus (first | exact wN rfl | exact rfl)); (focus (repeat (first | exact trivial | assumption | exact OkA.z (by kernel_rfl) (by kernel_rfl) | refine ⟨rfl, ?_⟩ | refine ⟨?_, ?_⟩))))); clear hH; (first | intro W g hH | intro W hH); ((try simp only [Act.put, pA, pB, pC]))))
    all_goals
      go_ret
      exact ⟨rfl, hH.below⟩
  subst h_ver
  by_cases h_kind : kind = kind'
  rotate_left
  · have e : res = false := HN.out (fun e => h_kind (congrArg Tk.kind e))
    have d_kind : (kind != kind') = true := by simpa using h_kind
    clear h_kind
    subst e
    clear HN HY f1 f2
    go_wp2_with (first | ((first | (refine iL tab_ok rfl ?_ rfl hH ?_; (focus (first | exact wN rfl | exact rfl)); refine ⟨_, _, rfl, rfl, ?_⟩) | (refine hBx rfl ?_ rfl hH ?_ ?_; (focus (first | exact wN rfl | exact rfl)); (focus (repeat (first | exact trivial | assumption | exact OkA.z (by kernel_rfl) (by kernel_rfl) | refine ⟨rfl, ?_⟩ | refine ⟨?_, ?_⟩))))); clear hH; (first | intro W g hH | intro W hH); ((try simp only [Act.put, pA, pB, pC]))))
    all_goals
      go_ret
      exact ⟨rfl, hH.below⟩
  subst h_kind
  by_cases h_resp : resp = resp'
  rotate_left
  · have e : res = false := HN.out (fun e => h_resp (congrArg Tk.resp e))
    have d_resp : (resp != resp') = true := by simpa using h_resp
    clear h_resp
    subst e
    clear HN HY f1 f2
    go_wp2_with (first | ((first | (refine iL tab_ok rfl ?_ rfl hH ?_; (focus (first | exact wN rfl | exact rfl)); refine ⟨_, _, rfl, rfl, ?_⟩) | (refine hBx rfl ?_ rfl hH ?_ ?_; (focus (first | exact wN rfl | exact rfl)); (focus (repeat (first | exact trivial | assumption | exact OkA.z (by kernel_rfl) (by kernel_rfl) | refine ⟨rfl, ?_⟩ | refine ⟨?_, ?_⟩))))); clear hH; (first | intro W g hH | intro W hH); ((try simp only [Act.put, pA, pB, pC]))))
    all_goals
      go_ret
      exact ⟨rfl, hH.below⟩
  subst h_resp
  by_cases h_g : g = g'
  rotate_left
  · have e : res = false := HN.out (fun e => h_g (congrArg Tk.grp e))
    have d_g : (g != g') = true := by simpa using h_g
    rw [d_g] at fE
    clear h_g d_g
    generalize adL g = G at *
    generalize adL g' = G' at *
    subst e
    clear HN HY f1 f2
    go_wp2_with (first | ((first | (refine iL tab_ok rfl ?_ rfl hH ?_; (focus (first | exact wN rfl | exact rfl)); refine ⟨_, _, rfl, rfl, ?_⟩) | (refine hBx rfl ?_ rfl hH ?_ ?_; (focus (first | exact wN rfl | exact rfl)); (focus (repeat (first | exact trivial | assumption | exact OkA.z (by kernel_rfl) (by kernel_rfl) | refine ⟨rfl, ?_⟩ | refine ⟨?_, ?_⟩))))); clear hH; (first | intro W g hH | intro W hH); ((try simp only [Act.put, pA, pB, pC]))))
    all_goals
      go_ret
      exact ⟨rfl, hH.below⟩
  subst h_g
  have d_g : (g != g) = false := by simp
  rw [d_g] at fE
  clear d_g
  generalize adL g = G at *
  by_cases h_quiet : quiet = quiet'
  rotate_left
  · have e : res = false := HN.out (fun e => h_quiet (congrArg Tk.quiet e))
    have d_quiet : (quiet != quiet') = true := by simpa using h_quiet
    subst e
    clear HN HY f1 f2 d_quiet
    cases quiet <;> cases quiet'
    · exact absurd rfl h_quiet
    · clear h_quiet
      go_wp2_with (first | ((first | (refine iL tab_ok rfl ?_ rfl hH ?_; (focus (first | exact wN rfl | exact rfl)); refine ⟨_, _, rfl, rfl, ?_⟩) | (refine hBx rfl ?_ rfl hH ?_ ?_; (focus (first | exact wN rfl | exact rfl)); (focus (repeat (first | exact trivial | assumption | exact OkA.z (by kernel_rfl) (by kernel_rfl) | refine ⟨rfl, ?_⟩ | refine ⟨?_, ?_⟩))))); clear hH; (first | intro W g hH | intro W hH); ((try simp only [Act.put, pA, pB, pC]))))
      go_ret
      exact ⟨rfl, hH.below⟩
    · clear h_quiet
      go_wp2_with (first | ((first | (refine iL tab_ok rfl ?_ rfl hH ?_; (focus (first | exact wN rfl | exact rfl)); refine ⟨_, _, rfl, rfl, ?_⟩) | (refine hBx rfl ?_ rfl hH ?_ ?_; (focus (first | exact wN rfl | exact rfl)); (focus (repeat (first | exact trivial | assumption | exact OkA.z (by kernel_rfl) (by kernel_rfl) | refine ⟨rfl, ?_⟩ | refine ⟨?_, ?_⟩))))); clear hH; (first | intro W g hH | intro W hH); ((try simp only [Act.put, pA, pB, pC]))))
      go_ret
      exact ⟨rfl, hH.below⟩
    · exact absurd rfl h_quiet
  subst h_quiet
  by_cases h_rob : rob = rob'
  rotate_left
  · have e : res = false := HN.out (fun e => h_rob (congrArg Tk.rob e))
    have d_rob : (rob != rob') = true := by simpa using h_rob
    clear h_rob
    subst e
    clear HN HY f1 f2
    go_wp2_with (first | ((first | (refine iL tab_ok rfl ?_ rfl hH ?_; (focus (first | exact wN rfl | exact rfl)); refine ⟨_, _, rfl, rfl, ?_⟩) | (refine hBx rfl ?_ rfl hH ?_ ?_; (focus (first | exact wN rfl | exact rfl)); (focus (repeat (first | exact trivial | assumption | exact OkA.z (by kernel_rfl) (by kernel_rfl) | refine ⟨rfl, ?_⟩ | refine ⟨?_, ?_⟩))))); clear hH; (first | intro W g hH | intro W hH); ((try simp only [Act.put, pA, pB, pC]))))
    all_goals
      go_ret
      exact ⟨rfl, hH.below⟩
  subst h_rob
  by_cases h_every : every = every'
  rotate_left
  · have e : res = false := HN.out (fun e => h_every (congrArg Tk.every e))
    have d_every : (every != every') = true := by simpa using h_every
    clear h_every
    subst e
    clear HN HY f1 f2
    go_wp2_with (first | ((first | (refine iL tab_ok rfl ?_ rfl hH ?_; (focus (first | exact wN rfl | exact rfl)); refine ⟨_, _, rfl, rfl, ?_⟩) | (refine hBx rfl ?_ rfl hH ?_ ?_; (focus (first | exact wN rfl | exact rfl)); (focus (repeat (first | exact trivial | assumption | exact OkA.z (by kernel_rfl) (by kernel_rfl) | refine ⟨rfl, ?_⟩ | refine ⟨?_, ?_⟩))))); clear hH; (first | intro W g hH | intro W hH); ((try simp only [Act.put, pA, pB, pC]))))
    all_goals
      go_ret
      exact ⟨rfl, hH.below⟩
  subst h_every
  by_cases hs : src = src'
  rotate_left
  · have e : res = false := HN.out (fun e => hs (congrArg Tk.src e))
    subst e
    have d : decide (src = src') = false := decide_eq_false hs
    rw [d] at f1
    clear HN HY f2 d hs
    generalize src.length = n at *
    generalize src'.length = n' at *
    go_wp2_with (first | ((first | (refine iL tab_ok rfl ?_ rfl hH ?_; (focus (first | exact wN rfl | exact rfl)); refine ⟨_, _, rfl, rfl, ?_⟩) | (refine hBx rfl ?_ rfl hH ?_ ?_; (focus (first | exact wN rfl | exact rfl)); (focus (repeat (first | exact trivial | assumption | exact OkA.z (by kernel_rfl) (by kernel_rfl) | refine ⟨rfl, ?_⟩ | refine ⟨?_, ?_⟩)))) | ((with_reducible refine callH hH ?_); refine ⟨?_, ?_, ?_⟩; rotate_left; (focus (first | (exact f1.out _ hH.below))))); clear hH; (first | intro W g hH | intro W hH); ((try simp only [Act.put, pA, pB, pC]))))
    all_goals
      go_ret
      exact ⟨rfl, hH.below⟩
  have d : decide (src = src') = true := decide_eq_true hs
  rw [d] at f1
  by_cases hr : recs = recs'
  · have e : res = true := HY.out (by rw [hs, hr])
    subst e
    have d2 : decide (recs = recs') = true := decide_eq_true hr
    rw [d2] at f2
    clear HN HY d hs d2 hr
    generalize src.length = n at *
    generalize src'.length = n' at *
    generalize recs.length = m at *
    generalize recs'.length = m' at *
    go_wp2_with (first | ((first | (refine iL tab_ok rfl ?_ rfl hH ?_; (focus (first | exact wN rfl | exact rfl)); refine ⟨_, _, rfl, rfl, ?_⟩) | (refine hBx rfl ?_ rfl hH ?_ ?_; (focus (first | exact wN rfl | exact rfl)); (focus (repeat (first | exact trivial | assumption | exact OkA.z (by kernel_rfl) (by kernel_rfl) | refine ⟨rfl, ?_⟩ | refine ⟨?_, ?_⟩)))) | ((with_reducible refine callH hH ?_); refine ⟨?_, ?_, ?_⟩; rotate_left; (focus (first | (exact f1.out _ hH.below) | (exact f2.out _ hH.below))))); clear hH; (first | intro W g hH | intro W hH); ((try simp only [Act.put, pA, pB, pC]))))
    all_goals
      go_ret
      exact ⟨rfl, hH.below⟩
  · have e : res = false := HN.out (fun e => hr (congrArg Tk.recs e))
    subst e
    have d2 : decide (recs = recs') = false := decide_eq_false hr
    rw [d2] at f2
    clear HN HY d hs d2 hr
    generalize src.length = n at *
    generalize src'.length = n' at *
    generalize recs.length = m at *
    generalize recs'.length = m' at *
    go_wp2_with (first | ((first | (refine iL tab_ok rfl ?_ rfl hH ?_; (focus (first | exact wN rfl | exact rfl)); refine ⟨_, _, rfl, rfl, ?_⟩) | (refine hBx rfl ?_ rfl hH ?_ ?_; (focus (first | exact wN rfl | exact rfl)); (focus (repeat (first | exact trivial | assumption | exact OkA.z (by kernel_rfl) (by kernel_rfl) | refine ⟨rfl, ?_⟩ | refine ⟨?_, ?_⟩)))) | ((with_reducible refine callH hH ?_); refine ⟨?_, ?_, ?_⟩; rotate_left; (focus (first | (exact f1.out _ hH.below) | (exact f2.out _ hH.below))))); clear hH; (first | intro W g hH | intro W hH); ((try simp only [Act.put, pA, pB, pC]))))
    all_goals
      go_ret
      exact ⟨rfl, hH.below⟩
end
end Go.Proofs.Ytealimfmognglaa

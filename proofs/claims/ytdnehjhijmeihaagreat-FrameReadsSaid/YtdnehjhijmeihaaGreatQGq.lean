/-
  Joined texts: Gq.
-/
import Derived.Test.YtdnehjhijmeihaaGreatQGj
import Derived.Test.YtdnehjhijmeihaaGreatQSg
import Derived.Test.YtdnehjhijmeihaaGreatQSl
namespace Go.Proofs.YtdnehjhijmeihaaGreat
-- %in
open Go.ChangeShapes Go.WideShapes Go.ChangeAt Go.RowKit
set_option linter.unusedVariables false
set_option linter.unusedSimpArgs false
set_option maxRecDepth 20000
attribute [local irreducible] wpList

section
variable {w : World} {s : ByteArray}
set_option maxHeartbeats 16000000 in
theorem rquery_any (h8 : 8 ≤ s.size) (hs : s.size ≤ 100000) : Calls Tryz.prog 65 #[.string s] w fun e w' => RdPost w (rQryF s).1 (rQryF s).2 e w' := by
  have f4 : ∀ w, Gives Tryz.prog 67 #[.string s, .int .i64 4] w (.agg (fls [.many (adL (ad4 s 4)) 17]).toArray) := fun w => rfour_any (k := 4) (by omega) (by omega)
  have i1 : ∀ W, (Instr.index 9 (.string s) (.int .i64 1)).run Tryz.prog W = .ok (.int .u8 (numAt s 1 1 : Int)) W := fun W => run_at (k := 1) (by omega) 1 rfl W
  have hb1 : numAt s 1 1 < 256 := numAt_lt s 1 1
  have hb9 : numAt s 9 1 < 256 := numAt_lt s 9 1
  have hb8 : numAt s 8 1 < 256 := numAt_lt s 8 1
  have hm : numAt s 10 2 < 65536 := numAt_lt s 10 2
  have I9 := Lib.hid (show 12 ≤ s.size → ∀ W, (Instr.index 9 (.string s) (.int .i64 9)).run Tryz.prog W = .ok (.int .u8 (numAt s 9 1 : Int)) W from fun h W => run_at (k := 9) (by omega) 9 rfl W)
  have I8 := Lib.hid (show 12 ≤ s.size → ∀ W, (Instr.index 9 (.string s) (.int .i64 8)).run Tryz.prog W = .ok (.int .u8 (numAt s 8 1 : Int)) W from fun h W => run_at (k := 8) (by omega) 8 rfl W)
  have N2 := Lib.hid (show ∀ w, Gives Tryz.prog 22 #[.string (s.extract 10 12)] w (.int .u64 (numAt s 10 2 : Int)) from fun w => rNumAt8 (i := 10) (j := 12) (by omega) (by omega))
  have fv1 : ∀ w, Gives Tryz.prog 117 #[.int .i64 (numAt s 1 1 : Int)] w (.int .i64 (valN 16 (numAt s 1 1) : Int)) := fun w => rv8 (by omega)
  have fv9 : ∀ w, Gives Tryz.prog 117 #[.int .i64 (numAt s 9 1 : Int)] w (.int .i64 (valN 16 (numAt s 9 1) : Int)) := fun w => rv8 (by omega)
  have SR := Lib.hid (srcR (B := w.heap.size) (w0 := w) (s := s) (k := 12) hm (by omega) hs)
  have f7 : ∀ w, Gives Tryz.prog 68 #[.agg (fls [.many (adL (ad4 s 4)) 17]).toArray] w (.bool (grp4 (ad4 s 4))) := fun w => rGroup4_any
  have f2 := ad_eql (ad4 s 4) Ad.z
  have f3 := ad_neq (ad4 s 4) Ad.z
  rw [← zAd_eq] at f2 f3
  have e4 : (ad4 s 4 != Ad.z) = !(ad4 s 4 == Ad.z) := rfl
  rw [e4] at f3
  clear e4
  have oA := adL_ok (ad4 s 4)
  obtain ⟨RQ, hRQ⟩ : ∃ x, rQryF s = x := ⟨_, rfl⟩
  rw [hRQ]
  unfold rQryF at hRQ
  generalize numAt s 1 1 = c at *
  generalize ad4 s 4 = a at *
  obtain ⟨A, hA'⟩ : ∃ Y, Y = adL a := ⟨_, rfl⟩
  rw [← hA'] at f4 f7 f2 f3 oA
  have HA' := Lib.hid hA'
  clear hA'
  generalize numAt s 9 1 = b9 at *
  generalize numAt s 8 1 = b8 at *
  generalize numAt s 10 2 = n at *
  generalize ((valN 16 c : Nat) : Int) = xr at *
  generalize ((valN 16 b9 : Nat) : Int) = xe at *
  generalize (rSrcF s 12 n).1 = L at *
  generalize (rSrcF s 12 n).2 = ec at *
  generalize (a == Ad.z) = zq at *
  generalize grp4 a = gb at *
  have HQ := Lib.hid hRQ
  clear hRQ
  have hH := Hp.refl w
  go_enter Tryz.func65, Tryz.ntmps65
  go_wp2_with (first | (refine st ?_; clear hH; (first | intro W g hH | intro W hH)))
  ((with_reducible refine regM hH (SubH.refl) (by kernel_rfl) ?_); (clear hH; intro W hH); refine mtt [0, 1, 2, 3, 6] ?_; refine hm_three (fuel := 5) 4 7 8 rfl rfl rfl (by kernel_rfl) ?_ ?_ ?_; (focus (go_wp2_with (first | (refine st ?_; clear hH; (first | intro W g hH | intro W hH))); refine me ?_; refine mtt [5] ?_; refine hm_two (fuel := 3) 7 8 rfl rfl (by kernel_rfl) ?_ ?_; (focus (go_wp2_with (first | (refine st ?_; clear hH; (first | intro W g hH | intro W hH))); refine me ?_; refine mo 8 ?_; go_wp2_with (first | (refine st ?_; clear hH; (first | intro W g hH | intro W hH))); refine me ?_; refine mo 9 ?_; go_wp2_with (first | (refine st ?_; clear hH; (first | intro W g hH | intro W hH))); refine me ?_; refine mo 10 ?_; go_wp2_with (first | (refine st ?_; clear hH; (first | intro W g hH | intro W hH))); refine me ?_; refine hm_end (by kernel_rfl) ?_)); rotate_left 1; (focus (go_wp2_with (first | (refine st ?_; clear hH; (first | intro W g hH | intro W hH))); refine me ?_; refine mo 7 ?_; go_wp2_with (first | (refine st ?_; clear hH; (first | intro W g hH | intro W hH))); refine me ?_; refine mo 9 ?_; go_wp2_with (first | (refine st ?_; clear hH; (first | intro W g hH | intro W hH))); refine me ?_; refine mo 10 ?_; go_wp2_with (first | (refine st ?_; clear hH; (first | intro W g hH | intro W hH))); refine me ?_; refine hm_end (by kernel_rfl) ?_)))); rotate_left 2; (focus (go_wp2_with (first | (refine st ?_; clear hH; (first | intro W g hH | intro W hH))); refine me ?_; refine hm_two (fuel := 4) 4 8 rfl rfl (by kernel_rfl) ?_ ?_; (focus (go_wp2_with (first | (refine st ?_; clear hH; (first | intro W g hH | intro W hH))); refine me ?_; refine mtt [5] ?_; refine mo 8 ?_; go_wp2_with (first | (refine st ?_; clear hH; (first | intro W g hH | intro W hH))); refine me ?_; refine mo 9 ?_; go_wp2_with (first | (refine st ?_; clear hH; (first | intro W g hH | intro W hH))); refine me ?_; refine mo 10 ?_; go_wp2_with (first | (refine st ?_; clear hH; (first | intro W g hH | intro W hH))); refine me ?_; refine hm_end (by kernel_rfl) ?_)); rotate_left 1; (focus (go_wp2_with (first | (refine st ?_; clear hH; (first | intro W g hH | intro W hH))); refine me ?_; refine mo 4 ?_; go_wp2_with (first | (refine st ?_; clear hH; (first | intro W g hH | intro W hH))); refine me ?_; refine mtt [5] ?_; refine mo 9 ?_; go_wp2_with (first | (refine st ?_; clear hH; (first | intro W g hH | intro W hH))); refine me ?_; refine mo 10 ?_; go_wp2_with (first | (refine st ?_; clear hH; (first | intro W g hH | intro W hH))); refine me ?_; refine hm_end (by kernel_rfl) ?_)))); rotate_left 2; (focus (go_wp2_with (first | (refine st ?_; clear hH; (first | intro W g hH | intro W hH))); refine me ?_; refine hm_two (fuel := 4) 4 7 rfl rfl (by kernel_rfl) ?_ ?_; (focus (go_wp2_with (first | (refine st ?_; clear hH; (first | intro W g hH | intro W hH))); refine me ?_; refine mtt [5] ?_; refine mo 7 ?_; go_wp2_with (first | (refine st ?_; clear hH; (first | intro W g hH | intro W hH))); refine me ?_; refine mo 9 ?_; go_wp2_with (first | (refine st ?_; clear hH; (first | intro W g hH | intro W hH))); refine me ?_; refine mo 10 ?_; go_wp2_with (first | (refine st ?_; clear hH; (first | intro W g hH | intro W hH))); refine me ?_; refine hm_end (by kernel_rfl) ?_)); rotate_left 1; (focus (go_wp2_with (first | (refine st ?_; clear hH; (first | intro W g hH | intro W hH))); refine me ?_; refine mo 4 ?_; go_wp2_with (first | (refine st ?_; clear hH; (first | intro W g hH | intro W hH))); refine me ?_; refine mtt [5] ?_; refine mo 9 ?_; go_wp2_with (first | (refine st ?_; clear hH; (first | intro W g hH | intro W hH))); refine me ?_; refine mo 10 ?_; go_wp2_with (first | (refine st ?_; clear hH; (first | intro W g hH | intro W hH))); refine me ?_; refine hm_end (by kernel_rfl) ?_)))))
  all_goals
    by_cases h9 : 8 < s.size ∧ s.size < 12
    · have e := HQ.out
      rw [if_pos h9] at e
      subst e
      have d1 : decide ((8 : Int) < (s.size : Int)) = true := decide_eq_true (by omega)
      have d2 : decide ((s.size : Int) < 12) = true := decide_eq_true (by omega)
      clear SR I8 I9 N2 fv1 fv9 HQ f2 f3 f7
      go_wp2_with (first | (refine st ?_; clear hH; (first | intro W g hH | intro W hH)))
      (refine iRet2 Tryz.results65 tab_ok rfl rfl hH ?_; refine ⟨_, _, rfl, rfl, rfl, ?_⟩)
      exact RdPost.mk (sp := none) (rp := none) (sc := 0) (rc := 0) (D := []) (by unfold tkS; simp only; rw [← HA'.out]; rfl) ⟨hH.nil, by simp⟩ (fun B w0 W h => ⟨AdsAt.nil, RcsAt.nil⟩)
    by_cases e8 : s.size = 8
    · have e := HQ.out
      rw [if_neg h9] at e
      have d1 : decide ((8 : Int) < (s.size : Int)) = false := decide_eq_false (by omega)
      have d9 : ((s.size : Int) == 8) = true := by simp; omega
      clear SR I8 I9 N2 fv1 fv9 HQ
      cases zq
      · cases gb
        · rw [if_pos (by rfl)] at e
          subst e
          go_wp2_with (first | (refine st ?_; clear hH; (first | intro W g hH | intro W hH)))
          (refine iRet2 Tryz.results65 tab_ok rfl rfl hH ?_; refine ⟨_, _, rfl, rfl, rfl, ?_⟩)
          exact RdPost.mk (sp := none) (rp := none) (sc := 0) (rc := 0) (D := []) (by unfold tkS; simp only; rw [← HA'.out]; rfl) ⟨hH.nil, by simp⟩ (fun B w0 W h => ⟨AdsAt.nil, RcsAt.nil⟩)
        · rw [if_neg (by simp), if_pos e8] at e
          by_cases hc : c = 0
          · subst hc
            rw [if_pos rfl, if_neg (by simp)] at e
            subst e
            go_wp2_with (first | (refine st ?_; clear hH; (first | intro W g hH | intro W hH)))
            (refine iRet2 Tryz.results65 tab_ok rfl rfl hH ?_; refine ⟨_, _, rfl, rfl, rfl, ?_⟩)
            exact RdPost.mk (sp := none) (rp := none) (sc := 0) (rc := 0) (D := []) (by unfold tkS; simp only; rw [← HA'.out]; rfl) ⟨hH.nil, by simp⟩ (fun B w0 W h => ⟨AdsAt.nil, RcsAt.nil⟩)
          · rw [if_neg hc] at e
            subst e
            have dc : ((c : Int) == 0) = false := by simpa using hc
            go_wp2_with (first | (refine st ?_; clear hH; (first | intro W g hH | intro W hH)))
            (refine iRet2 Tryz.results65 tab_ok rfl rfl hH ?_; refine ⟨_, _, rfl, rfl, rfl, ?_⟩)
            exact RdPost.mk (sp := none) (rp := none) (sc := 0) (rc := 0) (D := []) (by unfold tkS; simp only; rw [← HA'.out]; rfl) ⟨hH.nil, by simp⟩ (fun B w0 W h => ⟨AdsAt.nil, RcsAt.nil⟩)
      · rw [if_neg (by simp), if_pos e8] at e
        by_cases hc : c = 0
        · subst hc
          rw [if_pos rfl, if_pos rfl] at e
          subst e
          go_wp2_with (first | (refine st ?_; clear hH; (first | intro W g hH | intro W hH)))
          (refine iRet2 Tryz.results65 tab_ok rfl rfl hH ?_; refine ⟨_, _, rfl, rfl, rfl, ?_⟩)
          exact RdPost.mk (sp := none) (rp := none) (sc := 0) (rc := 0) (D := []) (by unfold tkS; simp only; rw [← HA'.out]; rfl) ⟨hH.nil, by simp⟩ (fun B w0 W h => ⟨AdsAt.nil, RcsAt.nil⟩)
        · rw [if_neg hc] at e
          subst e
          have dc : ((c : Int) == 0) = false := by simpa using hc
          go_wp2_with (first | (refine st ?_; clear hH; (first | intro W g hH | intro W hH)))
          (refine iRet2 Tryz.results65 tab_ok rfl rfl hH ?_; refine ⟨_, _, rfl, rfl, rfl, ?_⟩)
          exact RdPost.mk (sp := none) (rp := none) (sc := 0) (rc := 0) (D := []) (by unfold tkS; simp only; rw [← HA'.out]; rfl) ⟨hH.nil, by simp⟩ (fun B w0 W h => ⟨AdsAt.nil, RcsAt.nil⟩)
    have h12 : 12 ≤ s.size := by omega
    have i8 := I8.out h12
    have i9 := I9.out h12
    have n2 := N2.out
    have e := HQ.out
    rw [if_neg h9] at e
    clear HQ I8 I9 N2
    have d1 : decide ((8 : Int) < (s.size : Int)) = true := decide_eq_true (by omega)
    have d2 : decide ((s.size : Int) < 12) = false := decide_eq_false (by omega)
    have d9 : ((s.size : Int) == 8) = false := by simp; omega
    have dz : decide ((12 : Int) ≤ (s.size : Int)) = true := decide_eq_true (by omega)
    cases zq
    · cases gb
      · rw [if_pos (by rfl)] at e
        subst e
        go_wp2_with (first | (refine st ?_; clear hH; (first | intro W g hH | intro W hH)))
        (refine iRet2 Tryz.results65 tab_ok rfl rfl hH ?_; refine ⟨_, _, rfl, rfl, rfl, ?_⟩)
        exact RdPost.mk (sp := none) (rp := none) (sc := 0) (rc := 0) (D := []) (by unfold tkS; simp only; rw [← HA'.out]; rfl) ⟨hH.nil, by simp⟩ (fun B w0 W h => ⟨AdsAt.nil, RcsAt.nil⟩)
      · rw [if_neg (by simp), if_neg e8, if_neg (by simp)] at e
        subst e
        go_wp2_with (first | (refine st ?_; clear hH; (first | intro W g hH | intro W hH)))
        ((with_reducible refine regM hH (SubH.drop (SubH.drop SubH.refl)) (by kernel_rfl) ?_); (clear hH; intro W hH); refine mtt [0, 1, 2, 4, 5, 6, 8] ?_; refine mo 3 ?_; go_wp2_with (first | (refine st ?_; clear hH; (first | intro W g hH | intro W hH))); refine me ?_; refine mo 7 ?_; go_wp2_with (first | (refine st ?_; clear hH; (first | intro W g hH | intro W hH))); refine me ?_; refine mo 9 ?_; go_wp2_with (first | (refine st ?_; clear hH; (first | intro W g hH | intro W hH))); refine me ?_; refine mtt [10] ?_; refine mo 11 ?_; go_wp2_with (first | (refine st ?_; clear hH; (first | intro W g hH | intro W hH))); refine me ?_; refine mtt [12] ?_; refine mo 13 ?_; go_wp2_with (first | (refine st ?_; clear hH; (first | intro W g hH | intro W hH))); refine me ?_; refine hm_end (by kernel_rfl) ?_)
        go_wp2_with (first | (refine st ?_; clear hH; (first | intro W g hH | intro W hH)))
        ((with_reducible refine regM hH (SubH.drop (SubH.drop SubH.refl)) (by kernel_rfl) ?_); (clear hH; intro W hH); refine mtt [0, 1, 2, 3, 4, 5, 6, 7, 8, 9] ?_; refine mo 10 ?_; go_wp2_with (first | (refine st ?_; clear hH; (first | intro W g hH | intro W hH))); refine me ?_; refine mtt [11] ?_; refine mo 12 ?_; go_wp2_with (first | (refine st ?_; clear hH; (first | intro W g hH | intro W hH))); refine me ?_; refine hm_end (by kernel_rfl) ?_)
        go_wp2_with (first | ((go_at_call 119; refine SR.out _ _ _ _ _ ?_ ?_ hH ?_; (focus (first | rfl | (push_cast; rfl) | (simp; done))); (focus (first | rfl | (push_cast; rfl) | (simp; done))); (clear hH; intro W sp sc D' hA hD' hH); (try simp only [List.cons_append, List.nil_append, List.append_assoc] at hH); ((try simp only [Act.put, pA, pB, pC])))) | (refine st ?_; clear hH; (first | intro W g hH | intro W hH)))
        (refine iRet2 Tryz.results65 tab_ok rfl rfl hH ?_; refine ⟨_, _, rfl, rfl, rfl, ?_⟩)
        exact RdPost.mk (sp := sp) (rp := none) (sc := sc) (rc := 0) (D := D') (by unfold tkS; simp only; rw [← HA'.out, q8]; (try rw [m8]); rfl) ⟨hH.sub (by repeat (first | exact SubH.refl | apply SubH.drop)), hD'.out⟩ (fun B w0 W h => ⟨hA.out _ _ _ h, RcsAt.nil⟩)
    · rw [if_neg (by simp), if_neg e8] at e
      by_cases hn : 0 < n
      · rw [if_pos ⟨rfl, hn⟩] at e
        subst e
        have dn : decide ((0 : Int) < (n : Int)) = true := decide_eq_true (by omega)
        go_wp2_with (first | (refine st ?_; clear hH; (first | intro W g hH | intro W hH)))
        ((with_reducible refine regM hH (SubH.drop (SubH.drop SubH.refl)) (by kernel_rfl) ?_); (clear hH; intro W hH); refine mtt [0, 1, 2, 4, 5, 6, 8] ?_; refine mo 3 ?_; go_wp2_with (first | (refine st ?_; clear hH; (first | intro W g hH | intro W hH))); refine me ?_; refine mo 7 ?_; go_wp2_with (first | (refine st ?_; clear hH; (first | intro W g hH | intro W hH))); refine me ?_; refine mo 9 ?_; go_wp2_with (first | (refine st ?_; clear hH; (first | intro W g hH | intro W hH))); refine me ?_; refine mtt [10] ?_; refine mo 11 ?_; go_wp2_with (first | (refine st ?_; clear hH; (first | intro W g hH | intro W hH))); refine me ?_; refine mtt [12] ?_; refine mo 13 ?_; go_wp2_with (first | (refine st ?_; clear hH; (first | intro W g hH | intro W hH))); refine me ?_; refine hm_end (by kernel_rfl) ?_)
        go_wp2_with (first | (refine st ?_; clear hH; (first | intro W g hH | intro W hH)))
        ((with_reducible refine regM hH (SubH.drop (SubH.drop SubH.refl)) (by kernel_rfl) ?_); (clear hH; intro W hH); refine mtt [0, 1, 2, 3, 4, 5, 6, 7, 8, 9] ?_; refine mo 10 ?_; go_wp2_with (first | (refine st ?_; clear hH; (first | intro W g hH | intro W hH))); refine me ?_; refine mtt [11] ?_; refine mo 12 ?_; go_wp2_with (first | (refine st ?_; clear hH; (first | intro W g hH | intro W hH))); refine me ?_; refine hm_end (by kernel_rfl) ?_)
        go_wp2_with (first | (refine st ?_; clear hH; (first | intro W g hH | intro W hH)))
        (refine iRet2 Tryz.results65 tab_ok rfl rfl hH ?_; refine ⟨_, _, rfl, rfl, rfl, ?_⟩)
        exact RdPost.mk (sp := none) (rp := none) (sc := 0) (rc := 0) (D := []) (by unfold tkS; simp only; rw [← HA'.out, q8]; (try rw [m8]); rfl) ⟨hH.nil, by simp⟩ (fun B w0 W h => ⟨AdsAt.nil, RcsAt.nil⟩)
      · rw [if_neg (fun h => hn h.2)] at e
        subst e
        obtain rfl : n = 0 := by omega
        have dn : decide ((0 : Int) < ((0 : Nat) : Int)) = false := rfl
        go_wp2_with (first | (refine st ?_; clear hH; (first | intro W g hH | intro W hH)))
        ((with_reducible refine regM hH (SubH.drop (SubH.drop SubH.refl)) (by kernel_rfl) ?_); (clear hH; intro W hH); refine mtt [0, 1, 2, 4, 5, 6, 8] ?_; refine mo 3 ?_; go_wp2_with (first | (refine st ?_; clear hH; (first | intro W g hH | intro W hH))); refine me ?_; refine mo 7 ?_; go_wp2_with (first | (refine st ?_; clear hH; (first | intro W g hH | intro W hH))); refine me ?_; refine mo 9 ?_; go_wp2_with (first | (refine st ?_; clear hH; (first | intro W g hH | intro W hH))); refine me ?_; refine mtt [10] ?_; refine mo 11 ?_; go_wp2_with (first | (refine st ?_; clear hH; (first | intro W g hH | intro W hH))); refine me ?_; refine mtt [12] ?_; refine mo 13 ?_; go_wp2_with (first | (refine st ?_; clear hH; (first | intro W g hH | intro W hH))); refine me ?_; refine hm_end (by kernel_rfl) ?_)
        go_wp2_with (first | (refine st ?_; clear hH; (first | intro W g hH | intro W hH)))
        ((with_reducible refine regM hH (SubH.drop (SubH.drop SubH.refl)) (by kernel_rfl) ?_); (clear hH; intro W hH); refine mtt [0, 1, 2, 3, 4, 5, 6, 7, 8, 9] ?_; refine mo 10 ?_; go_wp2_with (first | (refine st ?_; clear hH; (first | intro W g hH | intro W hH))); refine me ?_; refine mtt [11] ?_; refine mo 12 ?_; go_wp2_with (first | (refine st ?_; clear hH; (first | intro W g hH | intro W hH))); refine me ?_; refine hm_end (by kernel_rfl) ?_)
        go_wp2_with (first | ((go_at_call 119; refine SR.out _ _ _ _ _ ?_ ?_ hH ?_; (focus (first | rfl | (push_cast; rfl) | (simp; done))); (focus (first | rfl | (push_cast; rfl) | (simp; done))); (clear hH; intro W sp sc D' hA hD' hH); (try simp only [List.cons_append, List.nil_append, List.append_assoc] at hH); ((try simp only [Act.put, pA, pB, pC])))) | (refine st ?_; clear hH; (first | intro W g hH | intro W hH)))
        (refine iRet2 Tryz.results65 tab_ok rfl rfl hH ?_; refine ⟨_, _, rfl, rfl, rfl, ?_⟩)
        exact RdPost.mk (sp := sp) (rp := none) (sc := sc) (rc := 0) (D := D') (by unfold tkS; simp only; rw [← HA'.out, q8]; (try rw [m8]); rfl) ⟨hH.sub (by repeat (first | exact SubH.refl | apply SubH.drop)), hD'.out⟩ (fun B w0 W h => ⟨hA.out _ _ _ h, RcsAt.nil⟩)
end
end Go.Proofs.YtdnehjhijmeihaaGreat

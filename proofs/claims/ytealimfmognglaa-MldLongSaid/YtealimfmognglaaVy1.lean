/-
  Contract of acequialaw09.many.
-/
import Derived.Test.YtealimfmognglaaVy0
import Derived.Test.YtealimfmognglaaIn
namespace Go.Proofs.Ytealimfmognglaa
-- %in
open Go.ChangeShapes Go.WideShapes Go.ChangeAt Go.RowKit
set_option linter.unusedVariables false
set_option linter.unusedSimpArgs false
set_option maxRecDepth 20000
attribute [local irreducible] wpList

section
variable {w : World} {k : Nat}
theorem six_src {j : Nat} (hj : j < 256) (w : World) : Gives Try.prog 15 #[.int .u8 32, .int .u8 (j : Int)] w (.agg (fls [.many (adL (srcM j)) 17]).toArray) := by
  have h := six_any (w := w) 32 (UInt8.ofNat j)
  rwa [show ((UInt8.ofNat j).toNat : Int) = (j : Int) by rw [UInt8.toNat_ofNat']; omega] at h
set_option maxHeartbeats 4000000 in
theorem many_srcs (h0 : 0 < k) (hk : k < 100) : Calls Try.prog 14 #[.int .i64 (k : Int), .bool false] w fun e w' => TkPost w (manyT k false) e w' := by
  have hH := Hp.refl w
  have s1 : ∀ w, Gives Try.prog 15 #[.int .u8 255, .int .u8 1] w (.agg (fls [.many (adL grpM) 17]).toArray) := fun w => six_any 255 1
  have oG := adL_ok grpM
  obtain ⟨G, hG0⟩ : ∃ G, G = adL grpM := ⟨_, rfl⟩
  rw [← hG0] at s1 oG
  have HG0 := Lib.hid hG0
  clear hG0
  go_enter Try.func14, Try.ntmps14
  go_wp2_with (first | ((first | (refine iSR tab_ok rfl ?_ rfl hH ?_; (focus (first | exact wN rfl | exact rfl)); refine ⟨_, _, _, _, rfl, rfl, rfl, rfl, rfl, ?_, ?_⟩; (focus (repeat (first | exact trivial | assumption | exact OkA.z (by kernel_rfl) (by kernel_rfl) | refine ⟨rfl, ?_⟩ | refine ⟨?_, ?_⟩)))) | (refine hAl tab_ok rfl ?_ hH rfl ?_; (focus (first | exact wN rfl | exact rfl))) | (refine hBd tab_ok rfl ?_ rfl rfl rfl hH ?_; (focus (first | exact wN rfl | exact rfl)); refine ⟨?_, ?_, ?_⟩; rotate_left; (focus (repeat (first | exact BR.nil | refine BR.one rfl rfl rfl ?_ | (refine BR.row rfl rfl rfl rfl ?_ ?_; (focus (repeat (first | exact trivial | assumption | exact OkA.z (by kernel_rfl) (by kernel_rfl) | refine ⟨rfl, ?_⟩ | refine ⟨?_, ?_⟩)))))))) | ((with_reducible refine callH hH ?_); refine ⟨?_, ?_, ?_⟩; rotate_left; (focus (first | (with_reducible exact s1 _))))); clear hH; (first | intro W g hH | intro W hH); ((try simp only [Act.put, pA, pB, pC]))))
  rename_i gb _ _ _ _ _
  go_loopw [6] (fun i wr => ∃ (j : Nat), i = .int .i64 (j : Int) ∧ j ≤ k ∧ ((j = 0 ∧ Hp w.heap.size w wr [(g, 28, true, [.one (.bool true), .one (.int .i64 2), .one (.int .i64 1), .one (.int .i64 0), .many G 17, .one (.bool false), .one (.int .i64 0), .one (.int .i64 0), .one (.slice none 0 0), .one (.slice none 0 0)]), (gb, 28, true, [.one (.bool false), .one (.int .i64 0), .one (.int .i64 0), .one (.int .i64 0), .many (zeroL Try.prog 24) 17, .one (.bool false), .one (.int .i64 0), .one (.int .i64 0), .one (.slice none 0 0), .one (.slice none 0 0)])]) ∨ (0 < j ∧ ∃ g1 cc q J, Grow 17 j cc (j * 17) q ∧ OkA J q ∧ Hp w.heap.size w wr [(g1, 24, true, [.many (adsL ((List.range j).map srcM)) (j * 17), .many J q]), (g, 28, true, [.one (.bool true), .one (.int .i64 2), .one (.int .i64 1), .one (.int .i64 0), .many G 17, .one (.bool false), .one (.int .i64 0), .one (.int .i64 0), .one (.slice (some ⟨g1, 0, none⟩) j cc), .one (.slice none 0 0)]), (gb, 28, true, [.one (.bool false), .one (.int .i64 0), .one (.int .i64 0), .one (.int .i64 0), .many (zeroL Try.prog 24) 17, .one (.bool false), .one (.int .i64 0), .one (.int .i64 0), .one (.slice none 0 0), .one (.slice none 0 0)])]))) (fun i _ => k - (intOf i).toNat)
  case atStart => exact ⟨0, rfl, by omega, .inl ⟨rfl, hH⟩⟩
  case round =>
    clear hH
    obtain ⟨j, rfl, hj, hor⟩ := hrel
    have oZ := zadr_ok
    by_cases hjk : j < k
    · have dj : decide ((j : Int) < (k : Int)) = true := decide_eq_true (by omega)
      have s2 := fun w => six_src (j := j) (by omega) w
      have oY := adL_ok (srcM j)
      obtain ⟨Y, hY⟩ : ∃ Y, Y = adL (srcM j) := ⟨_, rfl⟩
      rw [← hY] at s2 oY
      have HY := Lib.hid hY
      clear hY
      rcases hor with ⟨rfl, hH⟩ | ⟨hj0, g1, cc, q, J, hG, oJ, hH⟩
      · have s2' : ∀ w, Gives Try.prog 15 #[.int .u8 32, .int .u8 0] w (.agg (fls [.many Y 17]).toArray) := s2
        go_wp2_with (fail)
        ((with_reducible refine regKN [8] hH (SubH.refl) (by kernel_rfl) ?_); (clear hH; intro W hH); (refine hk_pures (fuel := 6) (pk 0 rfl (pk 2 rfl (pk 3 rfl (PickR.nil)))) (by kernel_rfl) (by kernel_rfl) (fun _ _ _ _ _ h => h) ?_; (repeat (go_big_quiet_step (fail))); refine hk_nil ?_); (refine hk_loads (fuel := 5) (pk 1 rfl (PickR.nil)) (by kernel_rfl) (by kernel_rfl) (fun _ _ _ _ _ h => h) hH ?_ ?_; (focus (exact SubI.h)); intro hne; (repeat (first | (go_big_quiet_want; (first | (refine qiL tab_ok rfl rfl ?_; refine ⟨_, _, rfl, rfl, ?_⟩)); (try simp only [Act.put, pA, pB, pC]); go_big_quiet_on) | go_big_quiet_step (fail))); refine hk_nil ?_; clear hne); (refine hk_one (fuel := 4) 4 rfl (by kernel_rfl) ?_; go_wp2_with (first | ((first | ((with_reducible refine callH hH ?_); refine ⟨?_, ?_, ?_⟩; rotate_left; (focus (first | (with_reducible exact s2' _))))); clear hH; (first | intro W g hH | intro W hH); ((try simp only [Act.put, pA, pB, pC])))); refine hkQ_normal hH ?_ ?_; (focus (exact SubI.h)); (try simp only [Act.put, pA, pB, pC])); (refine hk_one (fuel := 3) 5 rfl (by kernel_rfl) ?_; go_wp2_with (first | ((refine hSl tab_ok rfl ?_ rfl tabs_ok rfl rfl rfl rfl rfl hH ?_; (focus (first | exact wN rfl | exact rfl)); refine ⟨?_, ?_, ?_⟩; rotate_left; (focus (repeat (first | exact BR.nil | refine BR.one rfl rfl rfl ?_ | (refine BR.row rfl rfl rfl rfl ?_ ?_; (focus (repeat (first | exact trivial | assumption | exact OkA.z (by kernel_rfl) (by kernel_rfl) | refine ⟨rfl, ?_⟩ | refine ⟨?_, ?_⟩))))))); clear hH; intro W g hH; (try simp only [Act.put, pA, pB, pC])))); refine hkQ_normal hH ?_ ?_; (focus (exact SubI.h)); (try simp only [Act.put, pA, pB, pC])); (refine hk_one (fuel := 2) 6 rfl (by kernel_rfl) ?_; go_wp2_with (first | (((first | (refine hApp0 0 tab_ok tabs_ok rfl rfl rfl rfl rfl rfl rfl hH rfl rfl rfl ?_; refine ⟨?_, ?_, ?_⟩; (focus (first | omega | (simp; omega))); (focus (first | omega | (simp; omega))))); clear hH; intro W g c p q J hG hL hJ hH; (try simp only [putH, fls, List.append_nil] at hH hL); (try simp only [Act.put, pA, pB, pC])))); refine hkQ_normal hH ?_ ?_; (focus (exact SubI.h)); (try simp only [Act.put, pA, pB, pC])); (refine hk_pures (fuel := 1) (pk 7 rfl (PickR.nil)) (by kernel_rfl) (by kernel_rfl) (fun _ _ _ _ _ h => h) ?_; (repeat (go_big_quiet_step (fail))); refine hk_nil ?_); (refine hk_one (fuel := 0) 8 rfl (by kernel_rfl) ?_; go_wp2_with (first | ((first | (refine iS1 tab_ok rfl ?_ rfl hH ?_; (focus (first | exact wN rfl | exact rfl)); refine ⟨_, _, _, _, rfl, rfl, rfl, rfl, rfl, ?_⟩)); clear hH; (first | intro W g hH | intro W hH); ((try simp only [Act.put, pA, pB, pC])))); refine hkQ_break ?_; (try simp only [Act.put, pA, pB, pC])); refine hk_endN (by kernel_rfl) ?_)
        go_wp2_with (fail)
        have hp := hG.hp
        have hq := hG.hq
        have hle := hG.le
        have hmo := hG.most
        clear hG
        refine ⟨⟨1, by simp, by omega, .inr ⟨by omega, g, c, q, J, ⟨rfl, by rw [← hq, hp], hle, hmo⟩, hJ, ?_⟩⟩, by simp [intOf]; omega⟩
        have e1 : 1 * 17 = p := by rw [hp]
        have e2 : adsL ((List.range 1).map srcM) = Y := by rw [HY.out]; simp [adsL, List.range_succ]
        rw [e1, e2]
        exact hH.sub (SubH.keep (SubH.drop SubH.refl))
      · obtain ⟨L, hL⟩ : ∃ L, L = (List.range j).map srcM := ⟨_, rfl⟩
        rw [← hL] at hH
        have HL := Lib.hid hL
        have oL := adsL_ok L
        have hLl : L.length = j := by rw [hL]; simp
        clear hL
        subst hLl
        go_wp2_with (fail)
        ((with_reducible refine regKN [8] hH (SubH.drop SubH.refl) (by kernel_rfl) ?_); (clear hH; intro W hH); (refine hk_pures (fuel := 6) (pk 0 rfl (pk 2 rfl (pk 3 rfl (PickR.nil)))) (by kernel_rfl) (by kernel_rfl) (fun _ _ _ _ _ h => h) ?_; (repeat (go_big_quiet_step (fail))); refine hk_nil ?_); (refine hk_loads (fuel := 5) (pk 1 rfl (PickR.nil)) (by kernel_rfl) (by kernel_rfl) (fun _ _ _ _ _ h => h) hH ?_ ?_; (focus (exact SubI.h)); intro hne; (repeat (first | (go_big_quiet_want; (first | (refine qiL tab_ok rfl rfl ?_; refine ⟨_, _, rfl, rfl, ?_⟩)); (try simp only [Act.put, pA, pB, pC]); go_big_quiet_on) | go_big_quiet_step (fail))); refine hk_nil ?_; clear hne); (refine hk_one (fuel := 4) 4 rfl (by kernel_rfl) ?_; go_wp2_with (first | ((first | ((with_reducible refine callH hH ?_); refine ⟨?_, ?_, ?_⟩; rotate_left; (focus (first | (with_reducible exact s2 _))))); clear hH; (first | intro W g hH | intro W hH); ((try simp only [Act.put, pA, pB, pC])))); refine hkQ_normal hH ?_ ?_; (focus (exact SubI.h)); (try simp only [Act.put, pA, pB, pC])); (refine hk_one (fuel := 3) 5 rfl (by kernel_rfl) ?_; go_wp2_with (first | ((refine hSl tab_ok rfl ?_ rfl tabs_ok rfl rfl rfl rfl rfl hH ?_; (focus (first | exact wN rfl | exact rfl)); refine ⟨?_, ?_, ?_⟩; rotate_left; (focus (repeat (first | exact BR.nil | refine BR.one rfl rfl rfl ?_ | (refine BR.row rfl rfl rfl rfl ?_ ?_; (focus (repeat (first | exact trivial | assumption | exact OkA.z (by kernel_rfl) (by kernel_rfl) | refine ⟨rfl, ?_⟩ | refine ⟨?_, ?_⟩))))))); clear hH; intro W g hH; (try simp only [Act.put, pA, pB, pC])))); refine hkQ_normal hH ?_ ?_; (focus (exact SubI.h)); (try simp only [Act.put, pA, pB, pC])); (refine hk_one (fuel := 2) 6 rfl (by kernel_rfl) ?_; go_wp2_with (first | (((first | (refine hApp 1 0 tab_ok tabs_ok rfl rfl rfl rfl rfl rfl rfl hH rfl rfl rfl rfl ?_; refine ⟨?_, ?_, ?_⟩; (focus assumption); (focus (first | omega | (simp; omega))))); clear hH; intro W g c p q J hG hL hJ hH; (try simp only [putH, fls, List.append_nil] at hH hL); (try simp only [Act.put, pA, pB, pC])))); refine hkQ_normal hH ?_ ?_; (focus (exact SubI.h)); (try simp only [Act.put, pA, pB, pC])); (refine hk_pures (fuel := 1) (pk 7 rfl (PickR.nil)) (by kernel_rfl) (by kernel_rfl) (fun _ _ _ _ _ h => h) ?_; (repeat (go_big_quiet_step (fail))); refine hk_nil ?_); (refine hk_one (fuel := 0) 8 rfl (by kernel_rfl) ?_; go_wp2_with (first | ((first | (refine iS1 tab_ok rfl ?_ rfl hH ?_; (focus (first | exact wN rfl | exact rfl)); refine ⟨_, _, _, _, rfl, rfl, rfl, rfl, rfl, ?_⟩)); clear hH; (first | intro W g hH | intro W hH); ((try simp only [Act.put, pA, pB, pC])))); refine hkQ_break ?_; (try simp only [Act.put, pA, pB, pC])); refine hk_endN (by kernel_rfl) ?_)
        go_wp2_with (fail)
        have hp := hG.hp
        have hq := hG.hq
        have hle := hG.le
        have hmo := hG.most
        clear hG
        refine ⟨⟨L.length + 1, by simp, by omega, .inr ⟨by omega, g, c, q, J, ⟨rfl, by rw [← hq, hp], hle, hmo⟩, hJ, ?_⟩⟩, by simp [intOf]; omega⟩
        have e1 : (L.length + 1) * 17 = p := by rw [hp]
        have e2 : adsL ((List.range (L.length + 1)).map srcM) = adsL L ++ Y := by rw [List.range_succ, List.map_append, ← HL.out, HY.out]; exact adsL_snoc _ _
        rw [e1, e2]
        exact hH.sub (SubH.drop SubH.refl)
    · have dj : decide ((j : Int) < (k : Int)) = false := decide_eq_false (by omega)
      rcases hor with ⟨rfl, hH⟩ | ⟨hj0, g1, cc, q, J, hG, oJ, hH⟩
      · exfalso
        omega
      · obtain rfl : j = k := by omega
        obtain ⟨L, hL⟩ : ∃ L, L = adsL ((List.range j).map srcM) := ⟨_, rfl⟩
        rw [← hL] at hH
        go_wp2_with (first | ((first | (refine iL tab_ok rfl ?_ rfl hH ?_; (focus (first | exact wN rfl | exact rfl)); refine ⟨_, _, rfl, rfl, ?_⟩) | (refine iSR tab_ok rfl ?_ rfl hH ?_; (focus (first | exact wN rfl | exact rfl)); refine ⟨_, _, _, _, rfl, rfl, rfl, rfl, rfl, ?_, ?_⟩; (focus (repeat (first | exact trivial | assumption | exact OkA.z (by kernel_rfl) (by kernel_rfl) | refine ⟨rfl, ?_⟩ | refine ⟨?_, ?_⟩))))); clear hH; (first | intro W g hH | intro W hH); ((try simp only [Act.put, pA, pB, pC]))))
        (refine iRet Try.results14 tab_ok rfl rfl hH ?_; refine ⟨_, _, rfl, rfl, rfl, ?_⟩)
        refine TkPost.mk (sp := some ⟨g1, 0, none⟩) (sc := cc) (rp := none) (rc := 0) (D := [(g1, 24, true, [.many L (j * 17), .many J q])]) ?_ ⟨hH.sub (SubH.keep SubH.nil), by simp⟩ (fun B w0 W h => ?_)
        · unfold manyT tkS
          simp only [Bool.false_eq_true, if_false, List.length_map, List.length_range]
          rw [← HG0.out]
          rfl
        · refine ⟨adsAt_row (L := (List.range j).map srcM) (by rw [List.length_map, List.length_range]; omega) (by have := (h.rows.mem (i := 0) rfl).1; rw [hL] at this; rwa [fls_two] at this), RcsAt.nil⟩
end
end Go.Proofs.Ytealimfmognglaa

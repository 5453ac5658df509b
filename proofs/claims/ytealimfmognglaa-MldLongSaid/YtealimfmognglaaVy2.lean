/-
  Contract of acequialaw09.many.
-/
import Derived.Test.YtealimfmognglaaVy0
import Derived.Test.YtealimfmognglaaIn
namespace Go.Proofs.Ytealimfmognglaa
-- %in
open Go.ChangeShapes Go.WideShapes Go.ChangeAt Go.RowKit
set_option linter.unusedVariables false
set_option linter.unusedSimpArgs false
set_option maxRecDepth 20000
attribute [local irreducible] wpList

section
variable {w : World} {k : Nat}
set_option maxHeartbeats 4000000 in
theorem many_recs (h0 : 0 < k) (hk : k < 100) : Calls Try.prog 14 #[.int .i64 (k : Int), .bool true] w fun e w' => TkPost w (manyT k true) e w' := by
  have hH := Hp.refl w
  have s1 : ∀ w, Gives Try.prog 15 #[.int .u8 255, .int .u8 1] w (.agg (fls [.many (adL grpM) 17]).toArray) := fun w => six_any 255 1
  have oG := adL_ok grpM
  obtain ⟨G, hG0⟩ : ∃ G, G = adL grpM := ⟨_, rfl⟩
  rw [← hG0] at s1 oG
  have HG0 := Lib.hid hG0
  clear hG0
  go_enter Try.func14, Try.ntmps14
  go_wp2_with (first | ((first | (refine iS1 tab_ok rfl ?_ rfl hH ?_; (focus (first | exact wN rfl | exact rfl)); refine ⟨_, _, _, _, rfl, rfl, rfl, rfl, rfl, ?_⟩) | (refine iSR tab_ok rfl ?_ rfl hH ?_; (focus (first | exact wN rfl | exact rfl)); refine ⟨_, _, _, _, rfl, rfl, rfl, rfl, rfl, ?_, ?_⟩; (focus (repeat (first | exact trivial | assumption | exact OkA.z (by kernel_rfl) (by kernel_rfl) | refine ⟨rfl, ?_⟩ | refine ⟨?_, ?_⟩)))) | (refine hAl tab_ok rfl ?_ hH rfl ?_; (focus (first | exact wN rfl | exact rfl))) | (refine hBd tab_ok rfl ?_ rfl rfl rfl hH ?_; (focus (first | exact wN rfl | exact rfl)); refine ⟨?_, ?_, ?_⟩; rotate_left; (focus (repeat (first | exact BR.nil | refine BR.one rfl rfl rfl ?_ | (refine BR.row rfl rfl rfl rfl ?_ ?_; (focus (repeat (first | exact trivial | assumption | exact OkA.z (by kernel_rfl) (by kernel_rfl) | refine ⟨rfl, ?_⟩ | refine ⟨?_, ?_⟩)))))))) | ((with_reducible refine callH hH ?_); refine ⟨?_, ?_, ?_⟩; rotate_left; (focus (first | (with_reducible exact s1 _))))); clear hH; (first | intro W g hH | intro W hH); ((try simp only [Act.put, pA, pB, pC]))))
  rename_i gb _ _ _ _ _ _ _ _
  go_loopw [6] (fun i wr => ∃ (j : Nat), i = .int .i64 (j : Int) ∧ j ≤ k ∧ ((j = 0 ∧ Hp w.heap.size w wr [(g, 28, true, [.one (.bool true), .one (.int .i64 2), .one (.int .i64 2), .one (.int .i64 0), .one (.bool false), .many (zeroL Try.prog 22) 16, .one (.bool false), .one (.int .i64 0), .one (.int .i64 0), .one (.slice none 0 0), .one (.slice none 0 0)]), (gb, 28, true, [.one (.bool false), .one (.int .i64 0), .one (.int .i64 0), .one (.int .i64 0), .many (zeroL Try.prog 24) 17, .one (.bool false), .one (.int .i64 0), .one (.int .i64 0), .one (.slice none 0 0), .one (.slice none 0 0)])]) ∨ (0 < j ∧ ∃ g1 cc q J, Grow 19 j cc (j * 19) q ∧ OkA J q ∧ Hp w.heap.size w wr [(g1, 52, true, [.many (rvsL (List.replicate j ⟨recM, none, 0⟩)) (j * 19), .many J q]), (g, 28, true, [.one (.bool true), .one (.int .i64 2), .one (.int .i64 2), .one (.int .i64 0), .one (.bool false), .many (zeroL Try.prog 22) 16, .one (.bool false), .one (.int .i64 0), .one (.int .i64 0), .one (.slice none 0 0), .one (.slice (some ⟨g1, 0, none⟩) j cc)]), (gb, 28, true, [.one (.bool false), .one (.int .i64 0), .one (.int .i64 0), .one (.int .i64 0), .many (zeroL Try.prog 24) 17, .one (.bool false), .one (.int .i64 0), .one (.int .i64 0), .one (.slice none 0 0), .one (.slice none 0 0)])]))) (fun i _ => k - (intOf i).toNat)
  case atStart => exact ⟨0, rfl, by omega, .inl ⟨rfl, hH⟩⟩
  case round =>
    clear hH
    obtain ⟨j, rfl, hj, hor⟩ := hrel
    have oZ := zadr_ok
    have oZ16 : OkA (zeroL Try.prog 22) 16 := by
      have z16 : zero16.map byteV = zeroL Try.prog 22 := by kernel_rfl
      rw [← z16]
      exact okA_bytes rfl
    by_cases hjk : j < k
    · have dj : decide ((j : Int) < (k : Int)) = true := decide_eq_true (by omega)
      rcases hor with ⟨rfl, hH⟩ | ⟨hj0, g1, cc, q, J, hG, oJ, hH⟩
      · go_wp2_with (fail)
        ((with_reducible refine regKN [7] hH (SubH.refl) (by kernel_rfl) ?_); (clear hH; intro W hH); (refine hk_pures (fuel := 7) (pk 0 rfl (PickR.nil)) (by kernel_rfl) (by kernel_rfl) (fun _ _ _ _ _ h => h) ?_; (repeat (go_big_quiet_step (fail))); refine hk_nil ?_); (refine hk_loads (fuel := 6) (pk 1 rfl (PickR.nil)) (by kernel_rfl) (by kernel_rfl) (fun _ _ _ _ _ h => h) hH ?_ ?_; (focus (exact SubI.h)); intro hne; (repeat (first | (go_big_quiet_want; (first | (refine qiL tab_ok rfl rfl ?_; refine ⟨_, _, rfl, rfl, ?_⟩)); (try simp only [Act.put, pA, pB, pC]); go_big_quiet_on) | go_big_quiet_step (fail))); refine hk_nil ?_; clear hne); (refine hk_one (fuel := 5) 2 rfl (by kernel_rfl) ?_; go_wp2_with (first | ((first | ((with_reducible refine callH hH ?_); refine ⟨?_, ?_, ?_⟩; rotate_left; (focus (first | (with_reducible exact s1 _))))); clear hH; (first | intro W g hH | intro W hH); ((try simp only [Act.put, pA, pB, pC])))); refine hkQ_normal hH ?_ ?_; (focus (exact SubI.h)); (try simp only [Act.put, pA, pB, pC])); (refine hk_pures (fuel := 4) (pk 3 rfl (PickR.nil)) (by kernel_rfl) (by kernel_rfl) (fun _ _ _ _ _ h => h) ?_; (repeat (first | (go_big_quiet_want; (refine qBd tab_ok rfl rfl rfl rfl ?_; refine ⟨?_, ?_, ?_⟩; rotate_left; (focus (repeat (first | exact BR.nil | refine BR.one rfl rfl rfl ?_ | (refine BR.row rfl rfl rfl rfl ?_ ?_; (focus (repeat (first | exact trivial | assumption | exact OkA.z (by kernel_rfl) (by kernel_rfl) | refine ⟨rfl, ?_⟩ | refine ⟨?_, ?_⟩)))))))); (try simp only [Act.put, pA, pB, pC]); go_big_quiet_on) | go_big_quiet_step (fail))); refine hk_nil ?_); (refine hk_one (fuel := 3) 4 rfl (by kernel_rfl) ?_; go_wp2_with (first | ((refine hSl tab_ok rfl ?_ rfl tabs_ok rfl rfl rfl rfl rfl hH ?_; (focus (first | exact wN rfl | exact rfl)); refine ⟨?_, ?_, ?_⟩; rotate_left; (focus (repeat (first | exact BR.nil | refine BR.one rfl rfl rfl ?_ | (refine BR.row rfl rfl rfl rfl ?_ ?_; (focus (repeat (first | exact trivial | assumption | exact OkA.z (by kernel_rfl) (by kernel_rfl) | refine ⟨rfl, ?_⟩ | refine ⟨?_, ?_⟩))))))); clear hH; intro W g hH; (try simp only [Act.put, pA, pB, pC])))); refine hkQ_normal hH ?_ ?_; (focus (exact SubI.h)); (try simp only [Act.put, pA, pB, pC])); (refine hk_one (fuel := 2) 5 rfl (by kernel_rfl) ?_; go_wp2_with (first | (((first | (refine hApp0 0 tab_ok tabs_ok rfl rfl rfl rfl rfl rfl rfl hH rfl rfl rfl ?_; refine ⟨?_, ?_, ?_⟩; (focus (first | omega | (simp; omega))); (focus (first | omega | (simp; omega))))); clear hH; intro W g c p q J hG hL hJ hH; (try simp only [putH, fls, List.append_nil] at hH hL); (try simp only [Act.put, pA, pB, pC])))); refine hkQ_normal hH ?_ ?_; (focus (exact SubI.h)); (try simp only [Act.put, pA, pB, pC])); (refine hk_pures (fuel := 1) (pk 6 rfl (PickR.nil)) (by kernel_rfl) (by kernel_rfl) (fun _ _ _ _ _ h => h) ?_; (repeat (go_big_quiet_step (fail))); refine hk_nil ?_); (refine hk_one (fuel := 0) 7 rfl (by kernel_rfl) ?_; go_wp2_with (first | ((first | (refine iS1 tab_ok rfl ?_ rfl hH ?_; (focus (first | exact wN rfl | exact rfl)); refine ⟨_, _, _, _, rfl, rfl, rfl, rfl, rfl, ?_⟩)); clear hH; (first | intro W g hH | intro W hH); ((try simp only [Act.put, pA, pB, pC])))); refine hkQ_break ?_; (try simp only [Act.put, pA, pB, pC])); refine hk_endN (by kernel_rfl) ?_)
        go_wp2_with (fail)
        have hp := hG.hp
        have hq := hG.hq
        have hle := hG.le
        have hmo := hG.most
        clear hG
        refine ⟨⟨1, by simp, by omega, .inr ⟨by omega, g, c, q, J, ⟨rfl, by rw [← hq, hp], hle, hmo⟩, hJ, ?_⟩⟩, by simp [intOf]; omega⟩
        have e1 : 1 * 19 = p := by rw [hp]
        have e2 : rvsL (List.replicate 1 ⟨recM, none, 0⟩) = .int .i64 2 :: (G ++ [.slice none 0 0]) := by rw [HG0.out]; simp [rvsL, rvS, fls, recM]
        rw [e1, e2]
        exact hH.sub (SubH.keep (SubH.drop SubH.refl))
      · obtain ⟨L, hL⟩ : ∃ L, L = List.replicate j (⟨recM, none, 0⟩ : Rv) := ⟨_, rfl⟩
        rw [← hL] at hH
        have HL := Lib.hid hL
        have oL := rvsL_ok L
        have hLl : L.length = j := by rw [hL]; simp
        clear hL
        subst hLl
        go_wp2_with (fail)
        ((with_reducible refine regKN [7] hH (SubH.drop SubH.refl) (by kernel_rfl) ?_); (clear hH; intro W hH); (refine hk_pures (fuel := 7) (pk 0 rfl (PickR.nil)) (by kernel_rfl) (by kernel_rfl) (fun _ _ _ _ _ h => h) ?_; (repeat (go_big_quiet_step (fail))); refine hk_nil ?_); (refine hk_loads (fuel := 6) (pk 1 rfl (PickR.nil)) (by kernel_rfl) (by kernel_rfl) (fun _ _ _ _ _ h => h) hH ?_ ?_; (focus (exact SubI.h)); intro hne; (repeat (first | (go_big_quiet_want; (first | (refine qiL tab_ok rfl rfl ?_; refine ⟨_, _, rfl, rfl, ?_⟩)); (try simp only [Act.put, pA, pB, pC]); go_big_quiet_on) | go_big_quiet_step (fail))); refine hk_nil ?_; clear hne); (refine hk_one (fuel := 5) 2 rfl (by kernel_rfl) ?_; go_wp2_with (first | ((first | ((with_reducible refine callH hH ?_); refine ⟨?_, ?_, ?_⟩; rotate_left; (focus (first | (with_reducible exact s1 _))))); clear hH; (first | intro W g hH | intro W hH); ((try simp only [Act.put, pA, pB, pC])))); refine hkQ_normal hH ?_ ?_; (focus (exact SubI.h)); (try simp only [Act.put, pA, pB, pC])); (refine hk_pures (fuel := 4) (pk 3 rfl (PickR.nil)) (by kernel_rfl) (by kernel_rfl) (fun _ _ _ _ _ h => h) ?_; (repeat (first | (go_big_quiet_want; (refine qBd tab_ok rfl rfl rfl rfl ?_; refine ⟨?_, ?_, ?_⟩; rotate_left; (focus (repeat (first | exact BR.nil | refine BR.one rfl rfl rfl ?_ | (refine BR.row rfl rfl rfl rfl ?_ ?_; (focus (repeat (first | exact trivial | assumption | exact OkA.z (by kernel_rfl) (by kernel_rfl) | refine ⟨rfl, ?_⟩ | refine ⟨?_, ?_⟩)))))))); (try simp only [Act.put, pA, pB, pC]); go_big_quiet_on) | go_big_quiet_step (fail))); refine hk_nil ?_); (refine hk_one (fuel := 3) 4 rfl (by kernel_rfl) ?_; go_wp2_with (first | ((refine hSl tab_ok rfl ?_ rfl tabs_ok rfl rfl rfl rfl rfl hH ?_; (focus (first | exact wN rfl | exact rfl)); refine ⟨?_, ?_, ?_⟩; rotate_left; (focus (repeat (first | exact BR.nil | refine BR.one rfl rfl rfl ?_ | (refine BR.row rfl rfl rfl rfl ?_ ?_; (focus (repeat (first | exact trivial | assumption | exact OkA.z (by kernel_rfl) (by kernel_rfl) | refine ⟨rfl, ?_⟩ | refine ⟨?_, ?_⟩))))))); clear hH; intro W g hH; (try simp only [Act.put, pA, pB, pC])))); refine hkQ_normal hH ?_ ?_; (focus (exact SubI.h)); (try simp only [Act.put, pA, pB, pC])); (refine hk_one (fuel := 2) 5 rfl (by kernel_rfl) ?_; go_wp2_with (first | (((first | (refine hApp 1 0 tab_ok tabs_ok rfl rfl rfl rfl rfl rfl rfl hH rfl rfl rfl rfl ?_; refine ⟨?_, ?_, ?_⟩; (focus assumption); (focus (first | omega | (simp; omega))))); clear hH; intro W g c p q J hG hL hJ hH; (try simp only [putH, fls, List.append_nil] at hH hL); (try simp only [Act.put, pA, pB, pC])))); refine hkQ_normal hH ?_ ?_; (focus (exact SubI.h)); (try simp only [Act.put, pA, pB, pC])); (refine hk_pures (fuel := 1) (pk 6 rfl (PickR.nil)) (by kernel_rfl) (by kernel_rfl) (fun _ _ _ _ _ h => h) ?_; (repeat (go_big_quiet_step (fail))); refine hk_nil ?_); (refine hk_one (fuel := 0) 7 rfl (by kernel_rfl) ?_; go_wp2_with (first | ((first | (refine iS1 tab_ok rfl ?_ rfl hH ?_; (focus (first | exact wN rfl | exact rfl)); refine ⟨_, _, _, _, rfl, rfl, rfl, rfl, rfl, ?_⟩)); clear hH; (first | intro W g hH | intro W hH); ((try simp only [Act.put, pA, pB, pC])))); refine hkQ_break ?_; (try simp only [Act.put, pA, pB, pC])); refine hk_endN (by kernel_rfl) ?_)
        go_wp2_with (fail)
        have hp := hG.hp
        have hq := hG.hq
        have hle := hG.le
        have hmo := hG.most
        clear hG
        refine ⟨⟨L.length + 1, by simp, by omega, .inr ⟨by omega, g, c, q, J, ⟨rfl, by rw [← hq, hp], hle, hmo⟩, hJ, ?_⟩⟩, by simp [intOf]; omega⟩
        have e1 : (L.length + 1) * 19 = p := by rw [hp]
        have e2 : rvsL (List.replicate (L.length + 1) ⟨recM, none, 0⟩) = rvsL L ++ (.int .i64 2 :: (G ++ [.slice none 0 0])) := by rw [List.replicate_succ', ← HL.out, HG0.out]; exact rvsL_snoc _ _
        rw [e1, e2]
        exact hH.sub (SubH.drop SubH.refl)
    · have dj : decide ((j : Int) < (k : Int)) = false := decide_eq_false (by omega)
      rcases hor with ⟨rfl, hH⟩ | ⟨hj0, g1, cc, q, J, hG, oJ, hH⟩
      · exfalso
        omega
      · obtain rfl : j = k := by omega
        obtain ⟨L, hL⟩ : ∃ L, L = rvsL (List.replicate j (⟨recM, none, 0⟩ : Rv)) := ⟨_, rfl⟩
        rw [← hL] at hH
        go_wp2_with (first | ((first | (refine iL tab_ok rfl ?_ rfl hH ?_; (focus (first | exact wN rfl | exact rfl)); refine ⟨_, _, rfl, rfl, ?_⟩) | (refine iSR tab_ok rfl ?_ rfl hH ?_; (focus (first | exact wN rfl | exact rfl)); refine ⟨_, _, _, _, rfl, rfl, rfl, rfl, rfl, ?_, ?_⟩; (focus (repeat (first | exact trivial | assumption | exact OkA.z (by kernel_rfl) (by kernel_rfl) | refine ⟨rfl, ?_⟩ | refine ⟨?_, ?_⟩))))); clear hH; (first | intro W g hH | intro W hH); ((try simp only [Act.put, pA, pB, pC]))))
        (refine iRet Try.results14 tab_ok rfl rfl hH ?_; refine ⟨_, _, rfl, rfl, rfl, ?_⟩)
        refine TkPost.mk (sp := none) (sc := 0) (rp := some ⟨g1, 0, none⟩) (rc := cc) (D := [(g1, 52, true, [.many L (j * 19), .many J q])]) ?_ ⟨hH.sub (SubH.keep SubH.nil), by simp⟩ (fun B w0 W h => ?_)
        · unfold manyT tkS
          simp only [if_true, List.length_replicate]
          have z16 : zero16.map byteV = zeroL Try.prog 22 := by kernel_rfl
          rw [← z16]
          rfl
        · refine ⟨AdsAt.nil, ?_⟩
          have h2 := rcsAt_row (R := List.replicate j (⟨recM, none, 0⟩ : Rv)) (by rw [List.length_replicate]; omega) (by have := (h.rows.mem (i := 0) rfl).1; rw [hL] at this; rwa [fls_two] at this) (fun x hx => by rw [List.eq_of_mem_replicate hx]; exact AdsAt.nil)
          rwa [List.map_replicate] at h2
end
end Go.Proofs.Ytealimfmognglaa

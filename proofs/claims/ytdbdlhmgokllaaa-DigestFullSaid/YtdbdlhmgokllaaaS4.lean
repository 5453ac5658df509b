/-
  Contract of slices.Insert, of one entry into a block of one's own.
-/
import Derived.Test.YtdbdlhmgokllaaaS3
namespace Go.Proofs.Ytdbdlhmgokllaaa
-- %in
open Go.ChangeShapes Go.WideShapes Go.ChangeAt Go.RowKit
set_option linter.unusedVariables false
set_option linter.unusedSimpArgs false
set_option maxRecDepth 20000
attribute [local irreducible] wpList

section
variable {B : Nat} {w0 W : World} {D : HB} {Q : Ending → World → Prop} {gl gv c cv q k m : Nat} {J TK XK R V : List Value}
/-- at the end -/
theorem insEnd {LS : List Value} {n : Nat} (hl : n ≤ 100000) (hG : Grow 20 n c (n * 20) q) (oJ : OkA J q) (oV : OkA V 20)
    (hH : Hp B w0 W ((gv, 30, true, [.many V 20]) :: (gl, 30, true, [.many LS (n * 20), .many J q]) :: D))
    (hQ : ∀ W' g' c' q' J', Grow 20 (n + 1) c' ((n + 1) * 20) q' → OkA J' q' → Hp B w0 W' ((g', 30, true, [.many (LS ++ V) ((n + 1) * 20), .many J' q']) :: D) → Q (.returned (.slice (some ⟨g', 0, none⟩) (n + 1) c')) W') :
    Calls Try.prog 43 #[.slice (some ⟨gl, 0, none⟩) n c, .int .i64 (n : Int), .slice (some ⟨gv, 0, none⟩) 1 cv] W Q := by
  have HQ := Lib.hid hQ
  clear hQ
  have hle := hG.le
  have hmo : c ≤ 9223372036854775807 := by have := hG.most; simpa [maxLen] using this
  by_cases hnc : c = n
  · subst hnc
    go_enter Try.func43, Try.ntmps43
    go_wp2_with (first | (((first | (refine hApp 1 0 tab_ok tabs_ok rfl rfl rfl rfl rfl rfl rfl hH rfl rfl rfl rfl ?_; refine ⟨?_, ?_, ?_⟩; (focus assumption); (focus (first | omega | (simp; omega))))); clear hH; intro W g c p q J hG hL hJ hH; (try simp only [putH, fls, List.append_nil] at hH hL); (try simp only [Act.put, pA, pB, pC]))) | ((first | (refine iL tab_ok rfl ?_ rfl hH ?_; (focus (first | exact wN rfl | exact rfl)); refine ⟨_, _, rfl, rfl, ?_⟩) | (refine iLi tab_ok rfl ?_ rfl hH ?_; (focus (first | exact wN rfl | exact rfl)); refine ⟨_, _, _, ?_, rfl, rfl, rfl, ?_, ?_⟩; rotate_left; (focus assumption)) | (refine iS1 tab_ok rfl ?_ rfl hH ?_; (focus (first | exact wN rfl | exact rfl)); refine ⟨_, _, _, _, rfl, rfl, rfl, rfl, rfl, ?_⟩) | (refine iSR tab_ok rfl ?_ rfl hH ?_; (focus (first | exact wN rfl | exact rfl)); refine ⟨_, _, _, _, rfl, rfl, rfl, rfl, rfl, ?_, ?_⟩; (focus (repeat (first | exact trivial | assumption | exact OkA.z (by kernel_rfl) (by kernel_rfl) | refine ⟨rfl, ?_⟩ | refine ⟨?_, ?_⟩)))) | (refine hAl tab_ok rfl ?_ hH rfl ?_; (focus (first | exact wN rfl | exact rfl))) | (refine hBx1 rfl ?_ rfl hH ?_; (focus (first | exact wN rfl | exact rfl))) | (refine hBx rfl ?_ rfl hH ?_ ?_; (focus (first | exact wN rfl | exact rfl)); (focus (repeat (first | exact trivial | assumption | exact OkA.z (by kernel_rfl) (by kernel_rfl) | refine ⟨rfl, ?_⟩ | refine ⟨?_, ?_⟩)))) | (refine hBd tab_ok rfl ?_ rfl rfl rfl hH ?_; (focus (first | exact wN rfl | exact rfl)); refine ⟨?_, ?_, ?_⟩; rotate_left; (focus (repeat (first | exact BR.nil | refine BR.one rfl rfl rfl ?_ | (refine BR.row rfl rfl rfl rfl ?_ ?_; (focus (repeat (first | exact trivial | assumption | exact OkA.z (by kernel_rfl) (by kernel_rfl) | refine ⟨rfl, ?_⟩ | refine ⟨?_, ?_⟩))))))))); clear hH; (first | intro W g hH | intro W hH); ((try simp only [Act.put, pA, pB, pC]))))
    obtain rfl := hG.hp
    exact HQ.out _ _ _ _ _ hG hJ (hH.sub (SubH.drop SubH.refl))
  · have hnc1 : ¬ c - n = 0 := by omega
    go_enter Try.func43, Try.ntmps43
    go_wp2_with (first | (((first | (refine hApp 1 0 tab_ok tabs_ok rfl rfl rfl rfl rfl rfl rfl hH rfl rfl rfl rfl ?_; refine ⟨?_, ?_, ?_⟩; (focus assumption); (focus (first | omega | (simp; omega))))); clear hH; intro W g c p q J hG hL hJ hH; (try simp only [putH, fls, List.append_nil] at hH hL); (try simp only [Act.put, pA, pB, pC]))) | ((first | (refine iL tab_ok rfl ?_ rfl hH ?_; (focus (first | exact wN rfl | exact rfl)); refine ⟨_, _, rfl, rfl, ?_⟩) | (refine iLi tab_ok rfl ?_ rfl hH ?_; (focus (first | exact wN rfl | exact rfl)); refine ⟨_, _, _, ?_, rfl, rfl, rfl, ?_, ?_⟩; rotate_left; (focus assumption)) | (refine iS1 tab_ok rfl ?_ rfl hH ?_; (focus (first | exact wN rfl | exact rfl)); refine ⟨_, _, _, _, rfl, rfl, rfl, rfl, rfl, ?_⟩) | (refine iSR tab_ok rfl ?_ rfl hH ?_; (focus (first | exact wN rfl | exact rfl)); refine ⟨_, _, _, _, rfl, rfl, rfl, rfl, rfl, ?_, ?_⟩; (focus (repeat (first | exact trivial | assumption | exact OkA.z (by kernel_rfl) (by kernel_rfl) | refine ⟨rfl, ?_⟩ | refine ⟨?_, ?_⟩)))) | (refine hAl tab_ok rfl ?_ hH rfl ?_; (focus (first | exact wN rfl | exact rfl))) | (refine hBx1 rfl ?_ rfl hH ?_; (focus (first | exact wN rfl | exact rfl))) | (refine hBx rfl ?_ rfl hH ?_ ?_; (focus (first | exact wN rfl | exact rfl)); (focus (repeat (first | exact trivial | assumption | exact OkA.z (by kernel_rfl) (by kernel_rfl) | refine ⟨rfl, ?_⟩ | refine ⟨?_, ?_⟩)))) | (refine hBd tab_ok rfl ?_ rfl rfl rfl hH ?_; (focus (first | exact wN rfl | exact rfl)); refine ⟨?_, ?_, ?_⟩; rotate_left; (focus (repeat (first | exact BR.nil | refine BR.one rfl rfl rfl ?_ | (refine BR.row rfl rfl rfl rfl ?_ ?_; (focus (repeat (first | exact trivial | assumption | exact OkA.z (by kernel_rfl) (by kernel_rfl) | refine ⟨rfl, ?_⟩ | refine ⟨?_, ?_⟩))))))))); clear hH; (first | intro W g hH | intro W hH); ((try simp only [Act.put, pA, pB, pC]))))
    obtain rfl := hG.hp
    exact HQ.out _ _ _ _ _ hG hJ (hH.sub (SubH.drop SubH.refl))
/-- into nothing -/
theorem insNil (oV : OkA V 20)
    (hH : Hp B w0 W ((gv, 30, true, [.many V 20]) :: D))
    (hQ : ∀ W' g' c' q' J', Grow 20 1 c' 20 q' → OkA J' q' → Hp B w0 W' ((g', 30, true, [.many V 20, .many J' q']) :: D) → Q (.returned (.slice (some ⟨g', 0, none⟩) 1 c')) W') :
    Calls Try.prog 43 #[.slice none 0 0, .int .i64 0, .slice (some ⟨gv, 0, none⟩) 1 cv] W Q := by
  have HQ := Lib.hid hQ
  clear hQ
  go_enter Try.func43, Try.ntmps43
  go_wp2_with (first | (((first | (refine hApp0 0 tab_ok tabs_ok rfl rfl rfl rfl rfl rfl rfl hH rfl rfl rfl ?_; refine ⟨?_, ?_, ?_⟩; (focus (first | omega | (simp; omega))); (focus (first | omega | (simp; omega))))); clear hH; intro W g c p q J hG hL hJ hH; (try simp only [putH, fls, List.append_nil] at hH hL); (try simp only [Act.put, pA, pB, pC]))) | ((first | (refine iL tab_ok rfl ?_ rfl hH ?_; (focus (first | exact wN rfl | exact rfl)); refine ⟨_, _, rfl, rfl, ?_⟩) | (refine iLi tab_ok rfl ?_ rfl hH ?_; (focus (first | exact wN rfl | exact rfl)); refine ⟨_, _, _, ?_, rfl, rfl, rfl, ?_, ?_⟩; rotate_left; (focus assumption)) | (refine iS1 tab_ok rfl ?_ rfl hH ?_; (focus (first | exact wN rfl | exact rfl)); refine ⟨_, _, _, _, rfl, rfl, rfl, rfl, rfl, ?_⟩) | (refine iSR tab_ok rfl ?_ rfl hH ?_; (focus (first | exact wN rfl | exact rfl)); refine ⟨_, _, _, _, rfl, rfl, rfl, rfl, rfl, ?_, ?_⟩; (focus (repeat (first | exact trivial | assumption | exact OkA.z (by kernel_rfl) (by kernel_rfl) | refine ⟨rfl, ?_⟩ | refine ⟨?_, ?_⟩)))) | (refine hAl tab_ok rfl ?_ hH rfl ?_; (focus (first | exact wN rfl | exact rfl))) | (refine hBx1 rfl ?_ rfl hH ?_; (focus (first | exact wN rfl | exact rfl))) | (refine hBx rfl ?_ rfl hH ?_ ?_; (focus (first | exact wN rfl | exact rfl)); (focus (repeat (first | exact trivial | assumption | exact OkA.z (by kernel_rfl) (by kernel_rfl) | refine ⟨rfl, ?_⟩ | refine ⟨?_, ?_⟩)))) | (refine hBd tab_ok rfl ?_ rfl rfl rfl hH ?_; (focus (first | exact wN rfl | exact rfl)); refine ⟨?_, ?_, ?_⟩; rotate_left; (focus (repeat (first | exact BR.nil | refine BR.one rfl rfl rfl ?_ | (refine BR.row rfl rfl rfl rfl ?_ ?_; (focus (repeat (first | exact trivial | assumption | exact OkA.z (by kernel_rfl) (by kernel_rfl) | refine ⟨rfl, ?_⟩ | refine ⟨?_, ?_⟩))))))))); clear hH; (first | intro W g hH | intro W hH); ((try simp only [Act.put, pA, pB, pC]))))
  obtain rfl := hG.hp
  exact HQ.out _ _ _ _ _ hG hJ (hH.sub (SubH.keep (SubH.drop SubH.refl)))
set_option maxHeartbeats 4000000 in
/-- in the midst, where there is room -/
theorem insMid (hl : k + 1 + m ≤ 100000) (hG : Grow 20 (k + 1 + m) c ((k + 1 + m) * 20) q) (oJ : OkA J q) (oT : OkA TK (k * 20)) (oX : OkA XK 20) (oR : OkA R (m * 20)) (oV : OkA V 20) (hroom : k + 1 + m < c)
    (hH : Hp B w0 W ((gv, 30, true, [.many V 20]) :: (gl, 30, true, [.many (TK ++ (XK ++ R)) ((k + 1 + m) * 20), .many J q]) :: D))
    (hQ : ∀ W' g' c' q' J', Grow 20 (k + 1 + m + 1) c' ((k + 1 + m + 1) * 20) q' → OkA J' q' → Hp B w0 W' ((g', 30, true, [.many (TK ++ (V ++ (XK ++ R))) ((k + 1 + m + 1) * 20), .many J' q']) :: D) → Q (.returned (.slice (some ⟨g', 0, none⟩) (k + 1 + m + 1) c')) W') :
    Calls Try.prog 43 #[.slice (some ⟨gl, 0, none⟩) (k + 1 + m) c, .int .i64 (k : Int), .slice (some ⟨gv, 0, none⟩) 1 cv] W Q := by
  have HQ := Lib.hid hQ
  clear hQ
  have hle := hG.le
  have hmo : c ≤ 9223372036854775807 := by have := hG.most; simpa [maxLen] using this
  have hq := hG.hq
  clear hG
  have d1 : ((k : Int) == (k : Int) + 1 + (m : Int)) = false := by simp; omega
  have d2 : decide ((k : Int) + 1 + (m : Int) + 1 > (c : Int)) = false := decide_eq_false (by omega)
  have d3 : decide ((c : Int) < (k : Int) + 1 + (m : Int) + 1) = false := decide_eq_false (by omega)
  have n1 : ¬ c = k := by omega
  have n2 : ¬ c = k + 1 := by omega
  have hne : gv ≠ gl := fun e => hH.rows.2.1 _ (List.mem_cons_self ..) e.symm
  have r0 := (hH.rows.mem (i := 0) rfl).1
  have r1 := (hH.rows.mem (i := 1) rfl).1
  have hov : ∀ lb cb, (callFunc 76 #[.slice (some ⟨gv, 0, none⟩) 1 cv, .slice (some ⟨gl, (k + 1) * 20, none⟩) lb cb]).run Try.prog W = .ok (.value (.bool false)) W := fun lb cb => by
    rw [run_callFunc_extern Try.func76 (by kernel_rfl) (by kernel_rfl) (by kernel_rfl) (e := Extern.SlicesOverlaps.overlaps #[22, 22] #[4]) (by kernel_rfl),
      Lib.run_overlaps_apart W 22 4 30 Try.underlying22 20 (fun w => (by kernel_rfl : (Go.sizeOf 30).run Try.prog w = .ok 20 w)) ⟨gv, 0, none⟩ ⟨gl, (k + 1) * 20, none⟩ 1 cv lb cb hne _ _ _ _ r0.shape r1.shape (by simp [fls, oT.1, oX.1]) (r0.frozen _) (r0.frozen _)]
    rfl
  clear hne r0 r1
  have HOV := Lib.hid hov
  clear hov
  have hRl := oR.1
  have hXl := oX.1
  have hTl := oT.1
  have hVl := oV.1
  have hJl := oJ.1
  have oXR : ∀ v ∈ XK ++ R, v.oneCell' = true := fun v hv => by
    rcases List.mem_append.1 hv with hv | hv
    · exact oX.2 v hv
    · exact oR.2 v hv
  have oN : ∀ {Y : List Value}, OkA Y 20 → OkA (TK ++ (Y ++ (XK ++ R))) ((k + 1 + m + 1) * 20) := fun {Y} oY => ⟨by simp only [List.length_append]; rw [hTl, oY.1, hXl, hRl]; omega, fun v hv => by
    rcases List.mem_append.1 hv with hv | hv
    · exact oT.2 v hv
    · rcases List.mem_append.1 hv with hv | hv
      · exact oY.2 v hv
      · exact oXR v hv⟩
  have oJ2 : OkA (J.drop 20) (q - 20) := ⟨by rw [List.length_drop, hJl], fun v hv => oJ.2 v (List.mem_of_mem_drop hv)⟩
  have oN1 := oN oX
  have oN2 := oN oV
  have h20 : 20 ≤ q := by omega
  have hS1 : fls [.many (TK ++ (XK ++ R)) ((k + 1 + m) * 20), .many J q] = (TK ++ XK) ++ ((R ++ J.take 20) ++ J.drop 20) := by rw [fls_two]; simp [List.append_assoc, List.take_append_drop]
  have hj2 : (J.take 20).length = 20 := by rw [List.length_take, hJl]; omega
  have HO1 := Lib.hid (fun W (h : Hp B w0 W ((gv, 30, true, [.many V 20]) :: (gl, 30, true, [.many (TK ++ (XK ++ R)) ((k + 1 + m) * 20), .many J q]) :: D)) => h.oldS (i := 1) (o := k * 20) (C := XK ++ R) rfl ⟨TK, J, by simp [fls], hTl⟩)
  have HO2 := Lib.hid (fun W (h : Hp B w0 W ((gv, 30, true, [.many V 20]) :: (gl, 30, true, [.many (TK ++ (XK ++ (XK ++ R))) ((k + 1 + m + 1) * 20), .many (J.drop 20) (q - 20)]) :: D)) => h.oldS (i := 0) (o := 0) (C := V) rfl ⟨[], [], by simp [fls], rfl⟩)
  have n3 : ¬ c = k + 1 + m := by omega
  have HC1 := Lib.hid (show (XK ++ R).length = (m + 1) * 20 by rw [List.length_append, hXl, hRl]; omega)
  have HP1 := Lib.hid (show (TK ++ XK).length = (k + 1) * 20 by rw [List.length_append, hTl, hXl]; omega)
  have HL1 := Lib.hid (show (R ++ J.take 20).length = (XK ++ R).length by rw [List.length_append, List.length_append, hj2, hXl]; omega)
  have HS1 := Lib.hid hS1
  have HS2 := Lib.hid (show fls [.many (TK ++ (XK ++ (XK ++ R))) ((k + 1 + m + 1) * 20), .many (J.drop 20) (q - 20)] = TK ++ (XK ++ ((XK ++ R) ++ J.drop 20)) by rw [fls_two]; simp [List.append_assoc])
  have HV := Lib.hid oV
  have HT1 := Lib.hid hTl
  have HVX := Lib.hid (show XK.length = V.length by rw [hXl, hVl])
  have HN1 := Lib.hid oN1
  have HN2 := Lib.hid oN2
  have HXR := Lib.hid oXR
  have HJ2 := Lib.hid oJ2
  have HG2 := Lib.hid (show Grow 20 (k + 1 + m + 1) c ((k + 1 + m + 1) * 20) (q - 20) from ⟨rfl, by omega, by omega, by simpa [maxLen] using hmo⟩)
  clear hS1 hRl hXl hTl hVl hJl hj2 oXR oN oN1 oN2 oJ2 h20 oX oR oT oV oJ hq
  go_enter Try.func43, Try.ntmps43
  go_wp2_with (first | ((first | (refine iL tab_ok rfl ?_ rfl hH ?_; (focus (first | exact wN rfl | exact rfl)); refine ⟨_, _, rfl, rfl, ?_⟩) | (refine iLi tab_ok rfl ?_ rfl hH ?_; (focus (first | exact wN rfl | exact rfl)); refine ⟨_, _, _, ?_, rfl, rfl, rfl, ?_, ?_⟩; rotate_left; (focus assumption)) | (refine iS1 tab_ok rfl ?_ rfl hH ?_; (focus (first | exact wN rfl | exact rfl)); refine ⟨_, _, _, _, rfl, rfl, rfl, rfl, rfl, ?_⟩) | (refine iSR tab_ok rfl ?_ rfl hH ?_; (focus (first | exact wN rfl | exact rfl)); refine ⟨_, _, _, _, rfl, rfl, rfl, rfl, rfl, ?_, ?_⟩; (focus (repeat (first | exact trivial | assumption | exact OkA.z (by kernel_rfl) (by kernel_rfl) | refine ⟨rfl, ?_⟩ | refine ⟨?_, ?_⟩)))) | (refine hAl tab_ok rfl ?_ hH rfl ?_; (focus (first | exact wN rfl | exact rfl))) | (refine hBx1 rfl ?_ rfl hH ?_; (focus (first | exact wN rfl | exact rfl))) | (refine hBx rfl ?_ rfl hH ?_ ?_; (focus (first | exact wN rfl | exact rfl)); (focus (repeat (first | exact trivial | assumption | exact OkA.z (by kernel_rfl) (by kernel_rfl) | refine ⟨rfl, ?_⟩ | refine ⟨?_, ?_⟩)))) | (refine hBd tab_ok rfl ?_ rfl rfl rfl hH ?_; (focus (first | exact wN rfl | exact rfl)); refine ⟨?_, ?_, ?_⟩; rotate_left; (focus (repeat (first | exact BR.nil | refine BR.one rfl rfl rfl ?_ | (refine BR.row rfl rfl rfl rfl ?_ ?_; (focus (repeat (first | exact trivial | assumption | exact OkA.z (by kernel_rfl) (by kernel_rfl) | refine ⟨rfl, ?_⟩ | refine ⟨?_, ?_⟩))))))))); clear hH; (first | intro W g hH | intro W hH); ((try simp only [Act.put, pA, pB, pC]))))
  rw [HOV.out, Oper.upon_value]
  go_wp2_with (first | ((first | (refine iL tab_ok rfl ?_ rfl hH ?_; (focus (first | exact wN rfl | exact rfl)); refine ⟨_, _, rfl, rfl, ?_⟩) | (refine iLi tab_ok rfl ?_ rfl hH ?_; (focus (first | exact wN rfl | exact rfl)); refine ⟨_, _, _, ?_, rfl, rfl, rfl, ?_, ?_⟩; rotate_left; (focus assumption)) | (refine iS1 tab_ok rfl ?_ rfl hH ?_; (focus (first | exact wN rfl | exact rfl)); refine ⟨_, _, _, _, rfl, rfl, rfl, rfl, rfl, ?_⟩) | (refine iSR tab_ok rfl ?_ rfl hH ?_; (focus (first | exact wN rfl | exact rfl)); refine ⟨_, _, _, _, rfl, rfl, rfl, rfl, rfl, ?_, ?_⟩; (focus (repeat (first | exact trivial | assumption | exact OkA.z (by kernel_rfl) (by kernel_rfl) | refine ⟨rfl, ?_⟩ | refine ⟨?_, ?_⟩)))) | (refine hAl tab_ok rfl ?_ hH rfl ?_; (focus (first | exact wN rfl | exact rfl))) | (refine hBx1 rfl ?_ rfl hH ?_; (focus (first | exact wN rfl | exact rfl))) | (refine hBx rfl ?_ rfl hH ?_ ?_; (focus (first | exact wN rfl | exact rfl)); (focus (repeat (first | exact trivial | assumption | exact OkA.z (by kernel_rfl) (by kernel_rfl) | refine ⟨rfl, ?_⟩ | refine ⟨?_, ?_⟩)))) | (refine hBd tab_ok rfl ?_ rfl rfl rfl hH ?_; (focus (first | exact wN rfl | exact rfl)); refine ⟨?_, ?_, ?_⟩; rotate_left; (focus (repeat (first | exact BR.nil | refine BR.one rfl rfl rfl ?_ | (refine BR.row rfl rfl rfl rfl ?_ ?_; (focus (repeat (first | exact trivial | assumption | exact OkA.z (by kernel_rfl) (by kernel_rfl) | refine ⟨rfl, ?_⟩ | refine ⟨?_, ?_⟩))))))))); clear hH; (first | intro W g hH | intro W hH); ((try simp only [Act.put, pA, pB, pC]))))
  ((with_reducible refine regKN [8] hH (SubH.refl) (by kernel_rfl) ?_); (clear hH; intro W hH); (refine hk_pures (fuel := 1) (pk 0 rfl (pk 1 rfl (pk 2 rfl (pk 3 rfl (pk 4 rfl (pk 5 rfl (pk 6 rfl (pk 7 rfl (PickR.nil))))))))) (by kernel_rfl) (by kernel_rfl) (fun _ _ _ _ _ h => h) ?_; (repeat (first | (go_big_quiet_want; (refine qBd tab_ok rfl rfl rfl rfl ?_; refine ⟨?_, ?_, ?_⟩; rotate_left; (focus (repeat (first | exact BR.nil | refine BR.one rfl rfl rfl ?_ | (refine BR.row rfl rfl rfl rfl ?_ ?_; (focus (repeat (first | exact trivial | assumption | exact OkA.z (by kernel_rfl) (by kernel_rfl) | refine ⟨rfl, ?_⟩ | refine ⟨?_, ?_⟩)))))))); (try simp only [Act.put, pA, pB, pC]); go_big_quiet_on) | go_big_quiet_step (fail))); refine hk_nil ?_); (refine hk_one (fuel := 0) 8 rfl (by kernel_rfl) ?_; go_wp2_with (first | ((refine hCpy 1 tab_ok tabs_ok rfl rfl rfl rfl rfl rfl hH rfl ?_; refine ⟨XK ++ R, TK ++ XK, R ++ J.take 20, J.drop 20, [.many (TK ++ (XK ++ (XK ++ R))) ((k + 1 + m + 1) * 20), .many (J.drop 20) (q - 20)], HO1.out _ hH, ?_, HXR.out, HS1.out, HP1.out, HL1.out, ⟨HN1.out, HJ2.out, trivial⟩, ?_, ?_⟩; (focus (rw [HC1.out]; simp only [Nat.min_def]; split <;> omega)); (focus (rw [HS2.out]; simp [List.append_assoc])); intro W H' hu h; (obtain rfl := Option.some.inj hu); clear hu hH; have hH := h; clear h; ((try simp only [Act.put, pA, pB, pC]))))); refine hkQ_break ?_; (try simp only [Act.put, pA, pB, pC])); refine hk_endN (by kernel_rfl) ?_)
  go_wp2_with (first | ((refine hCpy 1 tab_ok tabs_ok rfl rfl rfl rfl rfl rfl hH rfl ?_; refine ⟨V, TK, XK, (XK ++ R) ++ J.drop 20, [.many (TK ++ (V ++ (XK ++ R))) ((k + 1 + m + 1) * 20), .many (J.drop 20) (q - 20)], HO2.out _ hH, ?_, HV.out.2, HS2.out, HT1.out, HVX.out, ⟨HN2.out, HJ2.out, trivial⟩, ?_, ?_⟩; (focus (rw [HV.out.1]; simp only [Nat.min_def]; split <;> omega)); (focus (rw [fls_two]; simp [List.append_assoc])); intro W H' hu h; (obtain rfl := Option.some.inj hu); clear hu hH; have hH := h; clear h; ((try simp only [Act.put, pA, pB, pC])))) | ((first | (refine iL tab_ok rfl ?_ rfl hH ?_; (focus (first | exact wN rfl | exact rfl)); refine ⟨_, _, rfl, rfl, ?_⟩) | (refine iLi tab_ok rfl ?_ rfl hH ?_; (focus (first | exact wN rfl | exact rfl)); refine ⟨_, _, _, ?_, rfl, rfl, rfl, ?_, ?_⟩; rotate_left; (focus assumption)) | (refine iS1 tab_ok rfl ?_ rfl hH ?_; (focus (first | exact wN rfl | exact rfl)); refine ⟨_, _, _, _, rfl, rfl, rfl, rfl, rfl, ?_⟩) | (refine iSR tab_ok rfl ?_ rfl hH ?_; (focus (first | exact wN rfl | exact rfl)); refine ⟨_, _, _, _, rfl, rfl, rfl, rfl, rfl, ?_, ?_⟩; (focus (repeat (first | exact trivial | assumption | exact OkA.z (by kernel_rfl) (by kernel_rfl) | refine ⟨rfl, ?_⟩ | refine ⟨?_, ?_⟩)))) | (refine hAl tab_ok rfl ?_ hH rfl ?_; (focus (first | exact wN rfl | exact rfl))) | (refine hBx1 rfl ?_ rfl hH ?_; (focus (first | exact wN rfl | exact rfl))) | (refine hBx rfl ?_ rfl hH ?_ ?_; (focus (first | exact wN rfl | exact rfl)); (focus (repeat (first | exact trivial | assumption | exact OkA.z (by kernel_rfl) (by kernel_rfl) | refine ⟨rfl, ?_⟩ | refine ⟨?_, ?_⟩)))) | (refine hBd tab_ok rfl ?_ rfl rfl rfl hH ?_; (focus (first | exact wN rfl | exact rfl)); refine ⟨?_, ?_, ?_⟩; rotate_left; (focus (repeat (first | exact BR.nil | refine BR.one rfl rfl rfl ?_ | (refine BR.row rfl rfl rfl rfl ?_ ?_; (focus (repeat (first | exact trivial | assumption | exact OkA.z (by kernel_rfl) (by kernel_rfl) | refine ⟨rfl, ?_⟩ | refine ⟨?_, ?_⟩))))))))); clear hH; (first | intro W g hH | intro W hH); ((try simp only [Act.put, pA, pB, pC]))))
  exact HQ.out _ _ _ _ _ HG2.out HJ2.out (hH.sub (SubH.drop SubH.refl))
set_option maxHeartbeats 4000000 in
/-- in the midst, where there is no room -/
theorem insGrow (hl : k + 1 + m ≤ 100000) (oJ : OkA J q) (oT : OkA TK (k * 20)) (oX : OkA XK 20) (oR : OkA R (m * 20)) (oV : OkA V 20)
    (hH : Hp B w0 W ((gv, 30, true, [.many V 20]) :: (gl, 30, true, [.many (TK ++ (XK ++ R)) ((k + 1 + m) * 20), .many J q]) :: D))
    (hQ : ∀ W' g' c' q' J', Grow 20 (k + 1 + m + 1) c' ((k + 1 + m + 1) * 20) q' → OkA J' q' → Hp B w0 W' ((g', 30, true, [.many (TK ++ (V ++ (XK ++ R))) ((k + 1 + m + 1) * 20), .many J' q']) :: D) → Q (.returned (.slice (some ⟨g', 0, none⟩) (k + 1 + m + 1) c')) W') :
    Calls Try.prog 43 #[.slice (some ⟨gl, 0, none⟩) (k + 1 + m) (k + 1 + m), .int .i64 (k : Int), .slice (some ⟨gv, 0, none⟩) 1 cv] W Q := by
  have HQ := Lib.hid hQ
  clear hQ
  have d1 : ((k : Int) == (k : Int) + 1 + (m : Int)) = false := by simp; omega
  have d2 : decide ((k : Int) + 1 + (m : Int) + 1 > (k : Int) + 1 + (m : Int)) = true := decide_eq_true (by omega)
  have d3 : decide ((k : Int) + 1 + (m : Int) < (k : Int) + 1 + (m : Int) + 1) = true := decide_eq_true (by omega)
  have n1 : ¬ k + 1 + m = k := by omega
  have n2 : ¬ k + 1 + m - k = 0 := by omega
  have hRl := oR.1
  have hXl := oX.1
  have hTl := oT.1
  have hVl := oV.1
  have oXR : ∀ v ∈ XK ++ R, v.oneCell' = true := fun v hv => by
    rcases List.mem_append.1 hv with hv | hv
    · exact oX.2 v hv
    · exact oR.2 v hv
  have HC1 := Lib.hid (show (XK ++ R).length = (m + 1) * 20 by rw [List.length_append, hXl, hRl]; omega)
  have HP1 := Lib.hid (show (TK ++ V).length = (k + 1) * 20 by rw [List.length_append, hTl, hVl]; omega)
  have HXR := Lib.hid oXR
  have HV := Lib.hid oV
  have HT1 := Lib.hid hTl
  have HOKT := Lib.hid oT
  have HS0 := Lib.hid (show fls [.many (TK ++ (XK ++ R)) ((k + 1 + m) * 20), .many J q] = TK ++ ((XK ++ R) ++ J) by rw [fls_two]; simp [List.append_assoc])
  have HO1 := Lib.hid (fun (W : World) (r1 r2 : Nat × TypeId × Bool × List Seg) (h : Hp B w0 W (r1 :: r2 :: (gl, 30, true, [.many (TK ++ (XK ++ R)) ((k + 1 + m) * 20), .many J q]) :: D)) => h.oldS (i := 2) (o := k * 20) (C := XK ++ R) rfl ⟨TK, J, by simp [fls], hTl⟩)
  have HO2 := Lib.hid (fun (W : World) (r1 : Nat × TypeId × Bool × List Seg) (D' : HB) (h : Hp B w0 W (r1 :: (gv, 30, true, [.many V 20]) :: D')) => h.oldS (i := 1) (o := 0) (C := V) rfl ⟨[], [], by simp [fls], rfl⟩)
  have HNZ := Lib.hid (show ∀ Z : List Value, OkA Z ((m + 2) * 20) → (Z.take 20).length = V.length ∧ (Z.drop 20).length = (XK ++ R).length ∧ OkA (TK ++ (V ++ Z.drop 20)) ((k + (m + 2)) * 20) ∧ TK ++ Z = TK ++ (Z.take 20 ++ Z.drop 20) from fun Z hZ => ⟨by rw [List.length_take, hZ.1, hVl]; omega, by rw [List.length_drop, hZ.1, List.length_append, hXl, hRl]; omega, ⟨by simp only [List.length_append, List.length_drop]; rw [hTl, hVl, hZ.1]; omega, fun v hv => by
    rcases List.mem_append.1 hv with hv | hv
    · exact oT.2 v hv
    · rcases List.mem_append.1 hv with hv | hv
      · exact oV.2 v hv
      · exact hZ.2 v (List.mem_of_mem_drop hv)⟩, by rw [List.take_append_drop]⟩)
  have HN2 := Lib.hid (show OkA (TK ++ (V ++ (XK ++ R))) ((k + (m + 2)) * 20) from ⟨by simp only [List.length_append]; rw [hTl, hVl, hXl, hRl]; omega, fun v hv => by
    rcases List.mem_append.1 hv with hv | hv
    · exact oT.2 v hv
    · rcases List.mem_append.1 hv with hv | hv
      · exact oV.2 v hv
      · exact oXR v hv⟩)
  clear hRl hXl hTl hVl oXR oX oR oT oV oJ
  go_enter Try.func43, Try.ntmps43
  go_wp2_with (first | ((refine hApZ 1 tab_ok tabs_ok rfl rfl rfl rfl rfl Try.underlying3 rfl rfl hH rfl rfl ?_; refine ⟨m + 2, TK, (XK ++ R) ++ J, ?_, HS0.out, HT1.out, ?_, ?_, ?_, ?_⟩; (focus (first | omega | (push_cast; omega))); (focus omega); (focus omega); (focus omega); clear hH; intro W g c q Z J' hG hZ hJ' hH; (have hle := hG.le); (have hmo : c ≤ 9223372036854775807 := by have := hG.most; simpa [maxLen] using this); (have n5 : ¬ c = k := by omega); (have n6 : ¬ c = k + 1 := by omega); ((try simp only [Act.put, pA, pB, pC])))) | ((refine hCpy 0 tab_ok tabs_ok rfl rfl rfl rfl rfl rfl hH rfl ?_; refine ⟨V, TK, Z.take 20, Z.drop 20 ++ J', [.many (TK ++ (V ++ Z.drop 20)) ((k + (m + 2)) * 20), .many J' q], HO2.out _ _ _ hH, ?_, HV.out.2, ?_, HT1.out, (HNZ.out _ hZ).1, ⟨(HNZ.out _ hZ).2.2.1, hJ', trivial⟩, ?_, ?_⟩; (focus (rw [HV.out.1]; simp only [Nat.min_def]; split <;> omega)); (focus (rw [fls_two, (HNZ.out _ hZ).2.2.2]; simp only [List.append_assoc])); (focus (rw [fls_two]; simp [List.append_assoc])); intro W H' hu h; (obtain rfl := Option.some.inj hu); clear hu hH; have hH := h; clear h; ((try simp only [Act.put, pA, pB, pC])))) | ((first | (refine iL tab_ok rfl ?_ rfl hH ?_; (focus (first | exact wN rfl | exact rfl)); refine ⟨_, _, rfl, rfl, ?_⟩) | (refine iLi tab_ok rfl ?_ rfl hH ?_; (focus (first | exact wN rfl | exact rfl)); refine ⟨_, _, _, ?_, rfl, rfl, rfl, ?_, ?_⟩; rotate_left; (focus assumption)) | (refine iS1 tab_ok rfl ?_ rfl hH ?_; (focus (first | exact wN rfl | exact rfl)); refine ⟨_, _, _, _, rfl, rfl, rfl, rfl, rfl, ?_⟩) | (refine iSR tab_ok rfl ?_ rfl hH ?_; (focus (first | exact wN rfl | exact rfl)); refine ⟨_, _, _, _, rfl, rfl, rfl, rfl, rfl, ?_, ?_⟩; (focus (repeat (first | exact trivial | assumption | exact OkA.z (by kernel_rfl) (by kernel_rfl) | refine ⟨rfl, ?_⟩ | refine ⟨?_, ?_⟩)))) | (refine hAl tab_ok rfl ?_ hH rfl ?_; (focus (first | exact wN rfl | exact rfl))) | (refine hBx1 rfl ?_ rfl hH ?_; (focus (first | exact wN rfl | exact rfl))) | (refine hBx rfl ?_ rfl hH ?_ ?_; (focus (first | exact wN rfl | exact rfl)); (focus (repeat (first | exact trivial | assumption | exact OkA.z (by kernel_rfl) (by kernel_rfl) | refine ⟨rfl, ?_⟩ | refine ⟨?_, ?_⟩)))) | (refine hBd tab_ok rfl ?_ rfl rfl rfl hH ?_; (focus (first | exact wN rfl | exact rfl)); refine ⟨?_, ?_, ?_⟩; rotate_left; (focus (repeat (first | exact BR.nil | refine BR.one rfl rfl rfl ?_ | (refine BR.row rfl rfl rfl rfl ?_ ?_; (focus (repeat (first | exact trivial | assumption | exact OkA.z (by kernel_rfl) (by kernel_rfl) | refine ⟨rfl, ?_⟩ | refine ⟨?_, ?_⟩))))))))); clear hH; (first | intro W g hH | intro W hH); ((try simp only [Act.put, pA, pB, pC]))))
  ((with_reducible refine regKN [8] hH (SubH.refl) (by kernel_rfl) ?_); (clear hH; intro W hH); (refine hk_pures (fuel := 1) (pk 0 rfl (pk 1 rfl (pk 2 rfl (pk 3 rfl (pk 4 rfl (pk 5 rfl (pk 6 rfl (pk 7 rfl (PickR.nil))))))))) (by kernel_rfl) (by kernel_rfl) (fun _ _ _ _ _ h => h) ?_; (repeat (first | (go_big_quiet_want; (refine qBd tab_ok rfl rfl rfl rfl ?_; refine ⟨?_, ?_, ?_⟩; rotate_left; (focus (repeat (first | exact BR.nil | refine BR.one rfl rfl rfl ?_ | (refine BR.row rfl rfl rfl rfl ?_ ?_; (focus (repeat (first | exact trivial | assumption | exact OkA.z (by kernel_rfl) (by kernel_rfl) | refine ⟨rfl, ?_⟩ | refine ⟨?_, ?_⟩)))))))); (try simp only [Act.put, pA, pB, pC]); go_big_quiet_on) | go_big_quiet_step (fail))); refine hk_nil ?_); (refine hk_one (fuel := 0) 8 rfl (by kernel_rfl) ?_; go_wp2_with (first | ((refine hCpy 0 tab_ok tabs_ok rfl rfl rfl rfl rfl rfl hH rfl ?_; refine ⟨XK ++ R, TK ++ V, Z.drop 20, J', [.many (TK ++ (V ++ (XK ++ R))) ((k + (m + 2)) * 20), .many J' q], HO1.out _ _ _ hH, ?_, HXR.out, ?_, HP1.out, (HNZ.out _ hZ).2.1, ⟨HN2.out, hJ', trivial⟩, ?_, ?_⟩; (focus (rw [HC1.out]; simp only [Nat.min_def]; split <;> omega)); (focus (rw [fls_two]; simp only [List.append_assoc])); (focus (rw [fls_two]; simp only [List.append_assoc])); intro W H' hu h; (obtain rfl := Option.some.inj hu); clear hu hH; have hH := h; clear h; ((try simp only [Act.put, pA, pB, pC]))))); refine hkQ_break ?_; (try simp only [Act.put, pA, pB, pC])); refine hk_endN (by kernel_rfl) ?_)
  go_wp2_with (first | ((first | (refine iL tab_ok rfl ?_ rfl hH ?_; (focus (first | exact wN rfl | exact rfl)); refine ⟨_, _, rfl, rfl, ?_⟩) | (refine iLi tab_ok rfl ?_ rfl hH ?_; (focus (first | exact wN rfl | exact rfl)); refine ⟨_, _, _, ?_, rfl, rfl, rfl, ?_, ?_⟩; rotate_left; (focus assumption)) | (refine iS1 tab_ok rfl ?_ rfl hH ?_; (focus (first | exact wN rfl | exact rfl)); refine ⟨_, _, _, _, rfl, rfl, rfl, rfl, rfl, ?_⟩) | (refine iSR tab_ok rfl ?_ rfl hH ?_; (focus (first | exact wN rfl | exact rfl)); refine ⟨_, _, _, _, rfl, rfl, rfl, rfl, rfl, ?_, ?_⟩; (focus (repeat (first | exact trivial | assumption | exact OkA.z (by kernel_rfl) (by kernel_rfl) | refine ⟨rfl, ?_⟩ | refine ⟨?_, ?_⟩)))) | (refine hAl tab_ok rfl ?_ hH rfl ?_; (focus (first | exact wN rfl | exact rfl))) | (refine hBx1 rfl ?_ rfl hH ?_; (focus (first | exact wN rfl | exact rfl))) | (refine hBx rfl ?_ rfl hH ?_ ?_; (focus (first | exact wN rfl | exact rfl)); (focus (repeat (first | exact trivial | assumption | exact OkA.z (by kernel_rfl) (by kernel_rfl) | refine ⟨rfl, ?_⟩ | refine ⟨?_, ?_⟩)))) | (refine hBd tab_ok rfl ?_ rfl rfl rfl hH ?_; (focus (first | exact wN rfl | exact rfl)); refine ⟨?_, ?_, ?_⟩; rotate_left; (focus (repeat (first | exact BR.nil | refine BR.one rfl rfl rfl ?_ | (refine BR.row rfl rfl rfl rfl ?_ ?_; (focus (repeat (first | exact trivial | assumption | exact OkA.z (by kernel_rfl) (by kernel_rfl) | refine ⟨rfl, ?_⟩ | refine ⟨?_, ?_⟩))))))))); clear hH; (first | intro W g hH | intro W hH); ((try simp only [Act.put, pA, pB, pC]))))
  rw [show k + (m + 2) = k + 1 + m + 1 by omega] at hG hH ⊢
  exact HQ.out _ _ _ _ _ hG hJ' (hH.sub (SubH.keep (SubH.drop (SubH.drop SubH.refl))))
/-- wherever -/
theorem hIns {X : List Ev} {y : Ev} {SV : List Seg} (hk : k ≤ X.length) (hl : X.length ≤ 100000) (hG : Grow 20 X.length c (X.length * 20) q) (oJ : OkA J q) (hSV : fls SV = fls (evS y))
    (hH : Hp B w0 W ((gv, 30, true, SV) :: (gl, 30, true, [.many (evsL X) (X.length * 20), .many J q]) :: D))
    (hQ : ∀ W' g' c' q' J', Grow 20 (X.length + 1) c' ((X.length + 1) * 20) q' → OkA J' q' → Hp B w0 W' ((g', 30, true, [.many (evsL (X.take k ++ y :: X.drop k)) ((X.length + 1) * 20), .many J' q']) :: D) → Q (.returned (.slice (some ⟨g', 0, none⟩) (X.length + 1) c')) W') :
    Calls Try.prog 43 #[.slice (some ⟨gl, 0, none⟩) X.length c, .int .i64 (k : Int), .slice (some ⟨gv, 0, none⟩) 1 cv] W Q := by
  have oV : OkA (fls (evS y)) 20 := ⟨evS_fls_len y, okS_one (evS_ok y)⟩
  have hH := hH.re0 (S' := [.many (fls (evS y)) 20]) (by rw [fls1, hSV]) ⟨oV, trivial⟩
  rw [evsL_app, evsL_cons] at hQ
  by_cases hn : k = X.length
  · subst hn
    rw [List.take_of_length_le (Nat.le_refl _), List.drop_of_length_le (Nat.le_refl _)] at hQ
    refine insEnd hl hG oJ oV hH (fun W' g' c' q' J' h1 h2 h3 => hQ W' g' c' q' J' h1 h2 ?_)
    have e0 : evsL ([] : List Ev) = [] := rfl
    rw [e0, List.append_nil]
    exact h3
  · have hk2 : k < X.length := by omega
    obtain ⟨m, hm⟩ : ∃ m, X.length = k + 1 + m := ⟨X.length - (k + 1), by omega⟩
    have hd : X.drop k = X[k] :: X.drop (k + 1) := List.drop_eq_getElem_cons hk2
    have e0 : evsL X = evsL (X.take k) ++ (fls (evS X[k]) ++ evsL (X.drop (k + 1))) := by rw [← evsL_cons, ← hd, ← evsL_app, List.take_append_drop]
    have oT : OkA (evsL (X.take k)) (k * 20) := by have := evsL_ok (X.take k); rwa [List.length_take, Nat.min_eq_left hk] at this
    have oX : OkA (fls (evS X[k])) 20 := ⟨evS_fls_len _, okS_one (evS_ok _)⟩
    have oR : OkA (evsL (X.drop (k + 1))) (m * 20) := by have := evsL_ok (X.drop (k + 1)); rwa [List.length_drop, show X.length - (k + 1) = m by omega] at this
    rw [hd, evsL_cons] at hQ
    rw [e0] at hH
    rw [hm] at hH hG hQ hl ⊢
    by_cases hc : c = k + 1 + m
    · subst hc
      exact insGrow hl oJ oT oX oR oV hH hQ
    · exact insMid hl hG oJ oT oX oR oV (by have := hG.le; omega) hH hQ
theorem hIns0 {y : Ev} {SV : List Seg} (hSV : fls SV = fls (evS y))
    (hH : Hp B w0 W ((gv, 30, true, SV) :: D))
    (hQ : ∀ W' g' c' q' J', Grow 20 1 c' 20 q' → OkA J' q' → Hp B w0 W' ((g', 30, true, [.many (evsL [y]) 20, .many J' q']) :: D) → Q (.returned (.slice (some ⟨g', 0, none⟩) 1 c')) W') :
    Calls Try.prog 43 #[.slice none 0 0, .int .i64 0, .slice (some ⟨gv, 0, none⟩) 1 cv] W Q := by
  have oV : OkA (fls (evS y)) 20 := ⟨evS_fls_len y, okS_one (evS_ok y)⟩
  have hH := hH.re0 (S' := [.many (fls (evS y)) 20]) (by rw [fls1, hSV]) ⟨oV, trivial⟩
  refine insNil oV hH (fun W' g' c' q' J' h1 h2 h3 => hQ W' g' c' q' J' h1 h2 ?_)
  have e0 : evsL [y] = fls (evS y) := by rw [evsL_cons, show evsL ([] : List Ev) = [] from rfl, List.append_nil]
  rw [e0]
  exact h3
end
end Go.Proofs.Ytdbdlhmgokllaaa

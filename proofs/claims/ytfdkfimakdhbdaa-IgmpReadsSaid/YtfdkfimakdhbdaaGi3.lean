/-
  Contracts of package igmp: Read: queries (printed by tools/gen-gi.py).
-/
import Derived.Test.YtfdkfimakdhbdaaGi1
import Derived.Test.YtfdkfimakdhbdaaIn
namespace Go.Proofs.Ytfdkfimakdhbdaa
-- %in
open Go.ChangeShapes Go.WideShapes Go.ChangeAt Go.RowKit
set_option linter.unusedVariables false
set_option linter.unusedSimpArgs false
set_option maxRecDepth 20000
attribute [local irreducible] wpList

theorem qryF_recs (s : ByteArray) (t : St) (c : Nat) : (qryF s t c).1.recs = [] := by
  unfold qryF
  simp only
  split
  · split <;> rfl
  · rfl
section
variable {w : World} {s : ByteArray}
set_option maxHeartbeats 2000000 in
theorem iread_17a (hs : s.size ≤ 100000) (h : 8 ≤ s.size) (hb : sumOk s = true) (h9 : s.size ≤ 8) (hk : kindF s = 17) : Calls Try.prog 7 #[.string s] w fun e w' => RdPost w (readF s).1 (readF s).2 e w' := by
  have hH := Hp.refl w
  have d1 : decide ((s.size : Int) < 8) = false := decide_eq_false (by omega)
  have hgood := @sgood_any s hs
  rw [hb] at hgood
  have E8 : (decide (8 < s.size) && decide (s.size < 12)) = false := by rw [decide_eq_false (by omega), Bool.false_and]
  have d8 : decide ((8 : Int) < (s.size : Int)) = false := decide_eq_false (by omega)
  obtain ⟨t1, t2, v3, N1, N2, N3⟩ := pre3 w.heap.size w hs
  have N1 := Lib.hid N1
  have N2 := Lib.hid N2
  have N3 := Lib.hid N3
  have hk3 := st3_k (s := s)
  have hv2 : secF s < 256 := numV_lt _ _ _
  have he := readE h hb
  rw [hk] at N1
  obtain ⟨b4, hb4⟩ : ∃ b, (decide (8 < s.size) && decide (s.size < 12)) = b := ⟨_, rfl⟩
  obtain ⟨t4, ht4⟩ : ∃ t, failS b4 2 (st3 s) = t := ⟨_, rfl⟩
  have hk4 : t4.k ≤ s.size := by rw [← ht4, failS_k]; exact hk3
  have F4 := fun g gr => failC (B := w.heap.size) (w0 := w) (g := g) (gr := gr) (s := s) (is := b4) (c := 2) (t := st3 s)
  have e4 := failS_eq b4 2 (st3 s)
  rw [ht4] at F4 e4
  have F4 := Lib.hid F4
  obtain ⟨⟨v6, ver, kind, resp, a, quiet, rob, every, src, recs⟩, t5, hres⟩ : ∃ R t, qryF s t4 (secF s) = (R, t) := ⟨_, _, rfl⟩
  have hrec : recs = [] := by have := qryF_recs s t4 (secF s); rw [hres] at this; exact this
  subst hrec
  have hT : readT s = (⟨v6, ver, kind, resp, a, quiet, rob, every, src, []⟩, t5) := by unfold readT; rw [if_pos hk, hb4, ht4, hres]
  have RP := Lib.hid (show ∀ (W : World) (H : HB) (Q : Ending → World → Prop) (g gr gt : Nat), Hp w.heap.size w W ((gt, 29, true, [.one (.bool false), .one (.int .i64 0), .one (.int .i64 1), .one (.int .i64 0), .many (zeroL Try.prog 25) 17, .one (.bool false), .one (.int .i64 0), .one (.int .i64 0), .one (.slice none 0 0), .one (.slice none 0 0)]) :: rdH g gr s t4 H) → (∀ W' sp sc D, Hid (∀ B w0 W, Hp B w0 W D → AdsAt W sp src) → Hid (∀ r ∈ D, r.2.2.1 = true) → Hp w.heap.size w W' ((gt, 29, true, [.one (.bool v6), .one (.int .i64 ver), .one (.int .i64 kind), .one (.int .i64 resp), .many (adL a) 17, .one (.bool quiet), .one (.int .i64 rob), .one (.int .i64 every), .one (.slice sp src.length sc), .one (.slice none 0 0)]) :: rdH g gr s t5 (H ++ D)) → Q (.returned (.tuple #[])) W') → Calls Try.prog 22 #[.pointer (some ⟨g, 0, none⟩), .pointer (some ⟨gt, 0, none⟩), .int .i64 (secF s : Int)] W Q from fun W H Q g gr gt hH hQ => by
    refine iqueries_any (c := secF s) zadr_ok (by omega) hs hk4 (hH.perm ((List.Perm.swap _ _ _).trans ((List.Perm.swap _ _ _).cons _))) ?_
    intro W' R2 t2 D sp sc e hA hD hH
    have e2 := e.out.symm.trans hres
    injection e2 with e3 e4
    subst e3
    subst e4
    exact hQ W' sp sc D hA hD (hH.perm (((List.Perm.swap _ _ _).cons _).trans (List.Perm.swap _ _ _))))
  clear hres ht4 hk hk3 hk4 hv2
  generalize secF s = v2 at *
  generalize st3 s = t3 at *
  obtain ⟨k3, b3, e3⟩ := t3
  obtain ⟨k4, b4', e4'⟩ := t4
  simp only at e4
  injection e4 with x1 x2 x3
  subst x1
  subst x2
  clear x3
  have oA := adL_ok a
  obtain ⟨A, hA⟩ : ∃ Y, Y = adL a := ⟨_, rfl⟩
  have HA := Lib.hid hA
  rw [← hA] at RP oA
  clear hA
  have hb5 := hb4.symm.trans E8
  subst hb5
  clear hb4 E8
  rw [hT] at he
  clear hT
  obtain ⟨k5, b5, e5⟩ := t5
  simp only at he
  by_cases hz : e5 = 0
  · subst hz
    rw [if_pos rfl] at he
    rw [he]
    clear he
    have d2 : ((0 : Int) != 0) = false := rfl
    go_enter Try.func7, Try.ntmps7
    go_wp2_with (first | ((go_at_call 18; refine callR 0 hH rfl (fun hr => hgood hr) ?_; (clear hH; (first | intro W g hH | intro W hH); (try simp only [Act.put, pA, pB, pC])))) | ((refine hSl tab_ok rfl ?_ rfl tabs_ok rfl rfl rfl rfl rfl hH ?_; (focus (first | exact wN rfl | exact rfl)); refine ⟨?_, ?_, ?_⟩; rotate_left; (focus (repeat (first | exact BR.nil | refine BR.one rfl rfl rfl ?_ | (refine BR.row rfl rfl rfl rfl ?_ ?_; (focus (repeat (first | exact trivial | assumption | exact OkA.z (by kernel_rfl) (by kernel_rfl) | refine ⟨rfl, ?_⟩ | refine ⟨?_, ?_⟩))))))); clear hH; intro W g hH; (try simp only [Act.put, pA, pB, pC]))) | ((go_at_call 19; refine hNew hH ?_; (clear hH; intro W gr hH); (try simp only [Act.put, List.setIfInBounds_toArray, List.set_cons_succ, List.set_cons_zero]))) | ((go_at_call 20; (first | refine N1.out _ _ _ _ _ _ _ _ 0 1 rfl hH rfl rfl rfl rfl ?_ | refine N2.out _ _ _ _ _ _ _ _ 0 1 rfl hH rfl rfl rfl rfl ?_ | refine N3.out _ _ _ _ _ _ _ _ 0 1 rfl hH rfl rfl rfl rfl ?_); (clear hH; (first | intro W g hH | intro W hH); (try simp only [Act.put, pA, pB, pC])))) | ((go_at_call 22; refine RP.out _ _ _ _ _ _ hH ?_; (clear hH; intro W sp sc D hA hD hH); (try simp only [List.cons_append, List.nil_append, List.append_assoc] at hH); (try simp only [Act.put, List.setIfInBounds_toArray, List.set_cons_succ, List.set_cons_zero]))) | ((go_at_call 21; refine F4.out _ _ _ _ _ _ _ _ _ 1 2 rfl rfl hH rfl rfl rfl rfl ?_; (clear hH; (first | intro W g hH | intro W hH); (try simp only [Act.put, pA, pB, pC])))) | ((first | (refine iL tab_ok rfl ?_ rfl hH ?_; (focus (first | exact wN rfl | exact rfl)); refine ⟨_, _, rfl, rfl, ?_⟩) | (refine iS1 tab_ok rfl ?_ rfl hH ?_; (focus (first | exact wN rfl | exact rfl)); refine ⟨_, _, _, _, rfl, rfl, rfl, rfl, rfl, ?_⟩) | (refine iSR tab_ok rfl ?_ rfl hH ?_; (focus (first | exact wN rfl | exact rfl)); refine ⟨_, _, _, _, rfl, rfl, rfl, rfl, rfl, ?_, ?_⟩; (focus (repeat (first | exact trivial | assumption | exact OkA.z (by kernel_rfl) (by kernel_rfl) | refine ⟨rfl, ?_⟩ | refine ⟨?_, ?_⟩)))) | (refine hAl tab_ok rfl ?_ hH rfl ?_; (focus (first | exact wN rfl | exact rfl))) | (refine hBx rfl ?_ rfl hH ?_ ?_; (focus (first | exact wN rfl | exact rfl)); (focus (repeat (first | exact trivial | assumption | exact OkA.z (by kernel_rfl) (by kernel_rfl) | refine ⟨rfl, ?_⟩ | refine ⟨?_, ?_⟩)))) | (refine hBd tab_ok rfl ?_ rfl rfl rfl hH ?_; (focus (first | exact wN rfl | exact rfl)); refine ⟨?_, ?_, ?_⟩; rotate_left; (focus (repeat (first | exact BR.nil | refine BR.one rfl rfl rfl ?_ | (refine BR.row rfl rfl rfl rfl ?_ ?_; (focus (repeat (first | exact trivial | assumption | exact OkA.z (by kernel_rfl) (by kernel_rfl) | refine ⟨rfl, ?_⟩ | refine ⟨?_, ?_⟩))))))))); clear hH; (first | intro W g hH | intro W hH); ((try simp only [Act.put, pA, pB, pC]))))
    (refine iRet2 Try.results7 tab_ok rfl rfl hH ?_; refine ⟨_, _, rfl, rfl, rfl, ?_⟩)
    refine RdPost.mk (sp := sp) (rp := none) (sc := sc) (rc := 0) (D := D) (by unfold tkS; simp only; rw [← HA.out]; rfl) ⟨hH.sub (SubH.drop (SubH.drop (SubH.drop (SubH.drop (SubH.drop SubH.refl))))), hD.out⟩ (fun B w0 W h => ⟨hA.out _ _ _ h, RcsAt.nil⟩)
  · rw [if_neg hz] at he
    rw [he]
    clear he
    have d2 : (e5 != 0) = true := by simpa using hz
    go_enter Try.func7, Try.ntmps7
    go_wp2_with (first | ((go_at_call 18; refine callR 0 hH rfl (fun hr => hgood hr) ?_; (clear hH; (first | intro W g hH | intro W hH); (try simp only [Act.put, pA, pB, pC])))) | ((refine hSl tab_ok rfl ?_ rfl tabs_ok rfl rfl rfl rfl rfl hH ?_; (focus (first | exact wN rfl | exact rfl)); refine ⟨?_, ?_, ?_⟩; rotate_left; (focus (repeat (first | exact BR.nil | refine BR.one rfl rfl rfl ?_ | (refine BR.row rfl rfl rfl rfl ?_ ?_; (focus (repeat (first | exact trivial | assumption | exact OkA.z (by kernel_rfl) (by kernel_rfl) | refine ⟨rfl, ?_⟩ | refine ⟨?_, ?_⟩))))))); clear hH; intro W g hH; (try simp only [Act.put, pA, pB, pC]))) | ((go_at_call 19; refine hNew hH ?_; (clear hH; intro W gr hH); (try simp only [Act.put, List.setIfInBounds_toArray, List.set_cons_succ, List.set_cons_zero]))) | ((go_at_call 20; (first | refine N1.out _ _ _ _ _ _ _ _ 0 1 rfl hH rfl rfl rfl rfl ?_ | refine N2.out _ _ _ _ _ _ _ _ 0 1 rfl hH rfl rfl rfl rfl ?_ | refine N3.out _ _ _ _ _ _ _ _ 0 1 rfl hH rfl rfl rfl rfl ?_); (clear hH; (first | intro W g hH | intro W hH); (try simp only [Act.put, pA, pB, pC])))) | ((go_at_call 22; refine RP.out _ _ _ _ _ _ hH ?_; (clear hH; intro W sp sc D hA hD hH); (try simp only [List.cons_append, List.nil_append, List.append_assoc] at hH); (try simp only [Act.put, List.setIfInBounds_toArray, List.set_cons_succ, List.set_cons_zero]))) | ((go_at_call 21; refine F4.out _ _ _ _ _ _ _ _ _ 1 2 rfl rfl hH rfl rfl rfl rfl ?_; (clear hH; (first | intro W g hH | intro W hH); (try simp only [Act.put, pA, pB, pC])))) | ((first | (refine iL tab_ok rfl ?_ rfl hH ?_; (focus (first | exact wN rfl | exact rfl)); refine ⟨_, _, rfl, rfl, ?_⟩) | (refine iS1 tab_ok rfl ?_ rfl hH ?_; (focus (first | exact wN rfl | exact rfl)); refine ⟨_, _, _, _, rfl, rfl, rfl, rfl, rfl, ?_⟩) | (refine hAl tab_ok rfl ?_ hH rfl ?_; (focus (first | exact wN rfl | exact rfl))) | (refine hBx rfl ?_ rfl hH ?_ ?_; (focus (first | exact wN rfl | exact rfl)); (focus (repeat (first | exact trivial | assumption | exact OkA.z (by kernel_rfl) (by kernel_rfl) | refine ⟨rfl, ?_⟩ | refine ⟨?_, ?_⟩)))) | (refine hBd tab_ok rfl ?_ rfl rfl rfl hH ?_; (focus (first | exact wN rfl | exact rfl)); refine ⟨?_, ?_, ?_⟩; rotate_left; (focus (repeat (first | exact BR.nil | refine BR.one rfl rfl rfl ?_ | (refine BR.row rfl rfl rfl rfl ?_ ?_; (focus (repeat (first | exact trivial | assumption | exact OkA.z (by kernel_rfl) (by kernel_rfl) | refine ⟨rfl, ?_⟩ | refine ⟨?_, ?_⟩))))))))); clear hH; (first | intro W g hH | intro W hH); ((try simp only [Act.put, pA, pB, pC]))))
    ((with_reducible refine regM hH (SubH.drop (SubH.keep (SubH.keep (SubH.drop (SubH.drop SubH.refl))))) (by kernel_rfl) ?_); (clear hH; intro W hH); (refine hm_takes (fuel := 5) (pk 0 rfl (pk 1 rfl (PickR.nil))) (by kernel_rfl) (by kernel_rfl) (fun _ _ _ _ _ h => h) hH ?_ ?_; (focus (exact SubI.h)); intro hne; (repeat (first | (go_big_quiet_want; (first | (refine qBd tab_ok rfl rfl rfl rfl ?_; refine ⟨?_, ?_, ?_⟩; rotate_left; (focus (repeat (first | exact BR.nil | refine BR.one rfl rfl rfl ?_ | (refine BR.row rfl rfl rfl rfl ?_ ?_; (focus (repeat (first | exact trivial | assumption | exact OkA.z (by kernel_rfl) (by kernel_rfl) | refine ⟨rfl, ?_⟩ | refine ⟨?_, ?_⟩))))))))); (try simp only [Act.put, pA, pB, pC]); go_big_quiet_on) | go_big_quiet_step (fail))); refine hm_nil ?_; clear hne); refine hm_two (fuel := 4) 2 5 rfl rfl (by kernel_rfl) ?_ ?_; (focus (go_wp2_with (fail); refine hmQ_normal hH ?_ ?_; (focus (exact SubI.h)); (try simp only [Act.put, List.setIfInBounds_toArray, List.set_cons_succ, List.set_cons_zero]); (refine hm_takes (fuel := 2) (pk 3 rfl (pk 4 rfl (PickR.nil))) (by kernel_rfl) (by kernel_rfl) (fun _ _ _ _ _ h => h) hH ?_ ?_; (focus (exact SubI.h)); intro hne; (repeat (first | (go_big_quiet_want; (first | (refine qiL tab_ok rfl rfl ?_; refine ⟨_, _, rfl, rfl, ?_⟩)); (try simp only [Act.put, pA, pB, pC]); go_big_quiet_on) | go_big_quiet_step (fail))); refine hm_nil ?_; clear hne); (refine hm_one (fuel := 1) 5 rfl (by kernel_rfl) ?_; go_wp2_with (first | ((first | (refine iSR tab_ok rfl ?_ rfl hH ?_; (focus (first | exact wN rfl | exact rfl)); refine ⟨_, _, _, _, rfl, rfl, rfl, rfl, rfl, ?_, ?_⟩; (focus (repeat (first | exact trivial | assumption | exact OkA.z (by kernel_rfl) (by kernel_rfl) | refine ⟨rfl, ?_⟩ | refine ⟨?_, ?_⟩))))); clear hH; (first | intro W g hH | intro W hH); ((try simp only [Act.put, pA, pB, pC])))); refine hmQ_normal hH ?_ ?_; (focus (exact SubI.h)); (try simp only [Act.put, List.setIfInBounds_toArray, List.set_cons_succ, List.set_cons_zero])); (refine hm_takes (fuel := 0) (pk 6 rfl (PickR.nil)) (by kernel_rfl) (by kernel_rfl) (fun _ _ _ _ _ h => h) hH ?_ ?_; (focus (exact SubI.h)); intro hne; (repeat (go_big_quiet_step (fail))); refine hm_nil ?_; clear hne); refine hm_end (by kernel_rfl) ?_)); rotate_left 1; (focus (go_wp2_with (first | ((first | (refine iSR tab_ok rfl ?_ rfl hH ?_; (focus (first | exact wN rfl | exact rfl)); refine ⟨_, _, _, _, rfl, rfl, rfl, rfl, rfl, ?_, ?_⟩; (focus (repeat (first | exact trivial | assumption | exact OkA.z (by kernel_rfl) (by kernel_rfl) | refine ⟨rfl, ?_⟩ | refine ⟨?_, ?_⟩))))); clear hH; (first | intro W g hH | intro W hH); ((try simp only [Act.put, pA, pB, pC])))); refine hmQ_normal hH ?_ ?_; (focus (exact SubI.h)); (try simp only [Act.put, List.setIfInBounds_toArray, List.set_cons_succ, List.set_cons_zero]); (refine hm_one (fuel := 3) 2 rfl (by kernel_rfl) ?_; go_wp2_with (fail); refine hmQ_normal hH ?_ ?_; (focus (exact SubI.h)); (try simp only [Act.put, List.setIfInBounds_toArray, List.set_cons_succ, List.set_cons_zero])); (refine hm_takes (fuel := 0) (pk 3 rfl (pk 4 rfl (pk 6 rfl (PickR.nil)))) (by kernel_rfl) (by kernel_rfl) (fun _ _ _ _ _ h => h) hH ?_ ?_; (focus (exact SubI.h)); intro hne; (repeat (first | (go_big_quiet_want; (first | (refine qiL tab_ok rfl rfl ?_; refine ⟨_, _, rfl, rfl, ?_⟩)); (try simp only [Act.put, pA, pB, pC]); go_big_quiet_on) | go_big_quiet_step (fail))); refine hm_nil ?_; clear hne); refine hm_end (by kernel_rfl) ?_)))
    all_goals
      go_wp2_with (fail)
      (refine iRet2 Try.results7 tab_ok rfl rfl hH ?_; refine ⟨_, _, rfl, rfl, rfl, ?_⟩)
      exact RdPost.mk (sp := none) (rp := none) (sc := 0) (rc := 0) (D := []) (by rw [tkz_seg]; rfl) ⟨hH.nil, by simp⟩ TkIn.z
set_option maxHeartbeats 2000000 in
theorem iread_17b (hs : s.size ≤ 100000) (h : 8 ≤ s.size) (hb : sumOk s = true) (h9 : 8 < s.size) (h12 : s.size < 12) (hk : kindF s = 17) : Calls Try.prog 7 #[.string s] w fun e w' => RdPost w (readF s).1 (readF s).2 e w' := by
  have hH := Hp.refl w
  have d1 : decide ((s.size : Int) < 8) = false := decide_eq_false (by omega)
  have hgood := @sgood_any s hs
  rw [hb] at hgood
  have E8 : (decide (8 < s.size) && decide (s.size < 12)) = true := by rw [decide_eq_true (by omega), decide_eq_true (by omega), Bool.true_and]
  have d8 : decide ((8 : Int) < (s.size : Int)) = true := decide_eq_true (by omega)
  have d12 : decide ((s.size : Int) < 12) = true := decide_eq_true (by omega)
  obtain ⟨t1, t2, v3, N1, N2, N3⟩ := pre3 w.heap.size w hs
  have N1 := Lib.hid N1
  have N2 := Lib.hid N2
  have N3 := Lib.hid N3
  have hk3 := st3_k (s := s)
  have hv2 : secF s < 256 := numV_lt _ _ _
  have he := readE h hb
  rw [hk] at N1
  obtain ⟨b4, hb4⟩ : ∃ b, (decide (8 < s.size) && decide (s.size < 12)) = b := ⟨_, rfl⟩
  obtain ⟨t4, ht4⟩ : ∃ t, failS b4 2 (st3 s) = t := ⟨_, rfl⟩
  have hk4 : t4.k ≤ s.size := by rw [← ht4, failS_k]; exact hk3
  have F4 := fun g gr => failC (B := w.heap.size) (w0 := w) (g := g) (gr := gr) (s := s) (is := b4) (c := 2) (t := st3 s)
  have e4 := failS_eq b4 2 (st3 s)
  rw [ht4] at F4 e4
  have F4 := Lib.hid F4
  obtain ⟨⟨v6, ver, kind, resp, a, quiet, rob, every, src, recs⟩, t5, hres⟩ : ∃ R t, qryF s t4 (secF s) = (R, t) := ⟨_, _, rfl⟩
  have hrec : recs = [] := by have := qryF_recs s t4 (secF s); rw [hres] at this; exact this
  subst hrec
  have hT : readT s = (⟨v6, ver, kind, resp, a, quiet, rob, every, src, []⟩, t5) := by unfold readT; rw [if_pos hk, hb4, ht4, hres]
  have RP := Lib.hid (show ∀ (W : World) (H : HB) (Q : Ending → World → Prop) (g gr gt : Nat), Hp w.heap.size w W ((gt, 29, true, [.one (.bool false), .one (.int .i64 0), .one (.int .i64 1), .one (.int .i64 0), .many (zeroL Try.prog 25) 17, .one (.bool false), .one (.int .i64 0), .one (.int .i64 0), .one (.slice none 0 0), .one (.slice none 0 0)]) :: rdH g gr s t4 H) → (∀ W' sp sc D, Hid (∀ B w0 W, Hp B w0 W D → AdsAt W sp src) → Hid (∀ r ∈ D, r.2.2.1 = true) → Hp w.heap.size w W' ((gt, 29, true, [.one (.bool v6), .one (.int .i64 ver), .one (.int .i64 kind), .one (.int .i64 resp), .many (adL a) 17, .one (.bool quiet), .one (.int .i64 rob), .one (.int .i64 every), .one (.slice sp src.length sc), .one (.slice none 0 0)]) :: rdH g gr s t5 (H ++ D)) → Q (.returned (.tuple #[])) W') → Calls Try.prog 22 #[.pointer (some ⟨g, 0, none⟩), .pointer (some ⟨gt, 0, none⟩), .int .i64 (secF s : Int)] W Q from fun W H Q g gr gt hH hQ => by
    refine iqueries_any (c := secF s) zadr_ok (by omega) hs hk4 (hH.perm ((List.Perm.swap _ _ _).trans ((List.Perm.swap _ _ _).cons _))) ?_
    intro W' R2 t2 D sp sc e hA hD hH
    have e2 := e.out.symm.trans hres
    injection e2 with e3 e4
    subst e3
    subst e4
    exact hQ W' sp sc D hA hD (hH.perm (((List.Perm.swap _ _ _).cons _).trans (List.Perm.swap _ _ _))))
  clear hres ht4 hk hk3 hk4 hv2
  generalize secF s = v2 at *
  generalize st3 s = t3 at *
  obtain ⟨k3, b3, e3⟩ := t3
  obtain ⟨k4, b4', e4'⟩ := t4
  simp only at e4
  injection e4 with x1 x2 x3
  subst x1
  subst x2
  clear x3
  have oA := adL_ok a
  obtain ⟨A, hA⟩ : ∃ Y, Y = adL a := ⟨_, rfl⟩
  have HA := Lib.hid hA
  rw [← hA] at RP oA
  clear hA
  have hb5 := hb4.symm.trans E8
  subst hb5
  clear hb4 E8
  rw [hT] at he
  clear hT
  obtain ⟨k5, b5, e5⟩ := t5
  simp only at he
  by_cases hz : e5 = 0
  · subst hz
    rw [if_pos rfl] at he
    rw [he]
    clear he
    have d2 : ((0 : Int) != 0) = false := rfl
    go_enter Try.func7, Try.ntmps7
    go_wp2_with (first | ((go_at_call 18; refine callR 0 hH rfl (fun hr => hgood hr) ?_; (clear hH; (first | intro W g hH | intro W hH); (try simp only [Act.put, pA, pB, pC])))) | ((refine hSl tab_ok rfl ?_ rfl tabs_ok rfl rfl rfl rfl rfl hH ?_; (focus (first | exact wN rfl | exact rfl)); refine ⟨?_, ?_, ?_⟩; rotate_left; (focus (repeat (first | exact BR.nil | refine BR.one rfl rfl rfl ?_ | (refine BR.row rfl rfl rfl rfl ?_ ?_; (focus (repeat (first | exact trivial | assumption | exact OkA.z (by kernel_rfl) (by kernel_rfl) | refine ⟨rfl, ?_⟩ | refine ⟨?_, ?_⟩))))))); clear hH; intro W g hH; (try simp only [Act.put, pA, pB, pC]))) | ((go_at_call 19; refine hNew hH ?_; (clear hH; intro W gr hH); (try simp only [Act.put, List.setIfInBounds_toArray, List.set_cons_succ, List.set_cons_zero]))) | ((go_at_call 20; (first | refine N1.out _ _ _ _ _ _ _ _ 0 1 rfl hH rfl rfl rfl rfl ?_ | refine N2.out _ _ _ _ _ _ _ _ 0 1 rfl hH rfl rfl rfl rfl ?_ | refine N3.out _ _ _ _ _ _ _ _ 0 1 rfl hH rfl rfl rfl rfl ?_); (clear hH; (first | intro W g hH | intro W hH); (try simp only [Act.put, pA, pB, pC])))) | ((go_at_call 22; refine RP.out _ _ _ _ _ _ hH ?_; (clear hH; intro W sp sc D hA hD hH); (try simp only [List.cons_append, List.nil_append, List.append_assoc] at hH); (try simp only [Act.put, List.setIfInBounds_toArray, List.set_cons_succ, List.set_cons_zero]))) | ((go_at_call 21; refine F4.out _ _ _ _ _ _ _ _ _ 1 2 rfl rfl hH rfl rfl rfl rfl ?_; (clear hH; (first | intro W g hH | intro W hH); (try simp only [Act.put, pA, pB, pC])))) | ((first | (refine iL tab_ok rfl ?_ rfl hH ?_; (focus (first | exact wN rfl | exact rfl)); refine ⟨_, _, rfl, rfl, ?_⟩) | (refine iS1 tab_ok rfl ?_ rfl hH ?_; (focus (first | exact wN rfl | exact rfl)); refine ⟨_, _, _, _, rfl, rfl, rfl, rfl, rfl, ?_⟩) | (refine iSR tab_ok rfl ?_ rfl hH ?_; (focus (first | exact wN rfl | exact rfl)); refine ⟨_, _, _, _, rfl, rfl, rfl, rfl, rfl, ?_, ?_⟩; (focus (repeat (first | exact trivial | assumption | exact OkA.z (by kernel_rfl) (by kernel_rfl) | refine ⟨rfl, ?_⟩ | refine ⟨?_, ?_⟩)))) | (refine hAl tab_ok rfl ?_ hH rfl ?_; (focus (first | exact wN rfl | exact rfl))) | (refine hBx rfl ?_ rfl hH ?_ ?_; (focus (first | exact wN rfl | exact rfl)); (focus (repeat (first | exact trivial | assumption | exact OkA.z (by kernel_rfl) (by kernel_rfl) | refine ⟨rfl, ?_⟩ | refine ⟨?_, ?_⟩)))) | (refine hBd tab_ok rfl ?_ rfl rfl rfl hH ?_; (focus (first | exact wN rfl | exact rfl)); refine ⟨?_, ?_, ?_⟩; rotate_left; (focus (repeat (first | exact BR.nil | refine BR.one rfl rfl rfl ?_ | (refine BR.row rfl rfl rfl rfl ?_ ?_; (focus (repeat (first | exact trivial | assumption | exact OkA.z (by kernel_rfl) (by kernel_rfl) | refine ⟨rfl, ?_⟩ | refine ⟨?_, ?_⟩))))))))); clear hH; (first | intro W g hH | intro W hH); ((try simp only [Act.put, pA, pB, pC]))))
    (refine iRet2 Try.results7 tab_ok rfl rfl hH ?_; refine ⟨_, _, rfl, rfl, rfl, ?_⟩)
    refine RdPost.mk (sp := sp) (rp := none) (sc := sc) (rc := 0) (D := D) (by unfold tkS; simp only; rw [← HA.out]; rfl) ⟨hH.sub (SubH.drop (SubH.drop (SubH.drop (SubH.drop (SubH.drop SubH.refl))))), hD.out⟩ (fun B w0 W h => ⟨hA.out _ _ _ h, RcsAt.nil⟩)
  · rw [if_neg hz] at he
    rw [he]
    clear he
    have d2 : (e5 != 0) = true := by simpa using hz
    go_enter Try.func7, Try.ntmps7
    go_wp2_with (first | ((go_at_call 18; refine callR 0 hH rfl (fun hr => hgood hr) ?_; (clear hH; (first | intro W g hH | intro W hH); (try simp only [Act.put, pA, pB, pC])))) | ((refine hSl tab_ok rfl ?_ rfl tabs_ok rfl rfl rfl rfl rfl hH ?_; (focus (first | exact wN rfl | exact rfl)); refine ⟨?_, ?_, ?_⟩; rotate_left; (focus (repeat (first | exact BR.nil | refine BR.one rfl rfl rfl ?_ | (refine BR.row rfl rfl rfl rfl ?_ ?_; (focus (repeat (first | exact trivial | assumption | exact OkA.z (by kernel_rfl) (by kernel_rfl) | refine ⟨rfl, ?_⟩ | refine ⟨?_, ?_⟩))))))); clear hH; intro W g hH; (try simp only [Act.put, pA, pB, pC]))) | ((go_at_call 19; refine hNew hH ?_; (clear hH; intro W gr hH); (try simp only [Act.put, List.setIfInBounds_toArray, List.set_cons_succ, List.set_cons_zero]))) | ((go_at_call 20; (first | refine N1.out _ _ _ _ _ _ _ _ 0 1 rfl hH rfl rfl rfl rfl ?_ | refine N2.out _ _ _ _ _ _ _ _ 0 1 rfl hH rfl rfl rfl rfl ?_ | refine N3.out _ _ _ _ _ _ _ _ 0 1 rfl hH rfl rfl rfl rfl ?_); (clear hH; (first | intro W g hH | intro W hH); (try simp only [Act.put, pA, pB, pC])))) | ((go_at_call 22; refine RP.out _ _ _ _ _ _ hH ?_; (clear hH; intro W sp sc D hA hD hH); (try simp only [List.cons_append, List.nil_append, List.append_assoc] at hH); (try simp only [Act.put, List.setIfInBounds_toArray, List.set_cons_succ, List.set_cons_zero]))) | ((go_at_call 21; refine F4.out _ _ _ _ _ _ _ _ _ 1 2 rfl rfl hH rfl rfl rfl rfl ?_; (clear hH; (first | intro W g hH | intro W hH); (try simp only [Act.put, pA, pB, pC])))) | ((first | (refine iL tab_ok rfl ?_ rfl hH ?_; (focus (first | exact wN rfl | exact rfl)); refine ⟨_, _, rfl, rfl, ?_⟩) | (refine iS1 tab_ok rfl ?_ rfl hH ?_; (focus (first | exact wN rfl | exact rfl)); refine ⟨_, _, _, _, rfl, rfl, rfl, rfl, rfl, ?_⟩) | (refine hAl tab_ok rfl ?_ hH rfl ?_; (focus (first | exact wN rfl | exact rfl))) | (refine hBx rfl ?_ rfl hH ?_ ?_; (focus (first | exact wN rfl | exact rfl)); (focus (repeat (first | exact trivial | assumption | exact OkA.z (by kernel_rfl) (by kernel_rfl) | refine ⟨rfl, ?_⟩ | refine ⟨?_, ?_⟩)))) | (refine hBd tab_ok rfl ?_ rfl rfl rfl hH ?_; (focus (first | exact wN rfl | exact rfl)); refine ⟨?_, ?_, ?_⟩; rotate_left; (focus (repeat (first | exact BR.nil | refine BR.one rfl rfl rfl ?_ | (refine BR.row rfl rfl rfl rfl ?_ ?_; (focus (repeat (first | exact trivial | assumption | exact OkA.z (by kernel_rfl) (by kernel_rfl) | refine ⟨rfl, ?_⟩ | refine ⟨?_, ?_⟩))))))))); clear hH; (first | intro W g hH | intro W hH); ((try simp only [Act.put, pA, pB, pC]))))
    ((with_reducible refine regM hH (SubH.drop (SubH.keep (SubH.keep (SubH.drop (SubH.drop SubH.refl))))) (by kernel_rfl) ?_); (clear hH; intro W hH); (refine hm_takes (fuel := 5) (pk 0 rfl (pk 1 rfl (PickR.nil))) (by kernel_rfl) (by kernel_rfl) (fun _ _ _ _ _ h => h) hH ?_ ?_; (focus (exact SubI.h)); intro hne; (repeat (first | (go_big_quiet_want; (first | (refine qBd tab_ok rfl rfl rfl rfl ?_; refine ⟨?_, ?_, ?_⟩; rotate_left; (focus (repeat (first | exact BR.nil | refine BR.one rfl rfl rfl ?_ | (refine BR.row rfl rfl rfl rfl ?_ ?_; (focus (repeat (first | exact trivial | assumption | exact OkA.z (by kernel_rfl) (by kernel_rfl) | refine ⟨rfl, ?_⟩ | refine ⟨?_, ?_⟩))))))))); (try simp only [Act.put, pA, pB, pC]); go_big_quiet_on) | go_big_quiet_step (fail))); refine hm_nil ?_; clear hne); refine hm_two (fuel := 4) 2 5 rfl rfl (by kernel_rfl) ?_ ?_; (focus (go_wp2_with (fail); refine hmQ_normal hH ?_ ?_; (focus (exact SubI.h)); (try simp only [Act.put, List.setIfInBounds_toArray, List.set_cons_succ, List.set_cons_zero]); (refine hm_takes (fuel := 2) (pk 3 rfl (pk 4 rfl (PickR.nil))) (by kernel_rfl) (by kernel_rfl) (fun _ _ _ _ _ h => h) hH ?_ ?_; (focus (exact SubI.h)); intro hne; (repeat (first | (go_big_quiet_want; (first | (refine qiL tab_ok rfl rfl ?_; refine ⟨_, _, rfl, rfl, ?_⟩)); (try simp only [Act.put, pA, pB, pC]); go_big_quiet_on) | go_big_quiet_step (fail))); refine hm_nil ?_; clear hne); (refine hm_one (fuel := 1) 5 rfl (by kernel_rfl) ?_; go_wp2_with (first | ((first | (refine iSR tab_ok rfl ?_ rfl hH ?_; (focus (first | exact wN rfl | exact rfl)); refine ⟨_, _, _, _, rfl, rfl, rfl, rfl, rfl, ?_, ?_⟩; (focus (repeat (first | exact trivial | assumption | exact OkA.z (by kernel_rfl) (by kernel_rfl) | refine ⟨rfl, ?_⟩ | refine ⟨?_, ?_⟩))))); clear hH; (first | intro W g hH | intro W hH); ((try simp only [Act.put, pA, pB, pC])))); refine hmQ_normal hH ?_ ?_; (focus (exact SubI.h)); (try simp only [Act.put, List.setIfInBounds_toArray, List.set_cons_succ, List.set_cons_zero])); (refine hm_takes (fuel := 0) (pk 6 rfl (PickR.nil)) (by kernel_rfl) (by kernel_rfl) (fun _ _ _ _ _ h => h) hH ?_ ?_; (focus (exact SubI.h)); intro hne; (repeat (go_big_quiet_step (fail))); refine hm_nil ?_; clear hne); refine hm_end (by kernel_rfl) ?_)); rotate_left 1; (focus (go_wp2_with (first | ((first | (refine iSR tab_ok rfl ?_ rfl hH ?_; (focus (first | exact wN rfl | exact rfl)); refine ⟨_, _, _, _, rfl, rfl, rfl, rfl, rfl, ?_, ?_⟩; (focus (repeat (first | exact trivial | assumption | exact OkA.z (by kernel_rfl) (by kernel_rfl) | refine ⟨rfl, ?_⟩ | refine ⟨?_, ?_⟩))))); clear hH; (first | intro W g hH | intro W hH); ((try simp only [Act.put, pA, pB, pC])))); refine hmQ_normal hH ?_ ?_; (focus (exact SubI.h)); (try simp only [Act.put, List.setIfInBounds_toArray, List.set_cons_succ, List.set_cons_zero]); (refine hm_one (fuel := 3) 2 rfl (by kernel_rfl) ?_; go_wp2_with (fail); refine hmQ_normal hH ?_ ?_; (focus (exact SubI.h)); (try simp only [Act.put, List.setIfInBounds_toArray, List.set_cons_succ, List.set_cons_zero])); (refine hm_takes (fuel := 0) (pk 3 rfl (pk 4 rfl (pk 6 rfl (PickR.nil)))) (by kernel_rfl) (by kernel_rfl) (fun _ _ _ _ _ h => h) hH ?_ ?_; (focus (exact SubI.h)); intro hne; (repeat (first | (go_big_quiet_want; (first | (refine qiL tab_ok rfl rfl ?_; refine ⟨_, _, rfl, rfl, ?_⟩)); (try simp only [Act.put, pA, pB, pC]); go_big_quiet_on) | go_big_quiet_step (fail))); refine hm_nil ?_; clear hne); refine hm_end (by kernel_rfl) ?_)))
    all_goals
      go_wp2_with (fail)
      (refine iRet2 Try.results7 tab_ok rfl rfl hH ?_; refine ⟨_, _, rfl, rfl, rfl, ?_⟩)
      exact RdPost.mk (sp := none) (rp := none) (sc := 0) (rc := 0) (D := []) (by rw [tkz_seg]; rfl) ⟨hH.nil, by simp⟩ TkIn.z
set_option maxHeartbeats 2000000 in
theorem iread_17c (hs : s.size ≤ 100000) (h : 8 ≤ s.size) (hb : sumOk s = true) (h9 : 8 < s.size) (h12 : 12 ≤ s.size) (hk : kindF s = 17) : Calls Try.prog 7 #[.string s] w fun e w' => RdPost w (readF s).1 (readF s).2 e w' := by
  have hH := Hp.refl w
  have d1 : decide ((s.size : Int) < 8) = false := decide_eq_false (by omega)
  have hgood := @sgood_any s hs
  rw [hb] at hgood
  have E8 : (decide (8 < s.size) && decide (s.size < 12)) = false := by rw [decide_eq_false (show ¬s.size < 12 by omega), Bool.and_false]
  have d8 : decide ((8 : Int) < (s.size : Int)) = true := decide_eq_true (by omega)
  have d12 : decide ((s.size : Int) < 12) = false := decide_eq_false (by omega)
  obtain ⟨t1, t2, v3, N1, N2, N3⟩ := pre3 w.heap.size w hs
  have N1 := Lib.hid N1
  have N2 := Lib.hid N2
  have N3 := Lib.hid N3
  have hk3 := st3_k (s := s)
  have hv2 : secF s < 256 := numV_lt _ _ _
  have he := readE h hb
  rw [hk] at N1
  obtain ⟨b4, hb4⟩ : ∃ b, (decide (8 < s.size) && decide (s.size < 12)) = b := ⟨_, rfl⟩
  obtain ⟨t4, ht4⟩ : ∃ t, failS b4 2 (st3 s) = t := ⟨_, rfl⟩
  have hk4 : t4.k ≤ s.size := by rw [← ht4, failS_k]; exact hk3
  have F4 := fun g gr => failC (B := w.heap.size) (w0 := w) (g := g) (gr := gr) (s := s) (is := b4) (c := 2) (t := st3 s)
  have e4 := failS_eq b4 2 (st3 s)
  rw [ht4] at F4 e4
  have F4 := Lib.hid F4
  obtain ⟨⟨v6, ver, kind, resp, a, quiet, rob, every, src, recs⟩, t5, hres⟩ : ∃ R t, qryF s t4 (secF s) = (R, t) := ⟨_, _, rfl⟩
  have hrec : recs = [] := by have := qryF_recs s t4 (secF s); rw [hres] at this; exact this
  subst hrec
  have hT : readT s = (⟨v6, ver, kind, resp, a, quiet, rob, every, src, []⟩, t5) := by unfold readT; rw [if_pos hk, hb4, ht4, hres]
  have RP := Lib.hid (show ∀ (W : World) (H : HB) (Q : Ending → World → Prop) (g gr gt : Nat), Hp w.heap.size w W ((gt, 29, true, [.one (.bool false), .one (.int .i64 0), .one (.int .i64 1), .one (.int .i64 0), .many (zeroL Try.prog 25) 17, .one (.bool false), .one (.int .i64 0), .one (.int .i64 0), .one (.slice none 0 0), .one (.slice none 0 0)]) :: rdH g gr s t4 H) → (∀ W' sp sc D, Hid (∀ B w0 W, Hp B w0 W D → AdsAt W sp src) → Hid (∀ r ∈ D, r.2.2.1 = true) → Hp w.heap.size w W' ((gt, 29, true, [.one (.bool v6), .one (.int .i64 ver), .one (.int .i64 kind), .one (.int .i64 resp), .many (adL a) 17, .one (.bool quiet), .one (.int .i64 rob), .one (.int .i64 every), .one (.slice sp src.length sc), .one (.slice none 0 0)]) :: rdH g gr s t5 (H ++ D)) → Q (.returned (.tuple #[])) W') → Calls Try.prog 22 #[.pointer (some ⟨g, 0, none⟩), .pointer (some ⟨gt, 0, none⟩), .int .i64 (secF s : Int)] W Q from fun W H Q g gr gt hH hQ => by
    refine iqueries_any (c := secF s) zadr_ok (by omega) hs hk4 (hH.perm ((List.Perm.swap _ _ _).trans ((List.Perm.swap _ _ _).cons _))) ?_
    intro W' R2 t2 D sp sc e hA hD hH
    have e2 := e.out.symm.trans hres
    injection e2 with e3 e4
    subst e3
    subst e4
    exact hQ W' sp sc D hA hD (hH.perm (((List.Perm.swap _ _ _).cons _).trans (List.Perm.swap _ _ _))))
  clear hres ht4 hk hk3 hk4 hv2
  generalize secF s = v2 at *
  generalize st3 s = t3 at *
  obtain ⟨k3, b3, e3⟩ := t3
  obtain ⟨k4, b4', e4'⟩ := t4
  simp only at e4
  injection e4 with x1 x2 x3
  subst x1
  subst x2
  clear x3
  have oA := adL_ok a
  obtain ⟨A, hA⟩ : ∃ Y, Y = adL a := ⟨_, rfl⟩
  have HA := Lib.hid hA
  rw [← hA] at RP oA
  clear hA
  have hb5 := hb4.symm.trans E8
  subst hb5
  clear hb4 E8
  rw [hT] at he
  clear hT
  obtain ⟨k5, b5, e5⟩ := t5
  simp only at he
  by_cases hz : e5 = 0
  · subst hz
    rw [if_pos rfl] at he
    rw [he]
    clear he
    have d2 : ((0 : Int) != 0) = false := rfl
    go_enter Try.func7, Try.ntmps7
    go_wp2_with (first | ((go_at_call 18; refine callR 0 hH rfl (fun hr => hgood hr) ?_; (clear hH; (first | intro W g hH | intro W hH); (try simp only [Act.put, pA, pB, pC])))) | ((refine hSl tab_ok rfl ?_ rfl tabs_ok rfl rfl rfl rfl rfl hH ?_; (focus (first | exact wN rfl | exact rfl)); refine ⟨?_, ?_, ?_⟩; rotate_left; (focus (repeat (first | exact BR.nil | refine BR.one rfl rfl rfl ?_ | (refine BR.row rfl rfl rfl rfl ?_ ?_; (focus (repeat (first | exact trivial | assumption | exact OkA.z (by kernel_rfl) (by kernel_rfl) | refine ⟨rfl, ?_⟩ | refine ⟨?_, ?_⟩))))))); clear hH; intro W g hH; (try simp only [Act.put, pA, pB, pC]))) | ((go_at_call 19; refine hNew hH ?_; (clear hH; intro W gr hH); (try simp only [Act.put, List.setIfInBounds_toArray, List.set_cons_succ, List.set_cons_zero]))) | ((go_at_call 20; (first | refine N1.out _ _ _ _ _ _ _ _ 0 1 rfl hH rfl rfl rfl rfl ?_ | refine N2.out _ _ _ _ _ _ _ _ 0 1 rfl hH rfl rfl rfl rfl ?_ | refine N3.out _ _ _ _ _ _ _ _ 0 1 rfl hH rfl rfl rfl rfl ?_); (clear hH; (first | intro W g hH | intro W hH); (try simp only [Act.put, pA, pB, pC])))) | ((go_at_call 22; refine RP.out _ _ _ _ _ _ hH ?_; (clear hH; intro W sp sc D hA hD hH); (try simp only [List.cons_append, List.nil_append, List.append_assoc] at hH); (try simp only [Act.put, List.setIfInBounds_toArray, List.set_cons_succ, List.set_cons_zero]))) | ((go_at_call 21; refine F4.out _ _ _ _ _ _ _ _ _ 1 2 rfl rfl hH rfl rfl rfl rfl ?_; (clear hH; (first | intro W g hH | intro W hH); (try simp only [Act.put, pA, pB, pC])))) | ((first | (refine iL tab_ok rfl ?_ rfl hH ?_; (focus (first | exact wN rfl | exact rfl)); refine ⟨_, _, rfl, rfl, ?_⟩) | (refine iS1 tab_ok rfl ?_ rfl hH ?_; (focus (first | exact wN rfl | exact rfl)); refine ⟨_, _, _, _, rfl, rfl, rfl, rfl, rfl, ?_⟩) | (refine iSR tab_ok rfl ?_ rfl hH ?_; (focus (first | exact wN rfl | exact rfl)); refine ⟨_, _, _, _, rfl, rfl, rfl, rfl, rfl, ?_, ?_⟩; (focus (repeat (first | exact trivial | assumption | exact OkA.z (by kernel_rfl) (by kernel_rfl) | refine ⟨rfl, ?_⟩ | refine ⟨?_, ?_⟩)))) | (refine hAl tab_ok rfl ?_ hH rfl ?_; (focus (first | exact wN rfl | exact rfl))) | (refine hBx rfl ?_ rfl hH ?_ ?_; (focus (first | exact wN rfl | exact rfl)); (focus (repeat (first | exact trivial | assumption | exact OkA.z (by kernel_rfl) (by kernel_rfl) | refine ⟨rfl, ?_⟩ | refine ⟨?_, ?_⟩)))) | (refine hBd tab_ok rfl ?_ rfl rfl rfl hH ?_; (focus (first | exact wN rfl | exact rfl)); refine ⟨?_, ?_, ?_⟩; rotate_left; (focus (repeat (first | exact BR.nil | refine BR.one rfl rfl rfl ?_ | (refine BR.row rfl rfl rfl rfl ?_ ?_; (focus (repeat (first | exact trivial | assumption | exact OkA.z (by kernel_rfl) (by kernel_rfl) | refine ⟨rfl, ?_⟩ | refine ⟨?_, ?_⟩))))))))); clear hH; (first | intro W g hH | intro W hH); ((try simp only [Act.put, pA, pB, pC]))))
    (refine iRet2 Try.results7 tab_ok rfl rfl hH ?_; refine ⟨_, _, rfl, rfl, rfl, ?_⟩)
    refine RdPost.mk (sp := sp) (rp := none) (sc := sc) (rc := 0) (D := D) (by unfold tkS; simp only; rw [← HA.out]; rfl) ⟨hH.sub (SubH.drop (SubH.drop (SubH.drop (SubH.drop (SubH.drop SubH.refl))))), hD.out⟩ (fun B w0 W h => ⟨hA.out _ _ _ h, RcsAt.nil⟩)
  · rw [if_neg hz] at he
    rw [he]
    clear he
    have d2 : (e5 != 0) = true := by simpa using hz
    go_enter Try.func7, Try.ntmps7
    go_wp2_with (first | ((go_at_call 18; refine callR 0 hH rfl (fun hr => hgood hr) ?_; (clear hH; (first | intro W g hH | intro W hH); (try simp only [Act.put, pA, pB, pC])))) | ((refine hSl tab_ok rfl ?_ rfl tabs_ok rfl rfl rfl rfl rfl hH ?_; (focus (first | exact wN rfl | exact rfl)); refine ⟨?_, ?_, ?_⟩; rotate_left; (focus (repeat (first | exact BR.nil | refine BR.one rfl rfl rfl ?_ | (refine BR.row rfl rfl rfl rfl ?_ ?_; (focus (repeat (first | exact trivial | assumption | exact OkA.z (by kernel_rfl) (by kernel_rfl) | refine ⟨rfl, ?_⟩ | refine ⟨?_, ?_⟩))))))); clear hH; intro W g hH; (try simp only [Act.put, pA, pB, pC]))) | ((go_at_call 19; refine hNew hH ?_; (clear hH; intro W gr hH); (try simp only [Act.put, List.setIfInBounds_toArray, List.set_cons_succ, List.set_cons_zero]))) | ((go_at_call 20; (first | refine N1.out _ _ _ _ _ _ _ _ 0 1 rfl hH rfl rfl rfl rfl ?_ | refine N2.out _ _ _ _ _ _ _ _ 0 1 rfl hH rfl rfl rfl rfl ?_ | refine N3.out _ _ _ _ _ _ _ _ 0 1 rfl hH rfl rfl rfl rfl ?_); (clear hH; (first | intro W g hH | intro W hH); (try simp only [Act.put, pA, pB, pC])))) | ((go_at_call 22; refine RP.out _ _ _ _ _ _ hH ?_; (clear hH; intro W sp sc D hA hD hH); (try simp only [List.cons_append, List.nil_append, List.append_assoc] at hH); (try simp only [Act.put, List.setIfInBounds_toArray, List.set_cons_succ, List.set_cons_zero]))) | ((go_at_call 21; refine F4.out _ _ _ _ _ _ _ _ _ 1 2 rfl rfl hH rfl rfl rfl rfl ?_; (clear hH; (first | intro W g hH | intro W hH); (try simp only [Act.put, pA, pB, pC])))) | ((first | (refine iL tab_ok rfl ?_ rfl hH ?_; (focus (first | exact wN rfl | exact rfl)); refine ⟨_, _, rfl, rfl, ?_⟩) | (refine iS1 tab_ok rfl ?_ rfl hH ?_; (focus (first | exact wN rfl | exact rfl)); refine ⟨_, _, _, _, rfl, rfl, rfl, rfl, rfl, ?_⟩) | (refine hAl tab_ok rfl ?_ hH rfl ?_; (focus (first | exact wN rfl | exact rfl))) | (refine hBx rfl ?_ rfl hH ?_ ?_; (focus (first | exact wN rfl | exact rfl)); (focus (repeat (first | exact trivial | assumption | exact OkA.z (by kernel_rfl) (by kernel_rfl) | refine ⟨rfl, ?_⟩ | refine ⟨?_, ?_⟩)))) | (refine hBd tab_ok rfl ?_ rfl rfl rfl hH ?_; (focus (first | exact wN rfl | exact rfl)); refine ⟨?_, ?_, ?_⟩; rotate_left; (focus (repeat (first | exact BR.nil | refine BR.one rfl rfl rfl ?_ | (refine BR.row rfl rfl rfl rfl ?_ ?_; (focus (repeat (first | exact trivial | assumption | exact OkA.z (by kernel_rfl) (by kernel_rfl) | refine ⟨rfl, ?_⟩ | refine ⟨?_, ?_⟩))))))))); clear hH; (first | intro W g hH | intro W hH); ((try simp only [Act.put, pA, pB, pC]))))
    ((with_reducible refine regM hH (SubH.drop (SubH.keep (SubH.keep (SubH.drop (SubH.drop SubH.refl))))) (by kernel_rfl) ?_); (clear hH; intro W hH); (refine hm_takes (fuel := 5) (pk 0 rfl (pk 1 rfl (PickR.nil))) (by kernel_rfl) (by kernel_rfl) (fun _ _ _ _ _ h => h) hH ?_ ?_; (focus (exact SubI.h)); intro hne; (repeat (first | (go_big_quiet_want; (first | (refine qBd tab_ok rfl rfl rfl rfl ?_; refine ⟨?_, ?_, ?_⟩; rotate_left; (focus (repeat (first | exact BR.nil | refine BR.one rfl rfl rfl ?_ | (refine BR.row rfl rfl rfl rfl ?_ ?_; (focus (repeat (first | exact trivial | assumption | exact OkA.z (by kernel_rfl) (by kernel_rfl) | refine ⟨rfl, ?_⟩ | refine ⟨?_, ?_⟩))))))))); (try simp only [Act.put, pA, pB, pC]); go_big_quiet_on) | go_big_quiet_step (fail))); refine hm_nil ?_; clear hne); refine hm_two (fuel := 4) 2 5 rfl rfl (by kernel_rfl) ?_ ?_; (focus (go_wp2_with (fail); refine hmQ_normal hH ?_ ?_; (focus (exact SubI.h)); (try simp only [Act.put, List.setIfInBounds_toArray, List.set_cons_succ, List.set_cons_zero]); (refine hm_takes (fuel := 2) (pk 3 rfl (pk 4 rfl (PickR.nil))) (by kernel_rfl) (by kernel_rfl) (fun _ _ _ _ _ h => h) hH ?_ ?_; (focus (exact SubI.h)); intro hne; (repeat (first | (go_big_quiet_want; (first | (refine qiL tab_ok rfl rfl ?_; refine ⟨_, _, rfl, rfl, ?_⟩)); (try simp only [Act.put, pA, pB, pC]); go_big_quiet_on) | go_big_quiet_step (fail))); refine hm_nil ?_; clear hne); (refine hm_one (fuel := 1) 5 rfl (by kernel_rfl) ?_; go_wp2_with (first | ((first | (refine iSR tab_ok rfl ?_ rfl hH ?_; (focus (first | exact wN rfl | exact rfl)); refine ⟨_, _, _, _, rfl, rfl, rfl, rfl, rfl, ?_, ?_⟩; (focus (repeat (first | exact trivial | assumption | exact OkA.z (by kernel_rfl) (by kernel_rfl) | refine ⟨rfl, ?_⟩ | refine ⟨?_, ?_⟩))))); clear hH; (first | intro W g hH | intro W hH); ((try simp only [Act.put, pA, pB, pC])))); refine hmQ_normal hH ?_ ?_; (focus (exact SubI.h)); (try simp only [Act.put, List.setIfInBounds_toArray, List.set_cons_succ, List.set_cons_zero])); (refine hm_takes (fuel := 0) (pk 6 rfl (PickR.nil)) (by kernel_rfl) (by kernel_rfl) (fun _ _ _ _ _ h => h) hH ?_ ?_; (focus (exact SubI.h)); intro hne; (repeat (go_big_quiet_step (fail))); refine hm_nil ?_; clear hne); refine hm_end (by kernel_rfl) ?_)); rotate_left 1; (focus (go_wp2_with (first | ((first | (refine iSR tab_ok rfl ?_ rfl hH ?_; (focus (first | exact wN rfl | exact rfl)); refine ⟨_, _, _, _, rfl, rfl, rfl, rfl, rfl, ?_, ?_⟩; (focus (repeat (first | exact trivial | assumption | exact OkA.z (by kernel_rfl) (by kernel_rfl) | refine ⟨rfl, ?_⟩ | refine ⟨?_, ?_⟩))))); clear hH; (first | intro W g hH | intro W hH); ((try simp only [Act.put, pA, pB, pC])))); refine hmQ_normal hH ?_ ?_; (focus (exact SubI.h)); (try simp only [Act.put, List.setIfInBounds_toArray, List.set_cons_succ, List.set_cons_zero]); (refine hm_one (fuel := 3) 2 rfl (by kernel_rfl) ?_; go_wp2_with (fail); refine hmQ_normal hH ?_ ?_; (focus (exact SubI.h)); (try simp only [Act.put, List.setIfInBounds_toArray, List.set_cons_succ, List.set_cons_zero])); (refine hm_takes (fuel := 0) (pk 3 rfl (pk 4 rfl (pk 6 rfl (PickR.nil)))) (by kernel_rfl) (by kernel_rfl) (fun _ _ _ _ _ h => h) hH ?_ ?_; (focus (exact SubI.h)); intro hne; (repeat (first | (go_big_quiet_want; (first | (refine qiL tab_ok rfl rfl ?_; refine ⟨_, _, rfl, rfl, ?_⟩)); (try simp only [Act.put, pA, pB, pC]); go_big_quiet_on) | go_big_quiet_step (fail))); refine hm_nil ?_; clear hne); refine hm_end (by kernel_rfl) ?_)))
    all_goals
      go_wp2_with (fail)
      (refine iRet2 Try.results7 tab_ok rfl rfl hH ?_; refine ⟨_, _, rfl, rfl, rfl, ?_⟩)
      exact RdPost.mk (sp := none) (rp := none) (sc := 0) (rc := 0) (D := []) (by rw [tkz_seg]; rfl) ⟨hH.nil, by simp⟩ TkIn.z
end
end Go.Proofs.Ytfdkfimakdhbdaa

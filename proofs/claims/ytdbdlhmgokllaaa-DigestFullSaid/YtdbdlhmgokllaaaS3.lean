/-
  Contract of slices.Delete, of one entry of a block of one's own.
-/
import Derived.Test.YtdbdlhmgokllaaaS1
import Derived.Test.YtdbdlhmgokllaaaS2
namespace Go.Proofs.Ytdbdlhmgokllaaa
-- %in
open Go.ChangeShapes Go.WideShapes Go.ChangeAt Go.RowKit
set_option linter.unusedVariables false
set_option linter.unusedSimpArgs false
set_option maxRecDepth 20000
attribute [local irreducible] wpList

theorem evsL_app (X Y : List Ev) : evsL (X ++ Y) = evsL X ++ evsL Y := by simp [evsL]
theorem evsL_cons (x : Ev) (Y : List Ev) : evsL (x :: Y) = fls (evS x) ++ evsL Y := rfl
theorem evS_fls_len (x : Ev) : (fls (evS x)).length = 20 := by rw [okS_len (evS_ok x), evS_len]
section
variable {B : Nat} {w0 W : World} {D : HB} {Q : Ending → World → Prop} {g c q : Nat} {J : List Value}
theorem evsL_one (L : List Ev) : ∀ v ∈ evsL L, v.oneCell' = true := (evsL_ok L).2
theorem take_eraseE (L : List Ev) (k : Nat) : evsL (L.take k) ++ evsL (L.drop (k + 1)) = evsL (L.eraseIdx k) := by
  rw [List.eraseIdx_eq_take_drop_succ, evsL_app]
variable {L : List Ev} {k gl : Nat}
set_option maxHeartbeats 2000000 in
theorem delE_any (hG : Grow 20 L.length c (L.length * 20) q) (oJ : OkA J q) (hk : k < L.length) (hl : L.length ≤ 100000) (hH : Hp B w0 W ((gl, 30, true, [.many (evsL L) (L.length * 20), .many J q]) :: D))
    (hQ : ∀ W' q' J', Grow 20 (L.eraseIdx k).length c ((L.eraseIdx k).length * 20) q' → OkA J' q' → Hp B w0 W' ((gl, 30, true, [.many (evsL (L.eraseIdx k)) ((L.eraseIdx k).length * 20), .many J' q']) :: D) → Q (.returned (.slice (some ⟨gl, 0, none⟩) (L.eraseIdx k).length c)) W') :
    Calls Try.prog 42 #[.slice (some ⟨gl, 0, none⟩) L.length c, .int .i64 (k : Int), .int .i64 ((k : Int) + 1)] W Q := by
  obtain ⟨m, hm⟩ : ∃ m, L.length = k + 1 + m := ⟨L.length - (k + 1), by omega⟩
  have hle := hG.le
  have hmo : c ≤ 9223372036854775807 := by have := hG.most; simpa [maxLen] using this
  have hp := hG.hq
  have e1 : (L.eraseIdx k).length = k + m := by rw [List.length_eraseIdx_of_lt hk]; omega
  have l1 : (evsL (L.take k)).length = k * 20 := by rw [evsL_len, List.length_take]; congr 1; omega
  have l2 : (evsL (L.drop (k + 1))).length = m * 20 := by rw [evsL_len, List.length_drop]; congr 1; omega
  have l3 : (evsL (L.drop k) ++ J).length = (c - k) * 20 := by rw [List.length_append, evsL_len, List.length_drop, oJ.1]; omega
  have oA : OkA (evsL (L.take k)) (k * 20) := ⟨l1, evsL_one _⟩
  have oC : OkA (evsL (L.drop (k + 1))) (m * 20) := ⟨l2, evsL_one _⟩
  have oB : OkA (evsL (L.drop k) ++ J) ((c - k) * 20) := ⟨l3, fun v hv => by
    rcases List.mem_append.1 hv with h | h
    · exact evsL_one _ v h
    · exact oJ.2 v h⟩
  have hsp : evsL L ++ J = evsL (L.take k) ++ (evsL (L.drop k) ++ J) := by rw [← List.append_assoc, ← evsL_app, List.take_append_drop]
  have aC : AtL (fls [.many (evsL (L.take k)) (k * 20), .many (evsL (L.drop k) ++ J) ((c - k) * 20)]) ((k + 1) * 20) (evsL (L.drop (k + 1))) := ⟨evsL (L.take (k + 1)), J, by
    rw [fls_two, ← hsp, ← List.append_assoc, ← evsL_app, List.take_append_drop], by rw [evsL_len, List.length_take]; congr 1; omega⟩
  have hG2 : Grow 20 k c (k * 20) ((c - k) * 20) := ⟨rfl, by omega, by omega, hG.most⟩
  have hH := hH.re0 (S' := [.many (evsL (L.take k)) (k * 20), .many (evsL (L.drop k) ++ J) ((c - k) * 20)]) (by rw [fls_two, fls_two, hsp]) ⟨oA, oB, trivial⟩
  have HT := Lib.hid (take_eraseE L k)
  rw [e1] at hQ
  have HQ := Lib.hid hQ
  clear hQ e1 hsp l1 l2 l3
  have HG := Lib.hid hG2
  clear hG hG2 hp
  rw [hm] at hl hle ⊢
  clear hm hk
  generalize evsL (L.eraseIdx k) = EL at *
  generalize evsL (L.take k) = TK at *
  generalize evsL (L.drop (k + 1)) = DR at *
  generalize (evsL (L.drop k) ++ J) = JJ at *
  have d0 : ((k : Int) == (k : Int) + 1) = false := by simp; omega
  by_cases hck : c = k + 1
  · have hm0 : m = 0 := by omega
    have HDR := Lib.hid (show DR = [] by have := oC.1; rw [hm0] at this; exact List.eq_nil_of_length_eq_zero (by omega))
    subst hm0
    subst hck
    go_enter Try.func42, Try.ntmps42
    go_wp2_with (first | ((first | (refine iL tab_ok rfl ?_ rfl hH ?_; (focus (first | exact wN rfl | exact rfl)); refine ⟨_, _, rfl, rfl, ?_⟩) | (refine iLi tab_ok rfl ?_ rfl hH ?_; (focus (first | exact wN rfl | exact rfl)); refine ⟨_, _, _, ?_, rfl, rfl, rfl, ?_, ?_⟩; rotate_left; (focus assumption)) | (refine iS1 tab_ok rfl ?_ rfl hH ?_; (focus (first | exact wN rfl | exact rfl)); refine ⟨_, _, _, _, rfl, rfl, rfl, rfl, rfl, ?_⟩) | (refine iSR tab_ok rfl ?_ rfl hH ?_; (focus (first | exact wN rfl | exact rfl)); refine ⟨_, _, _, _, rfl, rfl, rfl, rfl, rfl, ?_, ?_⟩; (focus (repeat (first | exact trivial | assumption | exact OkA.z (by kernel_rfl) (by kernel_rfl) | refine ⟨rfl, ?_⟩ | refine ⟨?_, ?_⟩)))) | (refine hAl tab_ok rfl ?_ hH rfl ?_; (focus (first | exact wN rfl | exact rfl))) | (refine hBx1 rfl ?_ rfl hH ?_; (focus (first | exact wN rfl | exact rfl))) | (refine hBx rfl ?_ rfl hH ?_ ?_; (focus (first | exact wN rfl | exact rfl)); (focus (repeat (first | exact trivial | assumption | exact OkA.z (by kernel_rfl) (by kernel_rfl) | refine ⟨rfl, ?_⟩ | refine ⟨?_, ?_⟩)))) | (refine hBd tab_ok rfl ?_ rfl rfl rfl hH ?_; (focus (first | exact wN rfl | exact rfl)); refine ⟨?_, ?_, ?_⟩; rotate_left; (focus (repeat (first | exact BR.nil | refine BR.one rfl rfl rfl ?_ | (refine BR.row rfl rfl rfl rfl ?_ ?_; (focus (repeat (first | exact trivial | assumption | exact OkA.z (by kernel_rfl) (by kernel_rfl) | refine ⟨rfl, ?_⟩ | refine ⟨?_, ?_⟩))))))))); clear hH; (first | intro W g hH | intro W hH); ((try simp only [Act.put, pA, pB, pC]))))
    ((with_reducible refine regKN [6] hH (SubH.refl) (by kernel_rfl) ?_); (clear hH; intro W hH); (refine hk_pures (fuel := 2) (pk 0 rfl (pk 1 rfl (pk 2 rfl (pk 3 rfl (pk 4 rfl (pk 5 rfl (PickR.nil))))))) (by kernel_rfl) (by kernel_rfl) (fun _ _ _ _ _ h => h) ?_; (repeat (first | (go_big_quiet_want; (refine qBd tab_ok rfl rfl rfl rfl ?_; refine ⟨?_, ?_, ?_⟩; rotate_left; (focus (repeat (first | exact BR.nil | refine BR.one rfl rfl rfl ?_ | (refine BR.row rfl rfl rfl rfl ?_ ?_; (focus (repeat (first | exact trivial | assumption | exact OkA.z (by kernel_rfl) (by kernel_rfl) | refine ⟨rfl, ?_⟩ | refine ⟨?_, ?_⟩)))))))); (try simp only [Act.put, pA, pB, pC]); go_big_quiet_on) | go_big_quiet_step (fail))); refine hk_nil ?_); (refine hk_one (fuel := 1) 6 rfl (by kernel_rfl) ?_; go_wp2_with (first | ((refine hAppR 0 tab_ok tabs_ok rfl rfl rfl rfl rfl rfl rfl hH rfl ?_; refine ⟨[], fun j u h => by simp at h, ⟨rfl, by simp⟩, HG.out, ?_, ?_⟩; (focus omega); intro W H' hu h; (obtain rfl := Option.some.inj hu); clear hu hH; have hH := h; clear h; (try simp only [List.append_nil, Nat.zero_mul, List.drop_zero, Nat.add_zero] at hH); ((try simp only [Act.put, pA, pB, pC]))))); refine hkQ_break ?_; (try simp only [Act.put, pA, pB, pC])); (refine hk_pures (fuel := 0) (pk 7 rfl (PickR.nil)) (by kernel_rfl) (by kernel_rfl) (fun _ _ _ _ _ h => h) ?_; (repeat (first | (go_big_quiet_want; (refine qBd tab_ok rfl rfl rfl rfl ?_; refine ⟨?_, ?_, ?_⟩; rotate_left; (focus (repeat (first | exact BR.nil | refine BR.one rfl rfl rfl ?_ | (refine BR.row rfl rfl rfl rfl ?_ ?_; (focus (repeat (first | exact trivial | assumption | exact OkA.z (by kernel_rfl) (by kernel_rfl) | refine ⟨rfl, ?_⟩ | refine ⟨?_, ?_⟩)))))))); (try simp only [Act.put, pA, pB, pC]); go_big_quiet_on) | go_big_quiet_step (fail))); refine hk_nil ?_); refine hk_endN (by kernel_rfl) ?_)
    go_wp2_with (first | ((refine hClr 0 tab_ok tabs_ok rfl rfl rfl rfl rfl rfl hH rfl ?_; refine ⟨?_, ?_, ?_⟩; (focus (first | rfl | omega | (simp; omega))); (focus (first | omega | (simp; omega))); intro W H' J' hJ' hu h; (obtain rfl := Option.some.inj hu); clear hu hH; have hH := h; clear h; ((try simp only [Act.put, pA, pB, pC])))) | ((first | (refine iL tab_ok rfl ?_ rfl hH ?_; (focus (first | exact wN rfl | exact rfl)); refine ⟨_, _, rfl, rfl, ?_⟩) | (refine iLi tab_ok rfl ?_ rfl hH ?_; (focus (first | exact wN rfl | exact rfl)); refine ⟨_, _, _, ?_, rfl, rfl, rfl, ?_, ?_⟩; rotate_left; (focus assumption)) | (refine iS1 tab_ok rfl ?_ rfl hH ?_; (focus (first | exact wN rfl | exact rfl)); refine ⟨_, _, _, _, rfl, rfl, rfl, rfl, rfl, ?_⟩) | (refine iSR tab_ok rfl ?_ rfl hH ?_; (focus (first | exact wN rfl | exact rfl)); refine ⟨_, _, _, _, rfl, rfl, rfl, rfl, rfl, ?_, ?_⟩; (focus (repeat (first | exact trivial | assumption | exact OkA.z (by kernel_rfl) (by kernel_rfl) | refine ⟨rfl, ?_⟩ | refine ⟨?_, ?_⟩)))) | (refine hAl tab_ok rfl ?_ hH rfl ?_; (focus (first | exact wN rfl | exact rfl))) | (refine hBx1 rfl ?_ rfl hH ?_; (focus (first | exact wN rfl | exact rfl))) | (refine hBx rfl ?_ rfl hH ?_ ?_; (focus (first | exact wN rfl | exact rfl)); (focus (repeat (first | exact trivial | assumption | exact OkA.z (by kernel_rfl) (by kernel_rfl) | refine ⟨rfl, ?_⟩ | refine ⟨?_, ?_⟩)))) | (refine hBd tab_ok rfl ?_ rfl rfl rfl hH ?_; (focus (first | exact wN rfl | exact rfl)); refine ⟨?_, ?_, ?_⟩; rotate_left; (focus (repeat (first | exact BR.nil | refine BR.one rfl rfl rfl ?_ | (refine BR.row rfl rfl rfl rfl ?_ ?_; (focus (repeat (first | exact trivial | assumption | exact OkA.z (by kernel_rfl) (by kernel_rfl) | refine ⟨rfl, ?_⟩ | refine ⟨?_, ?_⟩))))))))); clear hH; (first | intro W g hH | intro W hH); ((try simp only [Act.put, pA, pB, pC]))))
    have ho := HG.out.most
    simp only [Nat.add_zero] at HQ
    refine HQ.out _ _ _ ⟨rfl, by omega, by omega, ho⟩ hJ' ?_
    rw [← HT.out, HDR.out, List.append_nil]
    exact hH
  · have hck2 : k + 1 < c := by omega
    have hck3 : ¬ c - (k + 1) = 0 := by omega
    go_enter Try.func42, Try.ntmps42
    go_wp2_with (first | ((first | (refine iL tab_ok rfl ?_ rfl hH ?_; (focus (first | exact wN rfl | exact rfl)); refine ⟨_, _, rfl, rfl, ?_⟩) | (refine iLi tab_ok rfl ?_ rfl hH ?_; (focus (first | exact wN rfl | exact rfl)); refine ⟨_, _, _, ?_, rfl, rfl, rfl, ?_, ?_⟩; rotate_left; (focus assumption)) | (refine iS1 tab_ok rfl ?_ rfl hH ?_; (focus (first | exact wN rfl | exact rfl)); refine ⟨_, _, _, _, rfl, rfl, rfl, rfl, rfl, ?_⟩) | (refine iSR tab_ok rfl ?_ rfl hH ?_; (focus (first | exact wN rfl | exact rfl)); refine ⟨_, _, _, _, rfl, rfl, rfl, rfl, rfl, ?_, ?_⟩; (focus (repeat (first | exact trivial | assumption | exact OkA.z (by kernel_rfl) (by kernel_rfl) | refine ⟨rfl, ?_⟩ | refine ⟨?_, ?_⟩)))) | (refine hAl tab_ok rfl ?_ hH rfl ?_; (focus (first | exact wN rfl | exact rfl))) | (refine hBx1 rfl ?_ rfl hH ?_; (focus (first | exact wN rfl | exact rfl))) | (refine hBx rfl ?_ rfl hH ?_ ?_; (focus (first | exact wN rfl | exact rfl)); (focus (repeat (first | exact trivial | assumption | exact OkA.z (by kernel_rfl) (by kernel_rfl) | refine ⟨rfl, ?_⟩ | refine ⟨?_, ?_⟩)))) | (refine hBd tab_ok rfl ?_ rfl rfl rfl hH ?_; (focus (first | exact wN rfl | exact rfl)); refine ⟨?_, ?_, ?_⟩; rotate_left; (focus (repeat (first | exact BR.nil | refine BR.one rfl rfl rfl ?_ | (refine BR.row rfl rfl rfl rfl ?_ ?_; (focus (repeat (first | exact trivial | assumption | exact OkA.z (by kernel_rfl) (by kernel_rfl) | refine ⟨rfl, ?_⟩ | refine ⟨?_, ?_⟩))))))))); clear hH; (first | intro W g hH | intro W hH); ((try simp only [Act.put, pA, pB, pC]))))
    ((with_reducible refine regKN [6] hH (SubH.refl) (by kernel_rfl) ?_); (clear hH; intro W hH); (refine hk_pures (fuel := 2) (pk 0 rfl (pk 1 rfl (pk 2 rfl (pk 3 rfl (pk 4 rfl (pk 5 rfl (PickR.nil))))))) (by kernel_rfl) (by kernel_rfl) (fun _ _ _ _ _ h => h) ?_; (repeat (first | (go_big_quiet_want; (refine qBd tab_ok rfl rfl rfl rfl ?_; refine ⟨?_, ?_, ?_⟩; rotate_left; (focus (repeat (first | exact BR.nil | refine BR.one rfl rfl rfl ?_ | (refine BR.row rfl rfl rfl rfl ?_ ?_; (focus (repeat (first | exact trivial | assumption | exact OkA.z (by kernel_rfl) (by kernel_rfl) | refine ⟨rfl, ?_⟩ | refine ⟨?_, ?_⟩)))))))); (try simp only [Act.put, pA, pB, pC]); go_big_quiet_on) | go_big_quiet_step (fail))); refine hk_nil ?_); (refine hk_one (fuel := 1) 6 rfl (by kernel_rfl) ?_; go_wp2_with (first | ((refine hAppR 0 tab_ok tabs_ok rfl rfl rfl rfl rfl rfl rfl hH rfl ?_; refine ⟨DR, hH.oldS (i := 0) rfl aC, oC, HG.out, ?_, ?_⟩; (focus omega); intro W H' hu h; (obtain rfl := Option.some.inj hu); clear hu hH; have hH := h; clear h; ((try simp only [Act.put, pA, pB, pC]))))); refine hkQ_break ?_; (try simp only [Act.put, pA, pB, pC])); (refine hk_pures (fuel := 0) (pk 7 rfl (PickR.nil)) (by kernel_rfl) (by kernel_rfl) (fun _ _ _ _ _ h => h) ?_; (repeat (first | (go_big_quiet_want; (refine qBd tab_ok rfl rfl rfl rfl ?_; refine ⟨?_, ?_, ?_⟩; rotate_left; (focus (repeat (first | exact BR.nil | refine BR.one rfl rfl rfl ?_ | (refine BR.row rfl rfl rfl rfl ?_ ?_; (focus (repeat (first | exact trivial | assumption | exact OkA.z (by kernel_rfl) (by kernel_rfl) | refine ⟨rfl, ?_⟩ | refine ⟨?_, ?_⟩)))))))); (try simp only [Act.put, pA, pB, pC]); go_big_quiet_on) | go_big_quiet_step (fail))); refine hk_nil ?_); refine hk_endN (by kernel_rfl) ?_)
    go_wp2_with (first | ((refine hClr 0 tab_ok tabs_ok rfl rfl rfl rfl rfl rfl hH rfl ?_; refine ⟨?_, ?_, ?_⟩; (focus (first | rfl | omega | (simp; omega))); (focus (first | omega | (simp; omega))); intro W H' J' hJ' hu h; (obtain rfl := Option.some.inj hu); clear hu hH; have hH := h; clear h; ((try simp only [Act.put, pA, pB, pC])))) | ((first | (refine iL tab_ok rfl ?_ rfl hH ?_; (focus (first | exact wN rfl | exact rfl)); refine ⟨_, _, rfl, rfl, ?_⟩) | (refine iLi tab_ok rfl ?_ rfl hH ?_; (focus (first | exact wN rfl | exact rfl)); refine ⟨_, _, _, ?_, rfl, rfl, rfl, ?_, ?_⟩; rotate_left; (focus assumption)) | (refine iS1 tab_ok rfl ?_ rfl hH ?_; (focus (first | exact wN rfl | exact rfl)); refine ⟨_, _, _, _, rfl, rfl, rfl, rfl, rfl, ?_⟩) | (refine iSR tab_ok rfl ?_ rfl hH ?_; (focus (first | exact wN rfl | exact rfl)); refine ⟨_, _, _, _, rfl, rfl, rfl, rfl, rfl, ?_, ?_⟩; (focus (repeat (first | exact trivial | assumption | exact OkA.z (by kernel_rfl) (by kernel_rfl) | refine ⟨rfl, ?_⟩ | refine ⟨?_, ?_⟩)))) | (refine hAl tab_ok rfl ?_ hH rfl ?_; (focus (first | exact wN rfl | exact rfl))) | (refine hBx1 rfl ?_ rfl hH ?_; (focus (first | exact wN rfl | exact rfl))) | (refine hBx rfl ?_ rfl hH ?_ ?_; (focus (first | exact wN rfl | exact rfl)); (focus (repeat (first | exact trivial | assumption | exact OkA.z (by kernel_rfl) (by kernel_rfl) | refine ⟨rfl, ?_⟩ | refine ⟨?_, ?_⟩)))) | (refine hBd tab_ok rfl ?_ rfl rfl rfl hH ?_; (focus (first | exact wN rfl | exact rfl)); refine ⟨?_, ?_, ?_⟩; rotate_left; (focus (repeat (first | exact BR.nil | refine BR.one rfl rfl rfl ?_ | (refine BR.row rfl rfl rfl rfl ?_ ?_; (focus (repeat (first | exact trivial | assumption | exact OkA.z (by kernel_rfl) (by kernel_rfl) | refine ⟨rfl, ?_⟩ | refine ⟨?_, ?_⟩))))))))); clear hH; (first | intro W g hH | intro W hH); ((try simp only [Act.put, pA, pB, pC]))))
    have ho := HG.out.most
    refine HQ.out _ _ _ ⟨rfl, by omega, by omega, ho⟩ hJ' ?_
    rw [← HT.out]
    exact hH
end
end Go.Proofs.Ytdbdlhmgokllaaa

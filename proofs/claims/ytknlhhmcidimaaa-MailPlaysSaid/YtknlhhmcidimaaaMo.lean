/-
  The laws MailNil and MailOwn hold: all is lost where nothing is under way; what is told is nobody else's. For every input.
-/
import Derived.Test.YtknlhhmcidimaaaMl9
namespace Go.Proofs.Ytknlhhmcidimaaa
open Go.ChangeShapes Go.WideShapes Go.ChangeAt Go.RowKit
set_option linter.unusedVariables false
set_option linter.unusedSimpArgs false
set_option maxRecDepth 20000
attribute [local irreducible] wpList

theorem own : ownKnob Try.prog.godebug = none := by kernel_rfl
/-- messages in a block of the call's own, whatever they say -/
def AnyMs (p : Option Addr) (n : Nat) (E : HB) : Prop := (n = 0 ∧ E = []) ∨ ∃ gl A J q, p = some ⟨gl, 0, none⟩ ∧ OkA A (n * 7) ∧ OkA J q ∧ E = [(gl, 30, true, [.many A (n * 7), .many J q])]
theorem LsD.any {p : Option Addr} {c : Nat} {L : List Mg} {E : HB} (h : LsD p c L E) : AnyMs p L.length E := by
  rcases h with ⟨_, _, rfl, rfl⟩ | ⟨gl, q, J, rfl, _, oJ, rfl⟩
  · exact .inl ⟨rfl, rfl⟩
  · exact .inr ⟨gl, _, J, q, rfl, mgsL_ok _, oJ, rfl⟩
section
variable {B : Nat} {w0 W w : World} {H : HB} {R : Ending → World → Prop} {p : Option Addr} {c : Nat} {L : List Mg} {k : Int}
theorem hFew {X : List Mg} (hX : X = fewM L) (hH : Hp B w0 W H) (h : MgsAt W p L) (hR : ∀ W' g c q J, Hid (Grow 7 X.length c (X.length * 7) q) → OkA J q → Hp B w0 W' ((g, 30, true, [.many (mgsL X) (X.length * 7), .many J q]) :: H) → R (.returned (.slice (some ⟨g, 0, none⟩) X.length c)) W') :
    Calls Try.prog 7 #[.slice p L.length c] W R := by
  subst hX
  exact (few_any h).mono fun _ _ ⟨g, c, q, J, he, hm, hG, oJ⟩ => by subst he; exact hR _ g c q J (Lib.hid hG) oJ (hH.joinF hm)
set_option maxHeartbeats 4000000 in
theorem mailNil_walk (h : MgsAt w p L) : Gives Try.prog 5 #[.slice p L.length c, .int .i64 k] w (.bool true) := by
  obtain ⟨X, hX⟩ : ∃ X, X = fewM L := ⟨_, rfl⟩
  have hX5 : X.length ≤ 5 := by rw [hX]; exact fewM_len L
  have HF := Lib.hid (fun (W : World) (H : HB) (R : Ending → World → Prop) (hH : Hp w.heap.size w W H) (hR : ∀ W' g c q J, Hid (Grow 7 X.length c (X.length * 7) q) → OkA J q → Hp w.heap.size w W' ((g, 30, true, [.many (mgsL X) (X.length * 7), .many J q]) :: H) → R (.returned (.slice (some ⟨g, 0, none⟩) X.length c)) W') => hFew (R := R) (c := c) hX hH (h.below hH.below) hR)
  have f1 : ∀ (W : World) (g c : Nat), Gives Try.prog 8 #[.pointer none, .slice (some ⟨g, 0, none⟩) X.length c] W (.int .i64 (X.length : Int)) := fun W g c => nPost (by omega)
  clear h hX
  generalize mgsL X = M at *
  generalize X.length = m at *
  generalize L.length = n at *
  have f2 : ∀ (W : World), Gives Try.prog 16 #[.pointer none, .int .i64 k] W (.tuple #[.agg (fls [.one (.int .i64 0), .one (.bool false), .one (.int .u32 0), .one (.int .i64 0), .one (.int .u32 0), .one (.int .u32 0), .one (.string ⟨#[]⟩)]).toArray, .bool false]) := fun W => nTake
  refine Gives.of ?_
  have hH := Hp.refl w
  go_enter Try.func5, Try.ntmps5
  go_wp2_with (first | ((go_at_call 7; refine HF.out _ _ _ hH ?_; (clear hH; intro W g c q J hG oJ hH); (try simp only [Act.put, List.setIfInBounds_toArray, List.set_cons_succ, List.set_cons_zero]))) | ((first | (refine gL rfl ?_; first | (refine hL1 tab_ok 0 rfl ?_ rfl hH rfl rfl rfl rfl ?_; (focus (first | exact wN rfl | exact rfl))) | (refine hL1 tab_ok 1 rfl ?_ rfl hH rfl rfl rfl rfl ?_; (focus (first | exact wN rfl | exact rfl))) | (refine hL1 tab_ok 2 rfl ?_ rfl hH rfl rfl rfl rfl ?_; (focus (first | exact wN rfl | exact rfl))) | (refine hLR tab_ok 0 rfl ?_ rfl hH rfl rfl rfl rfl ?_; (focus (first | exact wN rfl | exact rfl))) | (refine hLR tab_ok 1 rfl ?_ rfl hH rfl rfl rfl rfl ?_; (focus (first | exact wN rfl | exact rfl))) | (refine hLR tab_ok 2 rfl ?_ rfl hH rfl rfl rfl rfl ?_; (focus (first | exact wN rfl | exact rfl))) | (refine hL1i tab_ok 0 rfl ?_ rfl hH rfl rfl rfl rfl ?_; (focus (first | exact wN rfl | exact rfl)); refine ⟨?_, ?_, ?_⟩; rotate_left; (focus assumption)) | (refine hL1i tab_ok 1 rfl ?_ rfl hH rfl rfl rfl rfl ?_; (focus (first | exact wN rfl | exact rfl)); refine ⟨?_, ?_, ?_⟩; rotate_left; (focus assumption)) | (refine hL1i tab_ok 2 rfl ?_ rfl hH rfl rfl rfl rfl ?_; (focus (first | exact wN rfl | exact rfl)); refine ⟨?_, ?_, ?_⟩; rotate_left; (focus assumption))) | (refine gS rfl ?_; first | (refine hS1 tab_ok 0 rfl ?_ rfl rfl hH rfl rfl rfl rfl rfl ?_; (focus (first | exact wN rfl | exact rfl))) | (refine hS1 tab_ok 1 rfl ?_ rfl rfl hH rfl rfl rfl rfl rfl ?_; (focus (first | exact wN rfl | exact rfl))) | (refine hS1 tab_ok 2 rfl ?_ rfl rfl hH rfl rfl rfl rfl rfl ?_; (focus (first | exact wN rfl | exact rfl))) | (refine hSR tab_ok 0 rfl ?_ rfl rfl hH rfl rfl rfl rfl rfl ?_ ?_; (focus (first | exact wN rfl | exact rfl)); (focus (repeat (first | exact trivial | assumption | exact OkA.z (by kernel_rfl) (by kernel_rfl) | refine ⟨rfl, ?_⟩ | refine ⟨?_, ?_⟩)))) | (refine hSR tab_ok 1 rfl ?_ rfl rfl hH rfl rfl rfl rfl rfl ?_ ?_; (focus (first | exact wN rfl | exact rfl)); (focus (repeat (first | exact trivial | assumption | exact OkA.z (by kernel_rfl) (by kernel_rfl) | refine ⟨rfl, ?_⟩ | refine ⟨?_, ?_⟩)))) | (refine hSR tab_ok 2 rfl ?_ rfl rfl hH rfl rfl rfl rfl rfl ?_ ?_; (focus (first | exact wN rfl | exact rfl)); (focus (repeat (first | exact trivial | assumption | exact OkA.z (by kernel_rfl) (by kernel_rfl) | refine ⟨rfl, ?_⟩ | refine ⟨?_, ?_⟩))))) | (refine hAl tab_ok rfl ?_ hH rfl ?_; (focus (first | exact wN rfl | exact rfl))) | (refine hBx1 rfl ?_ rfl hH ?_; (focus (first | exact wN rfl | exact rfl))) | (refine hBx rfl ?_ rfl hH ?_ ?_; (focus (first | exact wN rfl | exact rfl)); (focus (repeat (first | exact trivial | assumption | exact OkA.z (by kernel_rfl) (by kernel_rfl) | refine ⟨rfl, ?_⟩ | refine ⟨?_, ?_⟩)))) | (refine hBd tab_ok rfl ?_ rfl rfl rfl hH ?_; (focus (first | exact wN rfl | exact rfl)); refine ⟨?_, ?_, ?_⟩; rotate_left; (focus (repeat (first | exact BR.nil | refine BR.one rfl rfl rfl ?_ | (refine BR.row rfl rfl rfl rfl ?_ ?_; (focus (repeat (first | exact trivial | assumption | exact OkA.z (by kernel_rfl) (by kernel_rfl) | refine ⟨rfl, ?_⟩ | refine ⟨?_, ?_⟩)))))))) | ((with_reducible refine callH hH ?_); refine ⟨?_, ?_, ?_⟩; rotate_left; (focus (first | (with_reducible exact f1 _ _ _) | (with_reducible exact f2 _) | (with_reducible exact nCopy) | (with_reducible exact nLose) | (with_reducible exact nSwap) | (with_reducible exact nList) | (with_reducible exact nOf) | (with_reducible exact nLen) | (with_reducible exact nCounts) | (with_reducible exact mlives_any))))); clear hH; (first | intro W g hH | intro W hH); (try simp only [Act.put, List.setIfInBounds_toArray, List.set_cons_succ, List.set_cons_zero])))
  go_ret
  exact ⟨rfl, hH.below⟩
set_option maxHeartbeats 8000000 in
theorem mailOwn_walk (h : MgsAt w p L) : Gives Try.prog 3 #[.slice p L.length c] w (.bool true) := by
  obtain ⟨X, hX⟩ : ∃ X, X = fewM L := ⟨_, rfl⟩
  have hX5 : X.length ≤ 5 := by rw [hX]; exact fewM_len L
  have hl := h.1
  have HF := Lib.hid (fun (W : World) (H : HB) (R : Ending → World → Prop) (hH : Hp w.heap.size w W H) (hR : ∀ W' g c q J, Hid (Grow 7 X.length c (X.length * 7) q) → OkA J q → Hp w.heap.size w W' ((g, 30, true, [.many (mgsL X) (X.length * 7), .many J q]) :: H) → R (.returned (.slice (some ⟨g, 0, none⟩) X.length c)) W') => hFew (R := R) (c := c) hX hH (h.below hH.below) hR)
  have e9 : clampM 9 = 9 := by decide
  have ePN : postN 9 [] X = X.length := by unfold postN; simp; omega
  have ePL : postL 9 [] X = X := by unfold postL; rw [ePN]; simp
  have HP := Lib.hid (show ∀ (W : World) (gm gs c q : Nat) (J : List Value) (R : Ending → World → Prop), Hid (Grow 7 X.length c (X.length * 7) q) → Hp w.heap.size w W [(gs, 30, true, [.many (mgsL X) (X.length * 7), .many J q]), (gm, 60, true, mlS 0 (clampM 9) none 0 0 0 0 0)] → (∀ W' p' c' E', LsD p' c' X E' → Hp w.heap.size w W' ((gs, 30, true, [.many (mgsL X) (X.length * 7), .many J q]) :: (gm, 60, true, mlS 0 9 p' X.length c' X.length 0 0) :: (E' ++ [])) → R (.returned (.int .i64 0)) W') → Calls Try.prog 8 #[.pointer (some ⟨gm, 0, none⟩), .slice (some ⟨gs, 0, none⟩) X.length c] W R from fun W gm gs c q J R hG hH hR => by
    rw [e9] at hH
    refine mPost_any (L := []) (X := X) (E := []) (H := []) (Jx := J) (qx := q) (most := 9) (po := 0) (ta := 0) (lo := 0) (c := 0) (p := none) (bs := true) (by simp) (by decide) (by omega) hG.out.le (by decide) (by decide) LsD.nil (hH.perm (List.Perm.swap _ _ _)) (fun W' p' c' E' h1 h2 => ?_)
    rw [ePL] at h1 h2
    rw [ePN] at h2 ⊢
    have h3 := hR W' p' c' E' h1 (by
      rw [Nat.sub_self, Nat.add_zero, Nat.zero_add] at h2
      exact h2.perm (permC fun z => by simp only [cnt_c, cnt_app, cnt_nil]; omega))
    simpa using h3)
  have HLI := Lib.hid (show ∀ (W : World) (a : Nat × TypeId × Bool × List Seg) (gm : Nat) (p : Option Addr) (c : Nat) (E : HB) (R : Ending → World → Prop), LsD p c X E → Hp w.heap.size w W (a :: (gm, 60, true, mlS 0 9 p X.length c X.length 0 0) :: (E ++ [])) → (∀ W' p' c' E', LsD p' c' X E' → Hp w.heap.size w W' (a :: (gm, 60, true, mlS 0 9 p X.length c X.length 0 0) :: (E ++ E')) → R (.returned (.slice p' X.length c')) W') → Calls Try.prog 9 #[.pointer (some ⟨gm, 0, none⟩)] W R from fun W a gm p c E R hL hH hR =>
    mList_any (L := X) (H := [a]) (most := 9) (po := X.length) (ta := 0) (lo := 0) (by omega) hL (hH.perm (permC fun z => by simp only [cnt_c, cnt_app, cnt_nil]; omega)) (fun W' p' c' E' h1 h2 => hR W' p' c' E' h1 (h2.perm (permC fun z => by simp only [cnt_c, cnt_app, cnt_nil]; omega))))
  have HOF := Lib.hid (show ∀ (W : World) (a : Nat × TypeId × Bool × List Seg) (gm : Nat) (p : Option Addr) (c : Nat) (E E2 : HB) (R : Ending → World → Prop), LsD p c X E → Hp w.heap.size w W (a :: (gm, 60, true, mlS 0 9 p X.length c X.length 0 0) :: (E ++ E2)) → (∀ W' p' n' c' E', n' ≤ 100000 → AnyMs p' n' E' → Hp w.heap.size w W' ((gm, 60, true, mlS 0 9 p X.length c X.length 0 0) :: (E ++ E')) → R (.returned (.slice p' n' c')) W') → Calls Try.prog 10 #[.pointer (some ⟨gm, 0, none⟩), .int .i64 1, .bool true] W R from fun W a gm p c E E2 R hL hH hR =>
    mOf_any (L := X) (H := []) (most := 9) (po := X.length) (ta := 0) (lo := 0) (by omega) hL ((hH.sub (SubH.drop (SubH.keep (SubH.keeps SubH.nil)))).perm (.refl _)) (fun W' p' c' E' h1 h2 => hR W' p' _ c' E' (Nat.le_trans (List.length_filter_le _ _) (by omega)) h1.any (h2.perm (permC fun z => by simp only [cnt_c, cnt_app, cnt_nil]; omega))))
  have HL3 := Lib.hid (show ∀ (W : World) (gm : Nat) (p : Option Addr) (c : Nat) (E E2 : HB) (R : Ending → World → Prop), LsD p c X E → Hp w.heap.size w W ((gm, 60, true, mlS 0 9 p X.length c X.length 0 0) :: (E ++ E2)) → (∀ W' p' c' E', LsD p' c' X E' → Hp w.heap.size w W' (E' ++ []) → R (.returned (.slice p' X.length c')) W') → Calls Try.prog 9 #[.pointer (some ⟨gm, 0, none⟩)] W R from fun W gm p c E E2 R hL hH hR =>
    mList_any (L := X) (H := []) (most := 9) (po := X.length) (ta := 0) (lo := 0) (by omega) hL (hH.sub (SubH.keep (SubH.keeps SubH.nil))) (fun W' p' c' E' h1 h2 => hR W' p' c' E' h1 (h2.sub (SubH.keeps SubH.nil))))
  have HSM := Lib.hid (show ∀ (W : World) (H : HB) (p : Option Addr) (c c2 gs q : Nat) (E : HB) (J : List Value) (R : Ending → World → Prop), LsD p c X E → Hp w.heap.size w W ((gs, 30, true, [.many (mgsL X) (X.length * 7), .many J q]) :: (E ++ H)) → (∀ W', Hp w.heap.size w W' [] → R (.returned (.bool true)) W') → Calls Try.prog 11 #[.slice p X.length c, .slice (some ⟨gs, 0, none⟩) X.length c2] W R from fun W H p c c2 gs q E J R hL hH hR => by
    have g1 := hL.at (by omega) (hH.sub (SubH.drop SubH.refl))
    have g2 := mgsAt_row (L := X) (J := J) (by omega) (by have := (hH.rows.mem (i := 0) rfl).1; rwa [fls_two] at this)
    have := same29_any (c := c) (c' := c2) g1 g2
    rw [decide_eq_true rfl] at this
    exact this.to.mono fun e w' ⟨he, hb⟩ => by subst he; exact hR _ (hH.keep hb).nil)
  clear h hX ePN ePL e9
  have HXX := Lib.hid hX5
  have oX := mgsL_ok X
  generalize mgsL X = MX at *
  refine Gives.of ?_
  have hH := Hp.refl w
  go_enter Try.func3, Try.ntmps3
  go_wp2_with (first | ((go_at_call 6; refine mNew_any hH ?_; (clear hH; intro W gm hH); (try simp only [Act.put, List.setIfInBounds_toArray, List.set_cons_succ, List.set_cons_zero]))) | ((go_at_call 7; refine HF.out _ _ _ hH ?_; (clear hH; intro W gs cs q J hG oJ hH); (try simp only [Act.put, List.setIfInBounds_toArray, List.set_cons_succ, List.set_cons_zero]))) | ((go_at_call 8; refine HP.out _ _ _ _ _ _ _ hG hH ?_; (clear hH; intro W p1 c1 E1 hL1 hH); (try simp only [Act.put, List.setIfInBounds_toArray, List.set_cons_succ, List.set_cons_zero]))) | ((go_at_call 9; refine HLI.out _ _ _ _ _ _ _ hL1 hH ?_; (clear hH; intro W p2 c2 E2 hL2 hH); (try simp only [Act.put, List.setIfInBounds_toArray, List.set_cons_succ, List.set_cons_zero]))) | ((first | (refine gL rfl ?_; first | (refine hL1 tab_ok 0 rfl ?_ rfl hH rfl rfl rfl rfl ?_; (focus (first | exact wN rfl | exact rfl))) | (refine hL1 tab_ok 1 rfl ?_ rfl hH rfl rfl rfl rfl ?_; (focus (first | exact wN rfl | exact rfl))) | (refine hL1 tab_ok 2 rfl ?_ rfl hH rfl rfl rfl rfl ?_; (focus (first | exact wN rfl | exact rfl))) | (refine hLR tab_ok 0 rfl ?_ rfl hH rfl rfl rfl rfl ?_; (focus (first | exact wN rfl | exact rfl))) | (refine hLR tab_ok 1 rfl ?_ rfl hH rfl rfl rfl rfl ?_; (focus (first | exact wN rfl | exact rfl))) | (refine hLR tab_ok 2 rfl ?_ rfl hH rfl rfl rfl rfl ?_; (focus (first | exact wN rfl | exact rfl))) | (refine hL1i tab_ok 0 rfl ?_ rfl hH rfl rfl rfl rfl ?_; (focus (first | exact wN rfl | exact rfl)); refine ⟨?_, ?_, ?_⟩; rotate_left; (focus assumption)) | (refine hL1i tab_ok 1 rfl ?_ rfl hH rfl rfl rfl rfl ?_; (focus (first | exact wN rfl | exact rfl)); refine ⟨?_, ?_, ?_⟩; rotate_left; (focus assumption)) | (refine hL1i tab_ok 2 rfl ?_ rfl hH rfl rfl rfl rfl ?_; (focus (first | exact wN rfl | exact rfl)); refine ⟨?_, ?_, ?_⟩; rotate_left; (focus assumption))) | (refine gS rfl ?_; first | (refine hS1 tab_ok 0 rfl ?_ rfl rfl hH rfl rfl rfl rfl rfl ?_; (focus (first | exact wN rfl | exact rfl))) | (refine hS1 tab_ok 1 rfl ?_ rfl rfl hH rfl rfl rfl rfl rfl ?_; (focus (first | exact wN rfl | exact rfl))) | (refine hS1 tab_ok 2 rfl ?_ rfl rfl hH rfl rfl rfl rfl rfl ?_; (focus (first | exact wN rfl | exact rfl))) | (refine hSR tab_ok 0 rfl ?_ rfl rfl hH rfl rfl rfl rfl rfl ?_ ?_; (focus (first | exact wN rfl | exact rfl)); (focus (repeat (first | exact trivial | assumption | exact OkA.z (by kernel_rfl) (by kernel_rfl) | refine ⟨rfl, ?_⟩ | refine ⟨?_, ?_⟩)))) | (refine hSR tab_ok 1 rfl ?_ rfl rfl hH rfl rfl rfl rfl rfl ?_ ?_; (focus (first | exact wN rfl | exact rfl)); (focus (repeat (first | exact trivial | assumption | exact OkA.z (by kernel_rfl) (by kernel_rfl) | refine ⟨rfl, ?_⟩ | refine ⟨?_, ?_⟩)))) | (refine hSR tab_ok 2 rfl ?_ rfl rfl hH rfl rfl rfl rfl rfl ?_ ?_; (focus (first | exact wN rfl | exact rfl)); (focus (repeat (first | exact trivial | assumption | exact OkA.z (by kernel_rfl) (by kernel_rfl) | refine ⟨rfl, ?_⟩ | refine ⟨?_, ?_⟩))))) | (refine hAl tab_ok rfl ?_ hH rfl ?_; (focus (first | exact wN rfl | exact rfl))) | (refine hBx1 rfl ?_ rfl hH ?_; (focus (first | exact wN rfl | exact rfl))) | (refine hBx rfl ?_ rfl hH ?_ ?_; (focus (first | exact wN rfl | exact rfl)); (focus (repeat (first | exact trivial | assumption | exact OkA.z (by kernel_rfl) (by kernel_rfl) | refine ⟨rfl, ?_⟩ | refine ⟨?_, ?_⟩)))) | (refine hBd tab_ok rfl ?_ rfl rfl rfl hH ?_; (focus (first | exact wN rfl | exact rfl)); refine ⟨?_, ?_, ?_⟩; rotate_left; (focus (repeat (first | exact BR.nil | refine BR.one rfl rfl rfl ?_ | (refine BR.row rfl rfl rfl rfl ?_ ?_; (focus (repeat (first | exact trivial | assumption | exact OkA.z (by kernel_rfl) (by kernel_rfl) | refine ⟨rfl, ?_⟩ | refine ⟨?_, ?_⟩))))))))); clear hH; (first | intro W g hH | intro W hH); (try simp only [Act.put, List.setIfInBounds_toArray, List.set_cons_succ, List.set_cons_zero])))
  go_loopw [6] (fun i wr => ∃ (j : Nat) (A : List Value), i = .int .i64 (j : Int) ∧ j ≤ X.length ∧ OkA A (X.length * 7) ∧ Hp w.heap.size w wr ((gs, 30, true, [.many A (X.length * 7), .many J q]) :: (gm, 60, true, mlS 0 9 p1 X.length c1 X.length 0 0) :: (E1 ++ E2))) (fun i _ => X.length - (intOf i).toNat)
  case atStart => exact ⟨0, _, rfl, by omega, oX, hH⟩
  case round =>
    clear hH
    obtain ⟨j, A, rfl, hj, oA, hH⟩ := hrel
    by_cases hjl : j < X.length
    · have dj : decide ((j : Int) < (X.length : Int)) = true := decide_eq_true (by omega)
      go_wp2_with (first | ((refine gS rfl ?_; refine hSx1A tab_ok 0 rfl ?_ rfl rfl hH rfl rfl rfl ?_; (focus (first | exact wN rfl | exact rfl)); refine ⟨?_, ?_⟩; (focus omega); intro W H' A' oA' hu h; (obtain rfl := Option.some.inj hu); clear hu hH; have hH := h; clear h; (try simp only [Act.put, List.setIfInBounds_toArray, List.set_cons_succ, List.set_cons_zero]))) | ((first | (refine gL rfl ?_; first | (refine hL1 tab_ok 0 rfl ?_ rfl hH rfl rfl rfl rfl ?_; (focus (first | exact wN rfl | exact rfl))) | (refine hLR tab_ok 0 rfl ?_ rfl hH rfl rfl rfl rfl ?_; (focus (first | exact wN rfl | exact rfl))) | (refine hL1i tab_ok 0 rfl ?_ rfl hH rfl rfl rfl rfl ?_; (focus (first | exact wN rfl | exact rfl)); refine ⟨?_, ?_, ?_⟩; rotate_left; (focus assumption))) | (refine gS rfl ?_; first | (refine hS1 tab_ok 0 rfl ?_ rfl rfl hH rfl rfl rfl rfl rfl ?_; (focus (first | exact wN rfl | exact rfl))) | (refine hSR tab_ok 0 rfl ?_ rfl rfl hH rfl rfl rfl rfl rfl ?_ ?_; (focus (first | exact wN rfl | exact rfl)); (focus (repeat (first | exact trivial | assumption | exact OkA.z (by kernel_rfl) (by kernel_rfl) | refine ⟨rfl, ?_⟩ | refine ⟨?_, ?_⟩))))) | (refine hAl tab_ok rfl ?_ hH rfl ?_; (focus (first | exact wN rfl | exact rfl))) | (refine hBx1 rfl ?_ rfl hH ?_; (focus (first | exact wN rfl | exact rfl))) | (refine hBx rfl ?_ rfl hH ?_ ?_; (focus (first | exact wN rfl | exact rfl)); (focus (repeat (first | exact trivial | assumption | exact OkA.z (by kernel_rfl) (by kernel_rfl) | refine ⟨rfl, ?_⟩ | refine ⟨?_, ?_⟩)))) | (refine hBd tab_ok rfl ?_ rfl rfl rfl hH ?_; (focus (first | exact wN rfl | exact rfl)); refine ⟨?_, ?_, ?_⟩; rotate_left; (focus (repeat (first | exact BR.nil | refine BR.one rfl rfl rfl ?_ | (refine BR.row rfl rfl rfl rfl ?_ ?_; (focus (repeat (first | exact trivial | assumption | exact OkA.z (by kernel_rfl) (by kernel_rfl) | refine ⟨rfl, ?_⟩ | refine ⟨?_, ?_⟩))))))))); clear hH; (first | intro W g hH | intro W hH); (try simp only [Act.put, List.setIfInBounds_toArray, List.set_cons_succ, List.set_cons_zero])))
      exact ⟨⟨j + 1, A', by simp, by omega, oA', hH⟩, by simp [intOf]; omega⟩
    have hge : X.length ≤ j := by omega
    have dj : decide ((j : Int) < (X.length : Int)) = false := decide_eq_false (by omega)
    have hA2 := hL2.any
    clear hL2 hjl
    go_wp2_with (first | ((first | (refine gL rfl ?_; first | (refine hL1 tab_ok 0 rfl ?_ rfl hH rfl rfl rfl rfl ?_; (focus (first | exact wN rfl | exact rfl))) | (refine hLR tab_ok 0 rfl ?_ rfl hH rfl rfl rfl rfl ?_; (focus (first | exact wN rfl | exact rfl))) | (refine hL1i tab_ok 0 rfl ?_ rfl hH rfl rfl rfl rfl ?_; (focus (first | exact wN rfl | exact rfl)); refine ⟨?_, ?_, ?_⟩; rotate_left; (focus assumption))) | (refine gS rfl ?_; first | (refine hS1 tab_ok 0 rfl ?_ rfl rfl hH rfl rfl rfl rfl rfl ?_; (focus (first | exact wN rfl | exact rfl))) | (refine hSR tab_ok 0 rfl ?_ rfl rfl hH rfl rfl rfl rfl rfl ?_ ?_; (focus (first | exact wN rfl | exact rfl)); (focus (repeat (first | exact trivial | assumption | exact OkA.z (by kernel_rfl) (by kernel_rfl) | refine ⟨rfl, ?_⟩ | refine ⟨?_, ?_⟩))))) | (refine hAl tab_ok rfl ?_ hH rfl ?_; (focus (first | exact wN rfl | exact rfl))) | (refine hBx1 rfl ?_ rfl hH ?_; (focus (first | exact wN rfl | exact rfl))) | (refine hBx rfl ?_ rfl hH ?_ ?_; (focus (first | exact wN rfl | exact rfl)); (focus (repeat (first | exact trivial | assumption | exact OkA.z (by kernel_rfl) (by kernel_rfl) | refine ⟨rfl, ?_⟩ | refine ⟨?_, ?_⟩)))) | (refine hBd tab_ok rfl ?_ rfl rfl rfl hH ?_; (focus (first | exact wN rfl | exact rfl)); refine ⟨?_, ?_, ?_⟩; rotate_left; (focus (repeat (first | exact BR.nil | refine BR.one rfl rfl rfl ?_ | (refine BR.row rfl rfl rfl rfl ?_ ?_; (focus (repeat (first | exact trivial | assumption | exact OkA.z (by kernel_rfl) (by kernel_rfl) | refine ⟨rfl, ?_⟩ | refine ⟨?_, ?_⟩))))))))); clear hH; (first | intro W g hH | intro W hH); (try simp only [Act.put, List.setIfInBounds_toArray, List.set_cons_succ, List.set_cons_zero])))
    clear dj hge hj
    go_loopw [7] (fun i wr => ∃ (j : Nat) (E2' : HB), i = .int .i64 (j : Int) ∧ j ≤ X.length ∧ AnyMs p2 X.length E2' ∧ Hp w.heap.size w wr ((gs, 30, true, [.many A (X.length * 7), .many J q]) :: (gm, 60, true, mlS 0 9 p1 X.length c1 X.length 0 0) :: (E1 ++ E2'))) (fun i _ => X.length - (intOf i).toNat)
    case atStart => exact ⟨0, E2, rfl, by omega, hA2, hH⟩
    case round =>
      clear hH hA2
      obtain ⟨j, E2', rfl, hj, hA2, hH⟩ := hrel
      by_cases hjl : j < X.length
      · have dj : decide ((j : Int) < (X.length : Int)) = true := decide_eq_true (by omega)
        rcases hA2 with ⟨h0, _⟩ | ⟨gl, A2, J2, q2, rfl, oA2, oJ2, rfl⟩
        · omega
        · have hH := hH.perm (permC (B := (gl, 30, true, [.many A2 (X.length * 7), .many J2 q2]) :: (gs, 30, true, [.many A (X.length * 7), .many J q]) :: (gm, 60, true, mlS 0 9 p1 X.length c1 X.length 0 0) :: E1) fun z => by simp only [cnt_c, cnt_app, cnt_nil]; omega)
          go_wp2_with (first | ((refine gS rfl ?_; refine hSx1A tab_ok 0 rfl ?_ rfl rfl hH rfl rfl rfl ?_; (focus (first | exact wN rfl | exact rfl)); refine ⟨?_, ?_⟩; (focus omega); intro W H' A' oA' hu h; (obtain rfl := Option.some.inj hu); clear hu hH; have hH := h; clear h; (try simp only [Act.put, List.setIfInBounds_toArray, List.set_cons_succ, List.set_cons_zero]))) | ((first | (refine gL rfl ?_; first | (refine hL1 tab_ok 0 rfl ?_ rfl hH rfl rfl rfl rfl ?_; (focus (first | exact wN rfl | exact rfl))) | (refine hLR tab_ok 0 rfl ?_ rfl hH rfl rfl rfl rfl ?_; (focus (first | exact wN rfl | exact rfl))) | (refine hL1i tab_ok 0 rfl ?_ rfl hH rfl rfl rfl rfl ?_; (focus (first | exact wN rfl | exact rfl)); refine ⟨?_, ?_, ?_⟩; rotate_left; (focus assumption))) | (refine gS rfl ?_; first | (refine hS1 tab_ok 0 rfl ?_ rfl rfl hH rfl rfl rfl rfl rfl ?_; (focus (first | exact wN rfl | exact rfl))) | (refine hSR tab_ok 0 rfl ?_ rfl rfl hH rfl rfl rfl rfl rfl ?_ ?_; (focus (first | exact wN rfl | exact rfl)); (focus (repeat (first | exact trivial | assumption | exact OkA.z (by kernel_rfl) (by kernel_rfl) | refine ⟨rfl, ?_⟩ | refine ⟨?_, ?_⟩))))) | (refine hAl tab_ok rfl ?_ hH rfl ?_; (focus (first | exact wN rfl | exact rfl))) | (refine hBx1 rfl ?_ rfl hH ?_; (focus (first | exact wN rfl | exact rfl))) | (refine hBx rfl ?_ rfl hH ?_ ?_; (focus (first | exact wN rfl | exact rfl)); (focus (repeat (first | exact trivial | assumption | exact OkA.z (by kernel_rfl) (by kernel_rfl) | refine ⟨rfl, ?_⟩ | refine ⟨?_, ?_⟩)))) | (refine hBd tab_ok rfl ?_ rfl rfl rfl hH ?_; (focus (first | exact wN rfl | exact rfl)); refine ⟨?_, ?_, ?_⟩; rotate_left; (focus (repeat (first | exact BR.nil | refine BR.one rfl rfl rfl ?_ | (refine BR.row rfl rfl rfl rfl ?_ ?_; (focus (repeat (first | exact trivial | assumption | exact OkA.z (by kernel_rfl) (by kernel_rfl) | refine ⟨rfl, ?_⟩ | refine ⟨?_, ?_⟩))))))))); clear hH; (first | intro W g hH | intro W hH); (try simp only [Act.put, List.setIfInBounds_toArray, List.set_cons_succ, List.set_cons_zero])))
          exact ⟨⟨j + 1, [(gl, 30, true, [.many A' (X.length * 7), .many J2 q2])], by simp, by omega, .inr ⟨gl, A', J2, q2, rfl, oA', oJ2, rfl⟩, hH.perm (permC fun z => by simp only [cnt_c, cnt_app, cnt_nil]; omega)⟩, by simp [intOf]; omega⟩
      have hge : X.length ≤ j := by omega
      have dj : decide ((j : Int) < (X.length : Int)) = false := decide_eq_false (by omega)
      clear hjl hA2
      go_wp2_with (first | ((go_at_call 10; refine HOF.out _ _ _ _ _ _ _ _ hL1 hH ?_; (clear hH; intro W p3 n3 c3 E3 hn3 hA3 hH); (try simp only [Act.put, List.setIfInBounds_toArray, List.set_cons_succ, List.set_cons_zero]))) | ((first | (refine gL rfl ?_; first | (refine hL1 tab_ok 0 rfl ?_ rfl hH rfl rfl rfl rfl ?_; (focus (first | exact wN rfl | exact rfl))) | (refine hLR tab_ok 0 rfl ?_ rfl hH rfl rfl rfl rfl ?_; (focus (first | exact wN rfl | exact rfl))) | (refine hL1i tab_ok 0 rfl ?_ rfl hH rfl rfl rfl rfl ?_; (focus (first | exact wN rfl | exact rfl)); refine ⟨?_, ?_, ?_⟩; rotate_left; (focus assumption))) | (refine gS rfl ?_; first | (refine hS1 tab_ok 0 rfl ?_ rfl rfl hH rfl rfl rfl rfl rfl ?_; (focus (first | exact wN rfl | exact rfl))) | (refine hSR tab_ok 0 rfl ?_ rfl rfl hH rfl rfl rfl rfl rfl ?_ ?_; (focus (first | exact wN rfl | exact rfl)); (focus (repeat (first | exact trivial | assumption | exact OkA.z (by kernel_rfl) (by kernel_rfl) | refine ⟨rfl, ?_⟩ | refine ⟨?_, ?_⟩))))) | (refine hAl tab_ok rfl ?_ hH rfl ?_; (focus (first | exact wN rfl | exact rfl))) | (refine hBx1 rfl ?_ rfl hH ?_; (focus (first | exact wN rfl | exact rfl))) | (refine hBx rfl ?_ rfl hH ?_ ?_; (focus (first | exact wN rfl | exact rfl)); (focus (repeat (first | exact trivial | assumption | exact OkA.z (by kernel_rfl) (by kernel_rfl) | refine ⟨rfl, ?_⟩ | refine ⟨?_, ?_⟩)))) | (refine hBd tab_ok rfl ?_ rfl rfl rfl hH ?_; (focus (first | exact wN rfl | exact rfl)); refine ⟨?_, ?_, ?_⟩; rotate_left; (focus (repeat (first | exact BR.nil | refine BR.one rfl rfl rfl ?_ | (refine BR.row rfl rfl rfl rfl ?_ ?_; (focus (repeat (first | exact trivial | assumption | exact OkA.z (by kernel_rfl) (by kernel_rfl) | refine ⟨rfl, ?_⟩ | refine ⟨?_, ?_⟩))))))))); clear hH; (first | intro W g hH | intro W hH); (try simp only [Act.put, List.setIfInBounds_toArray, List.set_cons_succ, List.set_cons_zero])))
      clear dj hge hj
      go_loopw [9] (fun i wr => ∃ (j : Nat) (E3' : HB), i = .int .i64 (j : Int) ∧ j ≤ n3 ∧ AnyMs p3 n3 E3' ∧ Hp w.heap.size w wr ((gm, 60, true, mlS 0 9 p1 X.length c1 X.length 0 0) :: (E1 ++ E3'))) (fun i _ => n3 - (intOf i).toNat)
      case atStart => exact ⟨0, E3, rfl, by omega, hA3, hH⟩
      case round =>
        clear hH hA3
        obtain ⟨j, E3', rfl, hj, hA3, hH⟩ := hrel
        by_cases hjl : j < n3
        · have dj : decide ((j : Int) < (n3 : Int)) = true := decide_eq_true (by omega)
          rcases hA3 with ⟨h0, _⟩ | ⟨gl, A2, J2, q2, rfl, oA2, oJ2, rfl⟩
          · omega
          · have hH := hH.perm (permC (B := (gl, 30, true, [.many A2 (n3 * 7), .many J2 q2]) :: (gm, 60, true, mlS 0 9 p1 X.length c1 X.length 0 0) :: E1) fun z => by simp only [cnt_c, cnt_app, cnt_nil]; omega)
            go_wp2_with (first | ((refine gS rfl ?_; refine hSx1A tab_ok 0 rfl ?_ rfl rfl hH rfl rfl rfl ?_; (focus (first | exact wN rfl | exact rfl)); refine ⟨?_, ?_⟩; (focus omega); intro W H' A' oA' hu h; (obtain rfl := Option.some.inj hu); clear hu hH; have hH := h; clear h; (try simp only [Act.put, List.setIfInBounds_toArray, List.set_cons_succ, List.set_cons_zero]))) | ((first | (refine gL rfl ?_; first | (refine hL1 tab_ok 0 rfl ?_ rfl hH rfl rfl rfl rfl ?_; (focus (first | exact wN rfl | exact rfl))) | (refine hLR tab_ok 0 rfl ?_ rfl hH rfl rfl rfl rfl ?_; (focus (first | exact wN rfl | exact rfl))) | (refine hL1i tab_ok 0 rfl ?_ rfl hH rfl rfl rfl rfl ?_; (focus (first | exact wN rfl | exact rfl)); refine ⟨?_, ?_, ?_⟩; rotate_left; (focus assumption))) | (refine gS rfl ?_; first | (refine hS1 tab_ok 0 rfl ?_ rfl rfl hH rfl rfl rfl rfl rfl ?_; (focus (first | exact wN rfl | exact rfl))) | (refine hSR tab_ok 0 rfl ?_ rfl rfl hH rfl rfl rfl rfl rfl ?_ ?_; (focus (first | exact wN rfl | exact rfl)); (focus (repeat (first | exact trivial | assumption | exact OkA.z (by kernel_rfl) (by kernel_rfl) | refine ⟨rfl, ?_⟩ | refine ⟨?_, ?_⟩))))) | (refine hAl tab_ok rfl ?_ hH rfl ?_; (focus (first | exact wN rfl | exact rfl))) | (refine hBx1 rfl ?_ rfl hH ?_; (focus (first | exact wN rfl | exact rfl))) | (refine hBx rfl ?_ rfl hH ?_ ?_; (focus (first | exact wN rfl | exact rfl)); (focus (repeat (first | exact trivial | assumption | exact OkA.z (by kernel_rfl) (by kernel_rfl) | refine ⟨rfl, ?_⟩ | refine ⟨?_, ?_⟩)))) | (refine hBd tab_ok rfl ?_ rfl rfl rfl hH ?_; (focus (first | exact wN rfl | exact rfl)); refine ⟨?_, ?_, ?_⟩; rotate_left; (focus (repeat (first | exact BR.nil | refine BR.one rfl rfl rfl ?_ | (refine BR.row rfl rfl rfl rfl ?_ ?_; (focus (repeat (first | exact trivial | assumption | exact OkA.z (by kernel_rfl) (by kernel_rfl) | refine ⟨rfl, ?_⟩ | refine ⟨?_, ?_⟩))))))))); clear hH; (first | intro W g hH | intro W hH); (try simp only [Act.put, List.setIfInBounds_toArray, List.set_cons_succ, List.set_cons_zero])))
            exact ⟨⟨j + 1, [(gl, 30, true, [.many A' (n3 * 7), .many J2 q2])], by simp, by omega, .inr ⟨gl, A', J2, q2, rfl, oA', oJ2, rfl⟩, hH.perm (permC fun z => by simp only [cnt_c, cnt_app, cnt_nil]; omega)⟩, by simp [intOf]; omega⟩
        have hge : n3 ≤ j := by omega
        have dj : decide ((j : Int) < (n3 : Int)) = false := decide_eq_false (by omega)
        clear hjl hA3
        go_wp2_with (first | ((go_at_call 9; refine HL3.out _ _ _ _ _ _ _ hL1 hH ?_; (clear hH; intro W p4 c4 E4 hL4 hH); (try simp only [Act.put, List.setIfInBounds_toArray, List.set_cons_succ, List.set_cons_zero]))) | ((go_at_call 7; refine HF.out _ _ _ hH ?_; (clear hH; intro W gs5 cs5 q5 J5 hG5 oJ5 hH); (try simp only [Act.put, List.setIfInBounds_toArray, List.set_cons_succ, List.set_cons_zero]))) | ((go_at_call 11; refine HSM.out _ _ _ _ _ _ _ _ _ _ hL4 hH ?_; (clear hH; intro W hH); (try simp only [Act.put, List.setIfInBounds_toArray, List.set_cons_succ, List.set_cons_zero]))) | ((first | (refine gL rfl ?_; first | (refine hL1 tab_ok 0 rfl ?_ rfl hH rfl rfl rfl rfl ?_; (focus (first | exact wN rfl | exact rfl))) | (refine hLR tab_ok 0 rfl ?_ rfl hH rfl rfl rfl rfl ?_; (focus (first | exact wN rfl | exact rfl))) | (refine hL1i tab_ok 0 rfl ?_ rfl hH rfl rfl rfl rfl ?_; (focus (first | exact wN rfl | exact rfl)); refine ⟨?_, ?_, ?_⟩; rotate_left; (focus assumption))) | (refine gS rfl ?_; first | (refine hS1 tab_ok 0 rfl ?_ rfl rfl hH rfl rfl rfl rfl rfl ?_; (focus (first | exact wN rfl | exact rfl))) | (refine hSR tab_ok 0 rfl ?_ rfl rfl hH rfl rfl rfl rfl rfl ?_ ?_; (focus (first | exact wN rfl | exact rfl)); (focus (repeat (first | exact trivial | assumption | exact OkA.z (by kernel_rfl) (by kernel_rfl) | refine ⟨rfl, ?_⟩ | refine ⟨?_, ?_⟩))))) | (refine hAl tab_ok rfl ?_ hH rfl ?_; (focus (first | exact wN rfl | exact rfl))) | (refine hBx1 rfl ?_ rfl hH ?_; (focus (first | exact wN rfl | exact rfl))) | (refine hBx rfl ?_ rfl hH ?_ ?_; (focus (first | exact wN rfl | exact rfl)); (focus (repeat (first | exact trivial | assumption | exact OkA.z (by kernel_rfl) (by kernel_rfl) | refine ⟨rfl, ?_⟩ | refine ⟨?_, ?_⟩)))) | (refine hBd tab_ok rfl ?_ rfl rfl rfl hH ?_; (focus (first | exact wN rfl | exact rfl)); refine ⟨?_, ?_, ?_⟩; rotate_left; (focus (repeat (first | exact BR.nil | refine BR.one rfl rfl rfl ?_ | (refine BR.row rfl rfl rfl rfl ?_ ?_; (focus (repeat (first | exact trivial | assumption | exact OkA.z (by kernel_rfl) (by kernel_rfl) | refine ⟨rfl, ?_⟩ | refine ⟨?_, ?_⟩)))))))) | ((with_reducible refine callH hH ?_); refine ⟨?_, ?_, ?_⟩; rotate_left; (focus (first | (with_reducible exact mlives_any))))); clear hH; (first | intro W g hH | intro W hH); (try simp only [Act.put, List.setIfInBounds_toArray, List.set_cons_succ, List.set_cons_zero])))
        go_ret
        exact ⟨rfl, hH.below⟩
theorem nil_open {Hh : Type} {enc : TypeId × Value → Hh} {v : Value} {d : DataW Hh} {ps : List MemPlace} (h : DataW.Trod enc Try.prog W 0 (fun _ => true) true 22 v d ps) (hv : v.cells = #[v]) : ∃ (p : Option Addr) (L : List Mg) (c : Nat), v = .slice p L.length c ∧ MgsAt W p L := by
  obtain ⟨fuel0, hf0⟩ := h
  rw [hv] at hf0
  obtain ⟨p, L, c, hc, hA⟩ := mgs_trod hf0
  exact ⟨p, L, c, by simpa using hc, hA⟩
set_option maxRecDepth 100000 in
theorem mailNil_lifted (os : Os) (started : os.Started) (H : Type) (enc : TypeId × Value → H) :
    ReturnsInHanded {} Try.checked os 5 .any (Rows.mailNilSpec.pre6 enc Try.prog Try.f5 Rows.mailNilRow.domain false) (Rows.mailNilSpec.post enc Try.prog Try.f5 false true false false) := by
  refine lifted_of_walk (C := Try.checked) (tb := 4) own started (by kernel_rfl) Try.func5
    (ChangeSpec.witness6 (enc := enc) (C := Try.checked) false ⟨#[], #[.slice none 0 0, .int .i64 0], []⟩ 8 (by kernel_rfl) (by kernel_rfl) (by kernel_rfl) (by kernel_rfl))
    (by kernel_rfl) Try.underlying4 (by kernel_rfl) (by kernel_rfl) rfl ?_ ?_
  · intro ds hl
    match ds, hl with
    | [d0, d1], _ => exact ⟨rfl, rfl, rfl⟩
  · intro W base args ds ps hval hA hfz
    have hA' : DataW.TrodAll enc Try.prog W 0 (fun _ => true) true Try.f5.params.toList args.toList ds ps := hA
    rw [Try.params5] at hA'
    obtain ⟨v0, vs0, d0, ds0, p0, q0, hargs0, rfl, rfl, h0, r0⟩ := trodAll_cons hA'
    obtain ⟨v1, vs1, d1, ds1, p1, q1, hargs1, rfl, rfl, h1, r1⟩ := trodAll_cons r0
    obtain ⟨hvs, rfl, rfl⟩ := trodAll_nil r1
    obtain rfl : args = #[v0, v1] := by cases args; simp_all
    have g0 := hval 0 22 v0 rfl rfl
    have g1 := hval 1 3 v1 rfl rfl
    obtain ⟨b0, n0, c0, rfl⟩ := okWide_slice Try.underlying22 g0
    obtain ⟨k, rfl, _⟩ := open_i64 Try.underlying3 g1
    obtain ⟨p, L, c, e, hA⟩ := nil_open h0 rfl
    rw [e]
    exact mailNil_walk hA
theorem mailNil_proved : Rows.MailNilSaid :=
  OpenClaim.holds_of_wide 5 Try.f5 rfl rfl rfl rfl rfl rfl rfl ⟨rfl, rfl, rfl, rfl, rfl⟩ rfl rfl rfl rfl rfl (by kernel_rfl) Try.func5 (by kernel_rfl)
    (of_decide_eq_true (by kernel_rfl)) (by unfold Func.isWrapper; first | (rw [if_pos (by decide +kernel)]; kernel_rfl) | (rw [if_neg (by decide +kernel)]; exact ⟨rfl, rfl⟩))
    (fun os started H enc _ => mailNil_lifted os started H enc)
set_option maxRecDepth 100000 in
theorem mailOwn_lifted (os : Os) (started : os.Started) (H : Type) (enc : TypeId × Value → H) :
    ReturnsInHanded {} Try.checked os 3 .any (Rows.mailOwnSpec.pre6 enc Try.prog Try.f3 Rows.mailOwnRow.domain false) (Rows.mailOwnSpec.post enc Try.prog Try.f3 false true false false) := by
  refine lifted_of_walk (C := Try.checked) (tb := 4) own started (by kernel_rfl) Try.func3
    (ChangeSpec.witness6 (enc := enc) (C := Try.checked) false ⟨#[], #[.slice none 0 0], []⟩ 8 (by kernel_rfl) (by kernel_rfl) (by kernel_rfl) (by kernel_rfl))
    (by kernel_rfl) Try.underlying4 (by kernel_rfl) (by kernel_rfl) rfl ?_ ?_
  · intro ds hl
    match ds, hl with
    | [d0], _ => exact ⟨rfl, rfl, rfl⟩
  · intro W base args ds ps hval hA hfz
    have hA' : DataW.TrodAll enc Try.prog W 0 (fun _ => true) true Try.f3.params.toList args.toList ds ps := hA
    rw [Try.params3] at hA'
    obtain ⟨v0, vs0, d0, ds0, p0, q0, hargs0, rfl, rfl, h0, r0⟩ := trodAll_cons hA'
    obtain ⟨hvs, rfl, rfl⟩ := trodAll_nil r0
    obtain rfl : args = #[v0] := by cases args; simp_all
    have g0 := hval 0 22 v0 rfl rfl
    obtain ⟨b0, n0, c0, rfl⟩ := okWide_slice Try.underlying22 g0
    obtain ⟨p, L, c, e, hA⟩ := nil_open h0 rfl
    rw [e]
    exact mailOwn_walk hA
theorem mailOwn_proved : Rows.MailOwnSaid :=
  OpenClaim.holds_of_wide 3 Try.f3 rfl rfl rfl rfl rfl rfl rfl ⟨rfl, rfl, rfl, rfl, rfl⟩ rfl rfl rfl rfl rfl (by kernel_rfl) Try.func3 (by kernel_rfl)
    (of_decide_eq_true (by kernel_rfl)) (by unfold Func.isWrapper; first | (rw [if_pos (by decide +kernel)]; kernel_rfl) | (rw [if_neg (by decide +kernel)]; exact ⟨rfl, rfl⟩))
    (fun os started H enc _ => mailOwn_lifted os started H enc)
end
end Go.Proofs.Ytknlhhmcidimaaa

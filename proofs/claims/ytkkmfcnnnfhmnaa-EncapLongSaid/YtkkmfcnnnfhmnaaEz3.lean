/-
  'EncapLong': how long a frame may be: the law.
-/
import Derived.Test.YtkkmfcnnnfhmnaaEz1
namespace Go.Proofs.Ytkkmfcnnnfhmnaa
open Go.ChangeShapes Go.WideShapes Go.ChangeAt Go.RowKit
set_option linter.unusedVariables false
set_option linter.unusedSimpArgs false
attribute [local irreducible] wpList

set_option maxRecDepth 100000 in
set_option maxHeartbeats 2000000 in
theorem long36_walk {c : UInt8} {w : World} : Gives Try.prog 4 #[.int .u8 (c.toNat : Int)] w (.bool true) := by
  obtain ⟨K, hK, hK1, hK2⟩ : ∃ K : Nat, 1590 + (c.toNat : Int) % 20 = (K : Int) ∧ 1590 ≤ K ∧ K < 1610 := ⟨1590 + c.toNat % 20, by omega, by omega, by omega⟩
  obtain ⟨X, hX⟩ : ∃ X, str (List.replicate K 0) = X := ⟨_, rfl⟩
  have hXn : X.size = K := by rw [← hX]; simp
  have h' : Tn.Ok ⟨0, (0 : Nat), false, zero16, (0 : Nat), (1 : Nat), X⟩ := ⟨rfl⟩
  have r' : Tn.Rg ⟨0, (0 : Nat), false, zero16, (0 : Nat), (1 : Nat), X⟩ := ⟨by simp, ⟨by simp, by simp⟩, ⟨by simp, by simp⟩, ⟨by simp, by simp⟩, by show X.size ≤ _; omega⟩
  have er := h'.refl r'
  have zr := tnz_ok.refl tnz_rg
  have oA : OkA (zeroL Try.prog 29) 17 := by rw [← zaddr]; exact okA_addr rfl
  have rW : ∀ w, Gives Try.prog 11 #[.agg (Tn.L ⟨0, (0 : Nat), false, zero16, (0 : Nat), (1 : Nat), X⟩).toArray] w (.string (wNN 0 0 false zero16 0 1 X)) := fun w => rWrite36_any rfl (by omega) (by omega) (by omega) (by omega) (by omega)
  obtain ⟨k1, k2, k3⟩ := back36 (ver := 0) (vl := 0) (rt := 0) (hp := 1) (v := false) (l := zero16) (b := X) (by omega) (by omega) (by omega) (by omega) (by omega) rfl (by decide) rfl
  have hz : (wNN 0 0 false zero16 0 1 X).size ≤ 3000 := by rw [k3]; split <;> omega
  have hR := fun w => Read36_any (w := w) (s := wNN 0 0 false zero16 0 1 X) (by omega)
  have hW := fun w => Write36_any (w := w) h' r'
  have hgx : gT ⟨0, (0 : Nat), false, zero16, (0 : Nat), (1 : Nat), X⟩ = decide (X.size ≤ 1600) := by
    unfold gT
    show (((true && (true || _)) && true) && true && true && decide (X.size ≤ 1600)) = decide (X.size ≤ 1600)
    simp
  have hE : (Tn.L ⟨0, (0 : Nat), false, zero16, (0 : Nat), (1 : Nat), X⟩).toArray = (fls [.one (.int .u32 0), .one (.int .i64 0), .many (zeroL Try.prog 29) 17, .one (.int .i64 0), .one (.int .i64 1), .one (.string X)]).toArray := by rw [← zaddr, tn_segs]; rfl
  by_cases hL : 1600 < K
  · have hg : gT ⟨0, (0 : Nat), false, zero16, (0 : Nat), (1 : Nat), X⟩ = false := by rw [hgx]; exact decide_eq_false (by omega)
    rw [hXn, if_pos hL] at k1
    have ee : errT (wNN 0 0 false zero16 0 1 X) = 6 := by unfold errT; rw [if_pos (by rw [k1]; decide), k1]
    have ep : tnOf (wNN 0 0 false zero16 0 1 X) = tnz := by unfold tnOf; rw [if_pos (by rw [ee]; decide)]
    rw [ee, ep, tnz_segs] at hR
    simp only [hg, Bool.false_eq_true, if_false] at hW
    rw [tnz_segs] at zr
    rw [hE] at hW rW er
    clear k1 k2 k3 hg hgx hE ee ep h' r'
    generalize wNN 0 0 false zero16 0 1 X = Y at *
    refine Gives.of ?_
    have hH := Hp.refl w
    go_enter Try.func4, Try.ntmps4
    go_wp2_with (first | (((refine hMk elemU8 (z := .int .u8 0) (n := K) (c := K) (by kernel_rfl) rfl rfl rfl rfl rfl rfl hH (Nat.le_refl _) (by omega) (by omega) ?_); (clear hH; (first | intro W g hH | intro W hH); (try simp only [Act.put, List.setIfInBounds_toArray, List.set_cons_succ, List.set_cons_zero])))) | (((refine hStr 0 (l := List.replicate K 0) Try.underlying37 Try.underlying5 Try.underlying9 rfl rfl rfl hH rfl (by simp [fls, byteV]) rfl (by simp) ?_); rw [hX]; (clear hH; (first | intro W g hH | intro W hH); (try simp only [Act.put, List.setIfInBounds_toArray, List.set_cons_succ, List.set_cons_zero])))) | ((first | (refine gL rfl ?_; first | (refine hL1 tab_ok 0 rfl ?_ rfl hH rfl rfl rfl rfl ?_; (focus (first | exact wN rfl | exact rfl))) | (refine hL1 tab_ok 1 rfl ?_ rfl hH rfl rfl rfl rfl ?_; (focus (first | exact wN rfl | exact rfl))) | (refine hL1 tab_ok 2 rfl ?_ rfl hH rfl rfl rfl rfl ?_; (focus (first | exact wN rfl | exact rfl))) | (refine hL1 tab_ok 3 rfl ?_ rfl hH rfl rfl rfl rfl ?_; (focus (first | exact wN rfl | exact rfl))) | (refine hLR tab_ok 0 rfl ?_ rfl hH rfl rfl rfl rfl ?_; (focus (first | exact wN rfl | exact rfl))) | (refine hLR tab_ok 1 rfl ?_ rfl hH rfl rfl rfl rfl ?_; (focus (first | exact wN rfl | exact rfl))) | (refine hLR tab_ok 2 rfl ?_ rfl hH rfl rfl rfl rfl ?_; (focus (first | exact wN rfl | exact rfl))) | (refine hLR tab_ok 3 rfl ?_ rfl hH rfl rfl rfl rfl ?_; (focus (first | exact wN rfl | exact rfl))) | (refine hL1i tab_ok 0 rfl ?_ rfl hH rfl rfl rfl rfl ?_; (focus (first | exact wN rfl | exact rfl)); refine ⟨?_, ?_, ?_⟩; rotate_left; (focus assumption)) | (refine hL1i tab_ok 1 rfl ?_ rfl hH rfl rfl rfl rfl ?_; (focus (first | exact wN rfl | exact rfl)); refine ⟨?_, ?_, ?_⟩; rotate_left; (focus assumption)) | (refine hL1i tab_ok 2 rfl ?_ rfl hH rfl rfl rfl rfl ?_; (focus (first | exact wN rfl | exact rfl)); refine ⟨?_, ?_, ?_⟩; rotate_left; (focus assumption)) | (refine hL1i tab_ok 3 rfl ?_ rfl hH rfl rfl rfl rfl ?_; (focus (first | exact wN rfl | exact rfl)); refine ⟨?_, ?_, ?_⟩; rotate_left; (focus assumption))) | (refine gS rfl ?_; first | (refine hS1 tab_ok 0 rfl ?_ rfl rfl hH rfl rfl rfl rfl rfl ?_; (focus (first | exact wN rfl | exact rfl))) | (refine hS1 tab_ok 1 rfl ?_ rfl rfl hH rfl rfl rfl rfl rfl ?_; (focus (first | exact wN rfl | exact rfl))) | (refine hS1 tab_ok 2 rfl ?_ rfl rfl hH rfl rfl rfl rfl rfl ?_; (focus (first | exact wN rfl | exact rfl))) | (refine hS1 tab_ok 3 rfl ?_ rfl rfl hH rfl rfl rfl rfl rfl ?_; (focus (first | exact wN rfl | exact rfl))) | (refine hSR tab_ok 0 rfl ?_ rfl rfl hH rfl rfl rfl rfl rfl ?_ ?_; (focus (first | exact wN rfl | exact rfl)); (focus (repeat (first | exact trivial | assumption | exact OkA.z (by kernel_rfl) (by kernel_rfl) | refine ⟨rfl, ?_⟩ | refine ⟨?_, ?_⟩)))) | (refine hSR tab_ok 1 rfl ?_ rfl rfl hH rfl rfl rfl rfl rfl ?_ ?_; (focus (first | exact wN rfl | exact rfl)); (focus (repeat (first | exact trivial | assumption | exact OkA.z (by kernel_rfl) (by kernel_rfl) | refine ⟨rfl, ?_⟩ | refine ⟨?_, ?_⟩)))) | (refine hSR tab_ok 2 rfl ?_ rfl rfl hH rfl rfl rfl rfl rfl ?_ ?_; (focus (first | exact wN rfl | exact rfl)); (focus (repeat (first | exact trivial | assumption | exact OkA.z (by kernel_rfl) (by kernel_rfl) | refine ⟨rfl, ?_⟩ | refine ⟨?_, ?_⟩)))) | (refine hSR tab_ok 3 rfl ?_ rfl rfl hH rfl rfl rfl rfl rfl ?_ ?_; (focus (first | exact wN rfl | exact rfl)); (focus (repeat (first | exact trivial | assumption | exact OkA.z (by kernel_rfl) (by kernel_rfl) | refine ⟨rfl, ?_⟩ | refine ⟨?_, ?_⟩))))) | (refine hAl tab_ok rfl ?_ hH rfl ?_; (focus (first | exact wN rfl | exact rfl))) | (refine hBx1 rfl ?_ rfl hH ?_; (focus (first | exact wN rfl | exact rfl))) | (refine hBx rfl ?_ rfl hH ?_ ?_; (focus (first | exact wN rfl | exact rfl)); (focus (repeat (first | exact trivial | assumption | exact OkA.z (by kernel_rfl) (by kernel_rfl) | refine ⟨rfl, ?_⟩ | refine ⟨?_, ?_⟩)))) | (refine hBd tab_ok rfl ?_ rfl rfl rfl hH ?_; (focus (first | exact wN rfl | exact rfl)); refine ⟨?_, ?_, ?_⟩; rotate_left; (focus (repeat (first | exact BR.nil | refine BR.one rfl rfl rfl ?_ | (refine BR.row rfl rfl rfl rfl ?_ ?_; (focus (repeat (first | exact trivial | assumption | exact OkA.z (by kernel_rfl) (by kernel_rfl) | refine ⟨rfl, ?_⟩ | refine ⟨?_, ?_⟩)))))))) | ((with_reducible refine callH hH ?_); refine ⟨?_, ?_, ?_⟩; rotate_left; (focus (first | (with_reducible exact hW _) | (with_reducible exact rW _) | (with_reducible exact hR _) | (with_reducible exact lives36_any))))); clear hH; (first | intro W g hH | intro W hH); (try simp only [Act.put, List.setIfInBounds_toArray, List.set_cons_succ, List.set_cons_zero])))
    all_goals first | (exfalso; omega) | (go_ret; exact ⟨rfl, hH.below⟩)
  · have hg : gT ⟨0, (0 : Nat), false, zero16, (0 : Nat), (1 : Nat), X⟩ = true := by rw [hgx]; exact decide_eq_true (by omega)
    rw [hXn, if_neg hL] at k1
    obtain ⟨ee, ep, _⟩ := back36_p h' r' hg
    have hwe : wT ⟨0, (0 : Nat), false, zero16, (0 : Nat), (1 : Nat), X⟩ = wNN 0 0 false zero16 0 1 X := rfl
    rw [hwe] at ee ep
    rw [ee, ep] at hR
    simp only [hg, if_true] at hW
    simp only [hwe] at hW
    rw [hE] at hW rW er hR
    clear k1 k2 k3 hg hgx hE ee ep h' r' hwe
    generalize wNN 0 0 false zero16 0 1 X = Y at *
    refine Gives.of ?_
    have hH := Hp.refl w
    go_enter Try.func4, Try.ntmps4
    go_wp2_with (first | (((refine hMk elemU8 (z := .int .u8 0) (n := K) (c := K) (by kernel_rfl) rfl rfl rfl rfl rfl rfl hH (Nat.le_refl _) (by omega) (by omega) ?_); (clear hH; (first | intro W g hH | intro W hH); (try simp only [Act.put, List.setIfInBounds_toArray, List.set_cons_succ, List.set_cons_zero])))) | (((refine hStr 0 (l := List.replicate K 0) Try.underlying37 Try.underlying5 Try.underlying9 rfl rfl rfl hH rfl (by simp [fls, byteV]) rfl (by simp) ?_); rw [hX]; (clear hH; (first | intro W g hH | intro W hH); (try simp only [Act.put, List.setIfInBounds_toArray, List.set_cons_succ, List.set_cons_zero])))) | ((first | (refine gL rfl ?_; first | (refine hL1 tab_ok 0 rfl ?_ rfl hH rfl rfl rfl rfl ?_; (focus (first | exact wN rfl | exact rfl))) | (refine hL1 tab_ok 1 rfl ?_ rfl hH rfl rfl rfl rfl ?_; (focus (first | exact wN rfl | exact rfl))) | (refine hL1 tab_ok 2 rfl ?_ rfl hH rfl rfl rfl rfl ?_; (focus (first | exact wN rfl | exact rfl))) | (refine hL1 tab_ok 3 rfl ?_ rfl hH rfl rfl rfl rfl ?_; (focus (first | exact wN rfl | exact rfl))) | (refine hLR tab_ok 0 rfl ?_ rfl hH rfl rfl rfl rfl ?_; (focus (first | exact wN rfl | exact rfl))) | (refine hLR tab_ok 1 rfl ?_ rfl hH rfl rfl rfl rfl ?_; (focus (first | exact wN rfl | exact rfl))) | (refine hLR tab_ok 2 rfl ?_ rfl hH rfl rfl rfl rfl ?_; (focus (first | exact wN rfl | exact rfl))) | (refine hLR tab_ok 3 rfl ?_ rfl hH rfl rfl rfl rfl ?_; (focus (first | exact wN rfl | exact rfl))) | (refine hL1i tab_ok 0 rfl ?_ rfl hH rfl rfl rfl rfl ?_; (focus (first | exact wN rfl | exact rfl)); refine ⟨?_, ?_, ?_⟩; rotate_left; (focus assumption)) | (refine hL1i tab_ok 1 rfl ?_ rfl hH rfl rfl rfl rfl ?_; (focus (first | exact wN rfl | exact rfl)); refine ⟨?_, ?_, ?_⟩; rotate_left; (focus assumption)) | (refine hL1i tab_ok 2 rfl ?_ rfl hH rfl rfl rfl rfl ?_; (focus (first | exact wN rfl | exact rfl)); refine ⟨?_, ?_, ?_⟩; rotate_left; (focus assumption)) | (refine hL1i tab_ok 3 rfl ?_ rfl hH rfl rfl rfl rfl ?_; (focus (first | exact wN rfl | exact rfl)); refine ⟨?_, ?_, ?_⟩; rotate_left; (focus assumption))) | (refine gS rfl ?_; first | (refine hS1 tab_ok 0 rfl ?_ rfl rfl hH rfl rfl rfl rfl rfl ?_; (focus (first | exact wN rfl | exact rfl))) | (refine hS1 tab_ok 1 rfl ?_ rfl rfl hH rfl rfl rfl rfl rfl ?_; (focus (first | exact wN rfl | exact rfl))) | (refine hS1 tab_ok 2 rfl ?_ rfl rfl hH rfl rfl rfl rfl rfl ?_; (focus (first | exact wN rfl | exact rfl))) | (refine hS1 tab_ok 3 rfl ?_ rfl rfl hH rfl rfl rfl rfl rfl ?_; (focus (first | exact wN rfl | exact rfl))) | (refine hSR tab_ok 0 rfl ?_ rfl rfl hH rfl rfl rfl rfl rfl ?_ ?_; (focus (first | exact wN rfl | exact rfl)); (focus (repeat (first | exact trivial | assumption | exact OkA.z (by kernel_rfl) (by kernel_rfl) | refine ⟨rfl, ?_⟩ | refine ⟨?_, ?_⟩)))) | (refine hSR tab_ok 1 rfl ?_ rfl rfl hH rfl rfl rfl rfl rfl ?_ ?_; (focus (first | exact wN rfl | exact rfl)); (focus (repeat (first | exact trivial | assumption | exact OkA.z (by kernel_rfl) (by kernel_rfl) | refine ⟨rfl, ?_⟩ | refine ⟨?_, ?_⟩)))) | (refine hSR tab_ok 2 rfl ?_ rfl rfl hH rfl rfl rfl rfl rfl ?_ ?_; (focus (first | exact wN rfl | exact rfl)); (focus (repeat (first | exact trivial | assumption | exact OkA.z (by kernel_rfl) (by kernel_rfl) | refine ⟨rfl, ?_⟩ | refine ⟨?_, ?_⟩)))) | (refine hSR tab_ok 3 rfl ?_ rfl rfl hH rfl rfl rfl rfl rfl ?_ ?_; (focus (first | exact wN rfl | exact rfl)); (focus (repeat (first | exact trivial | assumption | exact OkA.z (by kernel_rfl) (by kernel_rfl) | refine ⟨rfl, ?_⟩ | refine ⟨?_, ?_⟩))))) | (refine hAl tab_ok rfl ?_ hH rfl ?_; (focus (first | exact wN rfl | exact rfl))) | (refine hBx1 rfl ?_ rfl hH ?_; (focus (first | exact wN rfl | exact rfl))) | (refine hBx rfl ?_ rfl hH ?_ ?_; (focus (first | exact wN rfl | exact rfl)); (focus (repeat (first | exact trivial | assumption | exact OkA.z (by kernel_rfl) (by kernel_rfl) | refine ⟨rfl, ?_⟩ | refine ⟨?_, ?_⟩)))) | (refine hBd tab_ok rfl ?_ rfl rfl rfl hH ?_; (focus (first | exact wN rfl | exact rfl)); refine ⟨?_, ?_, ?_⟩; rotate_left; (focus (repeat (first | exact BR.nil | refine BR.one rfl rfl rfl ?_ | (refine BR.row rfl rfl rfl rfl ?_ ?_; (focus (repeat (first | exact trivial | assumption | exact OkA.z (by kernel_rfl) (by kernel_rfl) | refine ⟨rfl, ?_⟩ | refine ⟨?_, ?_⟩)))))))) | ((with_reducible refine callH hH ?_); refine ⟨?_, ?_, ?_⟩; rotate_left; (focus (first | (with_reducible exact hW _) | (with_reducible exact rW _) | (with_reducible exact hR _) | (with_reducible exact lives36_any))))); clear hH; (first | intro W g hH | intro W hH); (try simp only [Act.put, List.setIfInBounds_toArray, List.set_cons_succ, List.set_cons_zero])))
    all_goals first | (exfalso; omega) | (go_ret; exact ⟨rfl, hH.below⟩)
set_option maxRecDepth 100000 in
theorem encapLong_lifted (os : Os) (started : os.Started) (H : Type) (enc : TypeId × Value → H) :
    ReturnsInHanded {} Try.checked os 4 .any (Rows.encapLongSpec.pre6 enc Try.prog Try.f4 Rows.encapLongRow.domain false) (Rows.encapLongSpec.post enc Try.prog Try.f4 false true false false) := by
  refine lifted_of_walk (C := Try.checked) (tb := 4) own started (by kernel_rfl) Try.func4
    (ChangeSpec.witness6 (enc := enc) (C := Try.checked) false ⟨#[], #[.int .u8 0], []⟩ 8 (by kernel_rfl) (by kernel_rfl) (by kernel_rfl) (by kernel_rfl))
    (by kernel_rfl) Try.underlying4 (by kernel_rfl) (by kernel_rfl) rfl ?_ ?_
  · intro ds hl
    match ds, hl with
    | [d0], _ => exact ⟨rfl, rfl, rfl⟩
  · intro W base args ds ps hval hA hfz
    have hA' : DataW.TrodAll enc Try.prog W 0 (fun _ => true) true Try.f4.params.toList args.toList ds ps := hA
    rw [Try.params4] at hA'
    obtain ⟨v0, vs0, d0, ds0, p0, q0, hargs0, rfl, rfl, h0, r0⟩ := trodAll_cons hA'
    obtain ⟨hvs, rfl, rfl⟩ := trodAll_nil r0
    obtain rfl : args = #[v0] := by cases args; simp_all
    have g0 := hval 0 5 v0 rfl rfl
    obtain ⟨c, rfl⟩ := open_u8 Try.underlying5 g0
    exact long36_walk
theorem encapLong_proved : Rows.EncapLongSaid :=
  OpenClaim.holds_of_wide 4 Try.f4 rfl rfl rfl rfl rfl rfl rfl ⟨rfl, rfl, rfl, rfl, rfl⟩ rfl rfl rfl rfl rfl (by kernel_rfl) Try.func4 (by kernel_rfl)
    (of_decide_eq_true (by kernel_rfl)) (by unfold Func.isWrapper; first | (rw [if_pos (by decide +kernel)]; kernel_rfl) | (rw [if_neg (by decide +kernel)]; exact ⟨rfl, rfl⟩))
    (fun os started H enc _ => encapLong_lifted os started H enc)
end Go.Proofs.Ytkkmfcnnnfhmnaa

/-
  'Ip6Long': how long a packet may be: the law.
-/
import Derived.Test.YtmnlcmgbmehggaaIp6x
namespace Go.Proofs.Ytmnlcmgbmehggaa
open Go.ChangeShapes Go.WideShapes Go.ChangeAt Go.RowKit
set_option linter.unusedVariables false
set_option linter.unusedSimpArgs false

theorem z16 : zero16.map byteV = zeroL Try.prog 28 := by kernel_rfl
theorem okA_b16 : OkA (zero16.map byteV) 16 := ⟨rfl, fun v hv => by obtain ⟨b, _, rfl⟩ := List.mem_map.1 hv; rfl⟩
set_option maxRecDepth 100000 in
set_option maxHeartbeats 4000000 in
theorem long6_walk {c : UInt8} {al : Bool} {w : World} : Gives Try.prog 5 #[.int .u8 (c.toNat : Int), .bool al] w (.bool true) := by
  obtain ⟨K, hK, hK1, hK2⟩ : ∃ K : Nat, 1390 + (c.toNat : Int) % 20 = (K : Int) ∧ 1390 ≤ K ∧ K < 1410 := ⟨1390 + c.toNat % 20, by omega, by omega, by omega⟩
  obtain ⟨X, hX⟩ : ∃ X, str (List.replicate K 0) = X := ⟨_, rfl⟩
  have hXn : X.size = K := by rw [← hX]; simp
  have h' : P6.Ok ⟨(0 : Nat), (0 : Nat), (58 : Nat), (0 : Nat), true, zero16, true, zero16, al, X⟩ := ⟨rfl, rfl⟩
  have r' : P6.Rg ⟨(0 : Nat), (0 : Nat), (58 : Nat), (0 : Nat), true, zero16, true, zero16, al, X⟩ := ⟨⟨by simp, by simp⟩, ⟨by simp, by simp⟩, ⟨by simp, by simp⟩, ⟨by simp, by simp⟩, by show X.size ≤ _; omega⟩
  have er := h'.refl r'
  have zr := p6z_ok.refl p6z_rg
  have oA : OkA (zeroL Try.prog 30) 17 := by rw [← zaddr]; exact okA_addr rfl
  have rW : ∀ w, Gives Try.prog 15 #[.agg (P6.L ⟨(0 : Nat), (0 : Nat), (58 : Nat), (0 : Nat), true, zero16, true, zero16, al, X⟩).toArray] w (.string (w6 al 0 0 58 0 zero16 zero16 X)) := fun w => rWrite6_any rfl rfl (by omega) (by omega) (by omega) (by omega) (by omega)
  obtain ⟨k1, k2, k3⟩ := back6g (X := ⟨#[]⟩) (al := al) (c := 0) (f := 0) (nx := 58) (hp := 0) (la := zero16) (lb := zero16) (b := X) (by omega) (by omega) (by omega) (by omega) (by omega) rfl rfl (by omega) (s := w6 al 0 0 58 0 zero16 zero16 X) (ByteArray.append_empty).symm
  have hz : (w6 al 0 0 58 0 zero16 zero16 X).size ≤ 3000 := by rw [k3]; split <;> omega
  have hR := fun w => Read6_any (w := w) (s := w6 al 0 0 58 0 zero16 zero16 X) (by omega)
  have hE : ∀ (n : Nat), (P6.L ⟨(0 : Nat), (0 : Nat), (n : Nat), (0 : Nat), true, zero16, true, zero16, al, X⟩).toArray = (fls [.one (.int .i64 0), .one (.int .i64 0), .one (.int .i64 (n : Int)), .one (.int .i64 0), .one (.bool true), .many (zeroL Try.prog 28) 16, .one (.bool true), .many (zeroL Try.prog 28) 16, .one (.bool al), .one (.string X)]).toArray := fun n => by
    rw [p6_segs]
    simp only [fls, addrL, z16]
    simp
  have oB : OkA (zeroL Try.prog 28) 16 := by rw [← z16]; exact okA_b16
  have tail : ∀ (e1 e2 : Int) (q : P6) (Z : ByteArray), e1 = (if 1400 < K then 2 else 0) → e2 = (if 1400 < K then 6 else 0) → (1400 < K → q = p6z) → (¬ 1400 < K → q = ⟨(0 : Nat), (0 : Nat), (58 : Nat), (0 : Nat), true, zero16, true, zero16, al, X⟩) →
      (∀ w, Gives Try.prog 14 #[.agg (P6.L ⟨(0 : Nat), (0 : Nat), (58 : Nat), (0 : Nat), true, zero16, true, zero16, al, X⟩).toArray] w (.tuple #[.string Z, .int .i64 e1])) →
      (∀ w, Gives Try.prog 11 #[.string (w6 al 0 0 58 0 zero16 zero16 X)] w (.tuple #[.agg q.L.toArray, .int .i64 e2])) →
      Gives Try.prog 5 #[.int .u8 (c.toNat : Int), .bool al] w (.bool true) := by
    intro e1 e2 q Z he1 he2 hq1 hq2 hW hR
    rw [hE] at hW rW er
    rw [p6z_segs] at zr
    have hW : ∀ w, Gives Try.prog 14 #[.agg (fls [.one (.int .i64 0), .one (.int .i64 0), .one (.int .i64 58), .one (.int .i64 0), .one (.bool true), .many (zeroL Try.prog 28) 16, .one (.bool true), .many (zeroL Try.prog 28) 16, .one (.bool al), .one (.string X)]).toArray] w (.tuple #[.string Z, .int .i64 e1]) := hW
    have rW : ∀ w, Gives Try.prog 15 #[.agg (fls [.one (.int .i64 0), .one (.int .i64 0), .one (.int .i64 58), .one (.int .i64 0), .one (.bool true), .many (zeroL Try.prog 28) 16, .one (.bool true), .many (zeroL Try.prog 28) 16, .one (.bool al), .one (.string X)]).toArray] w (.string (w6 al 0 0 58 0 zero16 zero16 X)) := rW
    refine Gives.of ?_
    have hH := Hp.refl w
    by_cases hL : 1400 < K
    · rw [if_pos hL] at he1 he2
      subst he1 he2
      rw [hq1 hL, p6z_segs] at hR
      clear hq1 hq2 hE
      generalize w6 al 0 0 58 0 zero16 zero16 X = Y at *
      go_enter Try.func5, Try.ntmps5
      go_wp2_with (first | (((refine hMk elemU8 (z := .int .u8 0) (n := K) (c := K) (by kernel_rfl) rfl rfl rfl rfl rfl rfl hH (Nat.le_refl _) (by omega) (by omega) ?_); (clear hH; (first | intro W g hH | intro W hH); (try simp only [Act.put, List.setIfInBounds_toArray, List.set_cons_succ, List.set_cons_zero])))) | (((refine hStr 0 (l := List.replicate K 0) Try.underlying36 Try.underlying5 Try.underlying9 rfl rfl rfl hH rfl (by simp [fls, byteV]) rfl (by simp) ?_); rw [hX]; (clear hH; (first | intro W g hH | intro W hH); (try simp only [Act.put, List.setIfInBounds_toArray, List.set_cons_succ, List.set_cons_zero])))) | ((first | (refine gL rfl ?_; first | refine hL1 tab_ok 0 rfl rfl rfl hH rfl rfl rfl rfl ?_ | refine hL1 tab_ok 1 rfl rfl rfl hH rfl rfl rfl rfl ?_ | refine hL1 tab_ok 2 rfl rfl rfl hH rfl rfl rfl rfl ?_ | refine hL1 tab_ok 3 rfl rfl rfl hH rfl rfl rfl rfl ?_ | refine hLR tab_ok 0 rfl rfl rfl hH rfl rfl rfl rfl ?_ | refine hLR tab_ok 1 rfl rfl rfl hH rfl rfl rfl rfl ?_ | refine hLR tab_ok 2 rfl rfl rfl hH rfl rfl rfl rfl ?_ | refine hLR tab_ok 3 rfl rfl rfl hH rfl rfl rfl rfl ?_ | (refine hL1i tab_ok 0 rfl rfl rfl hH rfl rfl rfl rfl ?_; refine ⟨?_, ?_, ?_⟩; rotate_left; (focus assumption)) | (refine hL1i tab_ok 1 rfl rfl rfl hH rfl rfl rfl rfl ?_; refine ⟨?_, ?_, ?_⟩; rotate_left; (focus assumption)) | (refine hL1i tab_ok 2 rfl rfl rfl hH rfl rfl rfl rfl ?_; refine ⟨?_, ?_, ?_⟩; rotate_left; (focus assumption)) | (refine hL1i tab_ok 3 rfl rfl rfl hH rfl rfl rfl rfl ?_; refine ⟨?_, ?_, ?_⟩; rotate_left; (focus assumption))) | (refine gS rfl ?_; first | refine hS1 tab_ok 0 rfl rfl rfl rfl hH rfl rfl rfl rfl rfl ?_ | refine hS1 tab_ok 1 rfl rfl rfl rfl hH rfl rfl rfl rfl rfl ?_ | refine hS1 tab_ok 2 rfl rfl rfl rfl hH rfl rfl rfl rfl rfl ?_ | refine hS1 tab_ok 3 rfl rfl rfl rfl hH rfl rfl rfl rfl rfl ?_ | (refine hSR tab_ok 0 rfl rfl rfl rfl hH rfl rfl rfl rfl rfl ?_ ?_; (focus (repeat (first | exact trivial | assumption | exact OkA.z (by kernel_rfl) (by kernel_rfl) | refine ⟨rfl, ?_⟩ | refine ⟨?_, ?_⟩)))) | (refine hSR tab_ok 1 rfl rfl rfl rfl hH rfl rfl rfl rfl rfl ?_ ?_; (focus (repeat (first | exact trivial | assumption | exact OkA.z (by kernel_rfl) (by kernel_rfl) | refine ⟨rfl, ?_⟩ | refine ⟨?_, ?_⟩)))) | (refine hSR tab_ok 2 rfl rfl rfl rfl hH rfl rfl rfl rfl rfl ?_ ?_; (focus (repeat (first | exact trivial | assumption | exact OkA.z (by kernel_rfl) (by kernel_rfl) | refine ⟨rfl, ?_⟩ | refine ⟨?_, ?_⟩)))) | (refine hSR tab_ok 3 rfl rfl rfl rfl hH rfl rfl rfl rfl rfl ?_ ?_; (focus (repeat (first | exact trivial | assumption | exact OkA.z (by kernel_rfl) (by kernel_rfl) | refine ⟨rfl, ?_⟩ | refine ⟨?_, ?_⟩))))) | refine hAl tab_ok rfl rfl hH rfl ?_ | refine hBx1 rfl rfl rfl hH ?_ | (refine hBx rfl rfl rfl hH ?_ ?_; (focus (repeat (first | exact trivial | assumption | exact OkA.z (by kernel_rfl) (by kernel_rfl) | refine ⟨rfl, ?_⟩ | refine ⟨?_, ?_⟩)))) | (refine hBd tab_ok rfl rfl rfl rfl rfl hH ?_; refine ⟨?_, ?_, ?_⟩; rotate_left; (focus (repeat (first | exact BR.nil | refine BR.one rfl rfl rfl ?_ | (refine BR.row rfl rfl rfl rfl ?_ ?_; (focus (repeat (first | exact trivial | assumption | exact OkA.z (by kernel_rfl) (by kernel_rfl) | refine ⟨rfl, ?_⟩ | refine ⟨?_, ?_⟩)))))))) | ((with_reducible refine callH hH ?_); refine ⟨?_, ?_, ?_⟩; rotate_left; (focus (first | (with_reducible exact hW _) | (with_reducible exact rW _) | (with_reducible exact hR _) | (with_reducible exact lives06_any))))); clear hH; (first | intro W g hH | intro W hH); (try simp only [Act.put, List.setIfInBounds_toArray, List.set_cons_succ, List.set_cons_zero])))
      all_goals first | (exfalso; omega) | (go_ret; exact ⟨rfl, hH.below⟩)
    · rw [if_neg hL] at he1 he2
      subst he1 he2
      rw [hq2 hL, hE] at hR
      have hR : ∀ w, Gives Try.prog 11 #[.string (w6 al 0 0 58 0 zero16 zero16 X)] w (.tuple #[.agg (fls [.one (.int .i64 0), .one (.int .i64 0), .one (.int .i64 58), .one (.int .i64 0), .one (.bool true), .many (zeroL Try.prog 28) 16, .one (.bool true), .many (zeroL Try.prog 28) 16, .one (.bool al), .one (.string X)]).toArray, .int .i64 0]) := hR
      have er : ∀ w, (binOp .eql 32 (.agg (fls [.one (.int .i64 0), .one (.int .i64 0), .one (.int .i64 58), .one (.int .i64 0), .one (.bool true), .many (zeroL Try.prog 28) 16, .one (.bool true), .many (zeroL Try.prog 28) 16, .one (.bool al), .one (.string X)]).toArray) (.agg (fls [.one (.int .i64 0), .one (.int .i64 0), .one (.int .i64 58), .one (.int .i64 0), .one (.bool true), .many (zeroL Try.prog 28) 16, .one (.bool true), .many (zeroL Try.prog 28) 16, .one (.bool al), .one (.string X)]).toArray)).run Try.prog w = .ok (.bool true) w := er
      clear hq1 hq2 hE
      generalize w6 al 0 0 58 0 zero16 zero16 X = Y at *
      go_enter Try.func5, Try.ntmps5
      go_wp2_with (first | (((refine hMk elemU8 (z := .int .u8 0) (n := K) (c := K) (by kernel_rfl) rfl rfl rfl rfl rfl rfl hH (Nat.le_refl _) (by omega) (by omega) ?_); (clear hH; (first | intro W g hH | intro W hH); (try simp only [Act.put, List.setIfInBounds_toArray, List.set_cons_succ, List.set_cons_zero])))) | (((refine hStr 0 (l := List.replicate K 0) Try.underlying36 Try.underlying5 Try.underlying9 rfl rfl rfl hH rfl (by simp [fls, byteV]) rfl (by simp) ?_); rw [hX]; (clear hH; (first | intro W g hH | intro W hH); (try simp only [Act.put, List.setIfInBounds_toArray, List.set_cons_succ, List.set_cons_zero])))) | ((first | (refine gL rfl ?_; first | refine hL1 tab_ok 0 rfl rfl rfl hH rfl rfl rfl rfl ?_ | refine hL1 tab_ok 1 rfl rfl rfl hH rfl rfl rfl rfl ?_ | refine hL1 tab_ok 2 rfl rfl rfl hH rfl rfl rfl rfl ?_ | refine hL1 tab_ok 3 rfl rfl rfl hH rfl rfl rfl rfl ?_ | refine hLR tab_ok 0 rfl rfl rfl hH rfl rfl rfl rfl ?_ | refine hLR tab_ok 1 rfl rfl rfl hH rfl rfl rfl rfl ?_ | refine hLR tab_ok 2 rfl rfl rfl hH rfl rfl rfl rfl ?_ | refine hLR tab_ok 3 rfl rfl rfl hH rfl rfl rfl rfl ?_ | (refine hL1i tab_ok 0 rfl rfl rfl hH rfl rfl rfl rfl ?_; refine ⟨?_, ?_, ?_⟩; rotate_left; (focus assumption)) | (refine hL1i tab_ok 1 rfl rfl rfl hH rfl rfl rfl rfl ?_; refine ⟨?_, ?_, ?_⟩; rotate_left; (focus assumption)) | (refine hL1i tab_ok 2 rfl rfl rfl hH rfl rfl rfl rfl ?_; refine ⟨?_, ?_, ?_⟩; rotate_left; (focus assumption)) | (refine hL1i tab_ok 3 rfl rfl rfl hH rfl rfl rfl rfl ?_; refine ⟨?_, ?_, ?_⟩; rotate_left; (focus assumption))) | (refine gS rfl ?_; first | refine hS1 tab_ok 0 rfl rfl rfl rfl hH rfl rfl rfl rfl rfl ?_ | refine hS1 tab_ok 1 rfl rfl rfl rfl hH rfl rfl rfl rfl rfl ?_ | refine hS1 tab_ok 2 rfl rfl rfl rfl hH rfl rfl rfl rfl rfl ?_ | refine hS1 tab_ok 3 rfl rfl rfl rfl hH rfl rfl rfl rfl rfl ?_ | (refine hSR tab_ok 0 rfl rfl rfl rfl hH rfl rfl rfl rfl rfl ?_ ?_; (focus (repeat (first | exact trivial | assumption | exact OkA.z (by kernel_rfl) (by kernel_rfl) | refine ⟨rfl, ?_⟩ | refine ⟨?_, ?_⟩)))) | (refine hSR tab_ok 1 rfl rfl rfl rfl hH rfl rfl rfl rfl rfl ?_ ?_; (focus (repeat (first | exact trivial | assumption | exact OkA.z (by kernel_rfl) (by kernel_rfl) | refine ⟨rfl, ?_⟩ | refine ⟨?_, ?_⟩)))) | (refine hSR tab_ok 2 rfl rfl rfl rfl hH rfl rfl rfl rfl rfl ?_ ?_; (focus (repeat (first | exact trivial | assumption | exact OkA.z (by kernel_rfl) (by kernel_rfl) | refine ⟨rfl, ?_⟩ | refine ⟨?_, ?_⟩)))) | (refine hSR tab_ok 3 rfl rfl rfl rfl hH rfl rfl rfl rfl rfl ?_ ?_; (focus (repeat (first | exact trivial | assumption | exact OkA.z (by kernel_rfl) (by kernel_rfl) | refine ⟨rfl, ?_⟩ | refine ⟨?_, ?_⟩))))) | refine hAl tab_ok rfl rfl hH rfl ?_ | refine hBx1 rfl rfl rfl hH ?_ | (refine hBx rfl rfl rfl hH ?_ ?_; (focus (repeat (first | exact trivial | assumption | exact OkA.z (by kernel_rfl) (by kernel_rfl) | refine ⟨rfl, ?_⟩ | refine ⟨?_, ?_⟩)))) | (refine hBd tab_ok rfl rfl rfl rfl rfl hH ?_; refine ⟨?_, ?_, ?_⟩; rotate_left; (focus (repeat (first | exact BR.nil | refine BR.one rfl rfl rfl ?_ | (refine BR.row rfl rfl rfl rfl ?_ ?_; (focus (repeat (first | exact trivial | assumption | exact OkA.z (by kernel_rfl) (by kernel_rfl) | refine ⟨rfl, ?_⟩ | refine ⟨?_, ?_⟩)))))))) | ((with_reducible refine callH hH ?_); refine ⟨?_, ?_, ?_⟩; rotate_left; (focus (first | (with_reducible exact hW _) | (with_reducible exact rW _) | (with_reducible exact hR _) | (with_reducible exact lives06_any))))); clear hH; (first | intro W g hH | intro W hH); (try simp only [Act.put, List.setIfInBounds_toArray, List.set_cons_succ, List.set_cons_zero])))
      all_goals first | (exfalso; omega) | (go_ret; exact ⟨rfl, hH.below⟩)
  by_cases hL : 1400 < K
  · have hg : g6 ⟨(0 : Nat), (0 : Nat), (58 : Nat), (0 : Nat), true, zero16, true, zero16, al, X⟩ = false := by
      unfold g6
      rw [decide_eq_false (p := X.size ≤ 1400) (by omega), Bool.and_false]
    rw [hXn, if_pos hL] at k1
    have hp : p6Of (w6 al 0 0 58 0 zero16 zero16 X) = p6z := by unfold p6Of; rw [if_pos (by rw [k1]; decide)]
    rw [k1, hp] at hR
    exact tail 2 6 p6z ⟨#[]⟩ (by rw [if_pos hL]) (by rw [if_pos hL]) (fun _ => rfl) (fun h => absurd hL h) (fun w => Write6_bad h' r' hg) hR
  · rw [hXn, if_neg hL] at k1
    have hp := k2 (by omega)
    rw [k1, hp] at hR
    exact tail 0 0 _ (w6 al 0 0 58 0 zero16 zero16 X) (by rw [if_neg hL]) (by rw [if_neg hL]) (fun h => absurd h hL) (fun _ => rfl) (fun w => Write6_good rfl rfl (by omega) (by omega) (by omega) (by omega) (by omega) (by omega)) hR
set_option maxRecDepth 100000 in
theorem ip6Long_lifted (os : Os) (started : os.Started) (H : Type) (enc : TypeId × Value → H) :
    ReturnsInHanded {} Try.checked os 5 .any (Rows.ip6LongSpec.pre6 enc Try.prog Try.f5 Rows.ip6LongRow.domain false) (Rows.ip6LongSpec.post enc Try.prog Try.f5 false true false false) := by
  refine lifted_of_walk (C := Try.checked) (tb := 4) own started (by kernel_rfl) Try.func5
    (ChangeSpec.witness6 (enc := enc) (C := Try.checked) false ⟨#[], #[.int .u8 0, .bool false], []⟩ 8 (by kernel_rfl) (by kernel_rfl) (by kernel_rfl) (by kernel_rfl))
    (by kernel_rfl) Try.underlying4 (by kernel_rfl) (by kernel_rfl) rfl ?_ ?_
  · intro ds hl
    match ds, hl with
    | [d0, d1], _ => exact ⟨rfl, rfl, rfl⟩
  · intro W base args ds ps hval hA hfz
    have hA' : DataW.TrodAll enc Try.prog W 0 (fun _ => true) true Try.f5.params.toList args.toList ds ps := hA
    rw [Try.params5] at hA'
    obtain ⟨v0, vs0, d0, ds0, p0, q0, hargs0, rfl, rfl, h0, r0⟩ := trodAll_cons hA'
    obtain ⟨v1, vs1, d1, ds1, p1, q1, hargs1, rfl, rfl, h1, r1⟩ := trodAll_cons r0
    obtain ⟨hvs, rfl, rfl⟩ := trodAll_nil r1
    obtain rfl : args = #[v0, v1] := by cases args; simp_all
    have g0 := hval 0 5 v0 rfl rfl
    have g1 := hval 1 4 v1 rfl rfl
    obtain ⟨c, rfl⟩ := open_u8 Try.underlying5 g0
    obtain ⟨al, rfl⟩ := open_boolv Try.underlying4 g1
    exact long6_walk
theorem ip6Long_proved : Rows.Ip6LongSaid :=
  OpenClaim.holds_of_wide 5 Try.f5 rfl rfl rfl rfl rfl rfl rfl ⟨rfl, rfl, rfl, rfl, rfl⟩ rfl rfl rfl rfl rfl (by kernel_rfl) Try.func5 (by kernel_rfl)
    (of_decide_eq_true (by kernel_rfl)) (by unfold Func.isWrapper; first | (rw [if_pos (by decide +kernel)]; kernel_rfl) | (rw [if_neg (by decide +kernel)]; exact ⟨rfl, rfl⟩))
    (fun os started H enc _ => ip6Long_lifted os started H enc)
end Go.Proofs.Ytmnlcmgbmehggaa

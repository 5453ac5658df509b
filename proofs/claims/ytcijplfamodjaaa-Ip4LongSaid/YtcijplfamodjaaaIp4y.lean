/-
  'Ip4Long': how long a packet may be: the law.
-/
import Derived.Test.YtcijplfamodjaaaIp4x
namespace Go.Proofs.Ytcijplfamodjaaa
open Go.ChangeShapes Go.WideShapes Go.ChangeAt Go.RowKit
set_option linter.unusedVariables false
set_option linter.unusedSimpArgs false

theorem zaddr : addrL false zero16 = zeroL Try.prog 25 := by kernel_rfl
set_option maxRecDepth 100000 in
set_option maxHeartbeats 4000000 in
theorem long4_walk {c : UInt8} {al : Bool} {w : World} : Gives Try.prog 5 #[.int .u8 (c.toNat : Int), .bool al] w (.bool true) := by
  obtain ⟨K, hK, hK1, hK2⟩ : ∃ K : Nat, 1390 + (c.toNat : Int) % 20 = (K : Int) ∧ 1390 ≤ K ∧ K < 1410 := ⟨1390 + c.toNat % 20, by omega, by omega, by omega⟩
  obtain ⟨X, hX⟩ : ∃ X, str (List.replicate K 0) = X := ⟨_, rfl⟩
  have hXn : X.size = K := by rw [← hX]; simp
  have h' : P4.Ok ⟨(0 : Nat), (0 : Nat), (1 : Nat), (0 : Nat), false, zero16, false, zero16, al, X⟩ := ⟨rfl, rfl⟩
  have r' : P4.Rg ⟨(0 : Nat), (0 : Nat), (1 : Nat), (0 : Nat), false, zero16, false, zero16, al, X⟩ := ⟨⟨by simp, by simp⟩, ⟨by simp, by simp⟩, ⟨by simp, by simp⟩, ⟨by simp, by simp⟩, by show X.size ≤ _; omega⟩
  have oA : OkA (zeroL Try.prog 25) 17 := by rw [← zaddr]; exact okA_addr rfl
  have er := h'.refl r'
  have zr := p4z_ok.refl p4z_rg
  have rW : ∀ w, Gives Try.prog 14 #[.agg (P4.L ⟨(0 : Nat), (0 : Nat), (1 : Nat), (0 : Nat), false, zero16, false, zero16, al, X⟩).toArray] w (.string (w4 al false false zero16 zero16 0 0 1 0 X)) := fun w => rWrite4_any rfl rfl (by omega) (by omega) (by omega) (by omega) (by omega)
  obtain ⟨k1, k2⟩ := back4g (a0 := 0) (a1 := 0) (a2 := 0) (a3 := 0) (c0 := 0) (c1 := 0) (c2 := 0) (c3 := 0) (tos := 0) (id := 0) (ttl := 1) (proto := 0) (b := X) (X := ⟨#[]⟩) (al := al) (s := w4 al false false zero16 zero16 0 0 1 0 X) (by omega) (by omega) (by omega) (by omega) (by omega) (by show _ = w4 al false false zero16 zero16 0 0 1 0 X ++ ⟨#[]⟩; exact (ByteArray.append_empty).symm)
  obtain ⟨ck, hck, hd, hf⟩ := w4_data (a0 := 0) (a1 := 0) (a2 := 0) (a3 := 0) (c0 := 0) (c1 := 0) (c2 := 0) (c3 := 0) (tos := 0) (id := 0) (ttl := 1) (proto := 0) (b := X) al
  have hz : (w4 al false false zero16 zero16 0 0 1 0 X).size ≤ 3000 := by
    have : (w4 al false false zero16 zero16 0 0 1 0 X).data.toList.length ≤ 3000 := by
      have hd' : (w4 al false false zero16 zero16 0 0 1 0 X).data.toList = _ := hd
      rw [hd']
      cases al <;> simp [hd4L] <;> omega
    rwa [size_toList] at this
  have hR := fun w => Read4_any (w := w) (s := w4 al false false zero16 zero16 0 0 1 0 X) (by omega)
  clear hd hf hck
  have tail : ∀ (e1 e2 : Int) (q : P4) (Z : ByteArray), e1 = (if 1400 < K then 2 else 0) → e2 = (if 1400 < K then 6 else 0) → (1400 < K → q = p4z) → (¬ 1400 < K → q = ⟨(0 : Nat), (0 : Nat), (1 : Nat), (0 : Nat), false, zero16, false, zero16, al, X⟩) → 
      (∀ w, Gives Try.prog 13 #[.agg (P4.L ⟨(0 : Nat), (0 : Nat), (1 : Nat), (0 : Nat), false, zero16, false, zero16, al, X⟩).toArray] w (.tuple #[.string Z, .int .i64 e1])) →
      (∀ w, Gives Try.prog 8 #[.string (w4 al false false zero16 zero16 0 0 1 0 X)] w (.tuple #[.agg q.L.toArray, .int .i64 e2])) →
      Gives Try.prog 5 #[.int .u8 (c.toNat : Int), .bool al] w (.bool true) := by
    intro e1 e2 q Z he1 he2 hq1 hq2 hW hR
    have hW : ∀ w, Gives Try.prog 13 #[.agg (fls [.one (.int .i64 0), .one (.int .i64 0), .one (.int .i64 1), .one (.int .i64 0), .many (addrL false zero16) 17, .many (addrL false zero16) 17, .one (.bool al), .one (.string X)]).toArray] w (.tuple #[.string Z, .int .i64 e1]) := hW
    have rW : ∀ w, Gives Try.prog 14 #[.agg (fls [.one (.int .i64 0), .one (.int .i64 0), .one (.int .i64 1), .one (.int .i64 0), .many (addrL false zero16) 17, .many (addrL false zero16) 17, .one (.bool al), .one (.string X)]).toArray] w (.string (w4 al false false zero16 zero16 0 0 1 0 X)) := rW
    have er : ∀ w, (binOp .eql 27 (.agg (fls [.one (.int .i64 0), .one (.int .i64 0), .one (.int .i64 1), .one (.int .i64 0), .many (addrL false zero16) 17, .many (addrL false zero16) 17, .one (.bool al), .one (.string X)]).toArray) (.agg (fls [.one (.int .i64 0), .one (.int .i64 0), .one (.int .i64 1), .one (.int .i64 0), .many (addrL false zero16) 17, .many (addrL false zero16) 17, .one (.bool al), .one (.string X)]).toArray)).run Try.prog w = .ok (.bool true) w := er
    have zr : ∀ w, (binOp .eql 27 (.agg (fls [.one (.int .i64 0), .one (.int .i64 0), .one (.int .i64 0), .one (.int .i64 0), .many (addrL false zero16) 17, .many (addrL false zero16) 17, .one (.bool false), .one (.string ⟨#[]⟩)]).toArray) (.agg (fls [.one (.int .i64 0), .one (.int .i64 0), .one (.int .i64 0), .one (.int .i64 0), .many (addrL false zero16) 17, .many (addrL false zero16) 17, .one (.bool false), .one (.string ⟨#[]⟩)]).toArray)).run Try.prog w = .ok (.bool true) w := zr
    rw [zaddr] at hW rW er zr
    refine Gives.of ?_
    have hH := Hp.refl w
    by_cases hL : 1400 < K
    · rw [if_pos hL] at he1 he2
      subst he1 he2
      rw [hq1 hL] at hR
      have hR : ∀ w, Gives Try.prog 8 #[.string (w4 al false false zero16 zero16 0 0 1 0 X)] w (.tuple #[.agg (fls [.one (.int .i64 0), .one (.int .i64 0), .one (.int .i64 0), .one (.int .i64 0), .many (addrL false zero16) 17, .many (addrL false zero16) 17, .one (.bool false), .one (.string ⟨#[]⟩)]).toArray, .int .i64 6]) := hR
      rw [zaddr] at hR
      clear hq1 hq2
      generalize w4 al false false zero16 zero16 0 0 1 0 X = Y at *
      go_enter Try.func5, Try.ntmps5
      go_wp2_with (first | (((refine hMk elemU8 (z := .int .u8 0) (n := K) (c := K) (by kernel_rfl) rfl rfl rfl rfl rfl rfl hH (Nat.le_refl _) (by omega) (by omega) ?_); (clear hH; (first | intro W g hH | intro W hH); (try simp only [Act.put, List.setIfInBounds_toArray, List.set_cons_succ, List.set_cons_zero])))) | (((refine hStr 0 (l := List.replicate K 0) Try.underlying36 Try.underlying5 Try.underlying9 rfl rfl rfl hH rfl (by simp [fls, byteV]) rfl (by simp) ?_); rw [hX]; (clear hH; (first | intro W g hH | intro W hH); (try simp only [Act.put, List.setIfInBounds_toArray, List.set_cons_succ, List.set_cons_zero])))) | ((first | (refine gL rfl ?_; first | refine hL1 tab_ok 0 rfl rfl rfl hH rfl rfl rfl rfl ?_ | refine hL1 tab_ok 1 rfl rfl rfl hH rfl rfl rfl rfl ?_ | refine hL1 tab_ok 2 rfl rfl rfl hH rfl rfl rfl rfl ?_ | refine hL1 tab_ok 3 rfl rfl rfl hH rfl rfl rfl rfl ?_ | refine hLR tab_ok 0 rfl rfl rfl hH rfl rfl rfl rfl ?_ | refine hLR tab_ok 1 rfl rfl rfl hH rfl rfl rfl rfl ?_ | refine hLR tab_ok 2 rfl rfl rfl hH rfl rfl rfl rfl ?_ | refine hLR tab_ok 3 rfl rfl rfl hH rfl rfl rfl rfl ?_ | (refine hL1i tab_ok 0 rfl rfl rfl hH rfl rfl rfl rfl ?_; refine ⟨?_, ?_, ?_⟩; rotate_left; (focus assumption)) | (refine hL1i tab_ok 1 rfl rfl rfl hH rfl rfl rfl rfl ?_; refine ⟨?_, ?_, ?_⟩; rotate_left; (focus assumption)) | (refine hL1i tab_ok 2 rfl rfl rfl hH rfl rfl rfl rfl ?_; refine ⟨?_, ?_, ?_⟩; rotate_left; (focus assumption)) | (refine hL1i tab_ok 3 rfl rfl rfl hH rfl rfl rfl rfl ?_; refine ⟨?_, ?_, ?_⟩; rotate_left; (focus assumption))) | (refine gS rfl ?_; first | refine hS1 tab_ok 0 rfl rfl rfl rfl hH rfl rfl rfl rfl rfl ?_ | refine hS1 tab_ok 1 rfl rfl rfl rfl hH rfl rfl rfl rfl rfl ?_ | refine hS1 tab_ok 2 rfl rfl rfl rfl hH rfl rfl rfl rfl rfl ?_ | refine hS1 tab_ok 3 rfl rfl rfl rfl hH rfl rfl rfl rfl rfl ?_ | (refine hSR tab_ok 0 rfl rfl rfl rfl hH rfl rfl rfl rfl rfl ?_ ?_; (focus (repeat (first | exact trivial | assumption | exact OkA.z (by kernel_rfl) (by kernel_rfl) | refine ⟨rfl, ?_⟩ | refine ⟨?_, ?_⟩)))) | (refine hSR tab_ok 1 rfl rfl rfl rfl hH rfl rfl rfl rfl rfl ?_ ?_; (focus (repeat (first | exact trivial | assumption | exact OkA.z (by kernel_rfl) (by kernel_rfl) | refine ⟨rfl, ?_⟩ | refine ⟨?_, ?_⟩)))) | (refine hSR tab_ok 2 rfl rfl rfl rfl hH rfl rfl rfl rfl rfl ?_ ?_; (focus (repeat (first | exact trivial | assumption | exact OkA.z (by kernel_rfl) (by kernel_rfl) | refine ⟨rfl, ?_⟩ | refine ⟨?_, ?_⟩)))) | (refine hSR tab_ok 3 rfl rfl rfl rfl hH rfl rfl rfl rfl rfl ?_ ?_; (focus (repeat (first | exact trivial | assumption | exact OkA.z (by kernel_rfl) (by kernel_rfl) | refine ⟨rfl, ?_⟩ | refine ⟨?_, ?_⟩))))) | refine hAl tab_ok rfl rfl hH rfl ?_ | refine hBx1 rfl rfl rfl hH ?_ | (refine hBx rfl rfl rfl hH ?_ ?_; (focus (repeat (first | exact trivial | assumption | exact OkA.z (by kernel_rfl) (by kernel_rfl) | refine ⟨rfl, ?_⟩ | refine ⟨?_, ?_⟩)))) | (refine hBd tab_ok rfl rfl rfl rfl rfl hH ?_; refine ⟨?_, ?_, ?_⟩; rotate_left; (focus (repeat (first | exact BR.nil | refine BR.one rfl rfl rfl ?_ | (refine BR.row rfl rfl rfl rfl ?_ ?_; (focus (repeat (first | exact trivial | assumption | exact OkA.z (by kernel_rfl) (by kernel_rfl) | refine ⟨rfl, ?_⟩ | refine ⟨?_, ?_⟩)))))))) | ((with_reducible refine callH hH ?_); refine ⟨?_, ?_, ?_⟩; rotate_left; (focus (first | (with_reducible exact hW _) | (with_reducible exact rW _) | (with_reducible exact hR _) | (with_reducible exact lives05_any))))); clear hH; (first | intro W g hH | intro W hH); (try simp only [Act.put, List.setIfInBounds_toArray, List.set_cons_succ, List.set_cons_zero])))
      all_goals first | (exfalso; omega) | (go_ret; exact ⟨rfl, hH.below⟩)
    · rw [if_neg hL] at he1 he2
      subst he1 he2
      rw [hq2 hL] at hR
      have hR : ∀ w, Gives Try.prog 8 #[.string (w4 al false false zero16 zero16 0 0 1 0 X)] w (.tuple #[.agg (fls [.one (.int .i64 0), .one (.int .i64 0), .one (.int .i64 1), .one (.int .i64 0), .many (addrL false zero16) 17, .many (addrL false zero16) 17, .one (.bool al), .one (.string X)]).toArray, .int .i64 0]) := hR
      rw [zaddr] at hR
      clear hq1 hq2
      generalize w4 al false false zero16 zero16 0 0 1 0 X = Y at *
      go_enter Try.func5, Try.ntmps5
      go_wp2_with (first | (((refine hMk elemU8 (z := .int .u8 0) (n := K) (c := K) (by kernel_rfl) rfl rfl rfl rfl rfl rfl hH (Nat.le_refl _) (by omega) (by omega) ?_); (clear hH; (first | intro W g hH | intro W hH); (try simp only [Act.put, List.setIfInBounds_toArray, List.set_cons_succ, List.set_cons_zero])))) | (((refine hStr 0 (l := List.replicate K 0) Try.underlying36 Try.underlying5 Try.underlying9 rfl rfl rfl hH rfl (by simp [fls, byteV]) rfl (by simp) ?_); rw [hX]; (clear hH; (first | intro W g hH | intro W hH); (try simp only [Act.put, List.setIfInBounds_toArray, List.set_cons_succ, List.set_cons_zero])))) | ((first | (refine gL rfl ?_; first | refine hL1 tab_ok 0 rfl rfl rfl hH rfl rfl rfl rfl ?_ | refine hL1 tab_ok 1 rfl rfl rfl hH rfl rfl rfl rfl ?_ | refine hL1 tab_ok 2 rfl rfl rfl hH rfl rfl rfl rfl ?_ | refine hL1 tab_ok 3 rfl rfl rfl hH rfl rfl rfl rfl ?_ | refine hLR tab_ok 0 rfl rfl rfl hH rfl rfl rfl rfl ?_ | refine hLR tab_ok 1 rfl rfl rfl hH rfl rfl rfl rfl ?_ | refine hLR tab_ok 2 rfl rfl rfl hH rfl rfl rfl rfl ?_ | refine hLR tab_ok 3 rfl rfl rfl hH rfl rfl rfl rfl ?_ | (refine hL1i tab_ok 0 rfl rfl rfl hH rfl rfl rfl rfl ?_; refine ⟨?_, ?_, ?_⟩; rotate_left; (focus assumption)) | (refine hL1i tab_ok 1 rfl rfl rfl hH rfl rfl rfl rfl ?_; refine ⟨?_, ?_, ?_⟩; rotate_left; (focus assumption)) | (refine hL1i tab_ok 2 rfl rfl rfl hH rfl rfl rfl rfl ?_; refine ⟨?_, ?_, ?_⟩; rotate_left; (focus assumption)) | (refine hL1i tab_ok 3 rfl rfl rfl hH rfl rfl rfl rfl ?_; refine ⟨?_, ?_, ?_⟩; rotate_left; (focus assumption))) | (refine gS rfl ?_; first | refine hS1 tab_ok 0 rfl rfl rfl rfl hH rfl rfl rfl rfl rfl ?_ | refine hS1 tab_ok 1 rfl rfl rfl rfl hH rfl rfl rfl rfl rfl ?_ | refine hS1 tab_ok 2 rfl rfl rfl rfl hH rfl rfl rfl rfl rfl ?_ | refine hS1 tab_ok 3 rfl rfl rfl rfl hH rfl rfl rfl rfl rfl ?_ | (refine hSR tab_ok 0 rfl rfl rfl rfl hH rfl rfl rfl rfl rfl ?_ ?_; (focus (repeat (first | exact trivial | assumption | exact OkA.z (by kernel_rfl) (by kernel_rfl) | refine ⟨rfl, ?_⟩ | refine ⟨?_, ?_⟩)))) | (refine hSR tab_ok 1 rfl rfl rfl rfl hH rfl rfl rfl rfl rfl ?_ ?_; (focus (repeat (first | exact trivial | assumption | exact OkA.z (by kernel_rfl) (by kernel_rfl) | refine ⟨rfl, ?_⟩ | refine ⟨?_, ?_⟩)))) | (refine hSR tab_ok 2 rfl rfl rfl rfl hH rfl rfl rfl rfl rfl ?_ ?_; (focus (repeat (first | exact trivial | assumption | exact OkA.z (by kernel_rfl) (by kernel_rfl) | refine ⟨rfl, ?_⟩ | refine ⟨?_, ?_⟩)))) | (refine hSR tab_ok 3 rfl rfl rfl rfl hH rfl rfl rfl rfl rfl ?_ ?_; (focus (repeat (first | exact trivial | assumption | exact OkA.z (by kernel_rfl) (by kernel_rfl) | refine ⟨rfl, ?_⟩ | refine ⟨?_, ?_⟩))))) | refine hAl tab_ok rfl rfl hH rfl ?_ | refine hBx1 rfl rfl rfl hH ?_ | (refine hBx rfl rfl rfl hH ?_ ?_; (focus (repeat (first | exact trivial | assumption | exact OkA.z (by kernel_rfl) (by kernel_rfl) | refine ⟨rfl, ?_⟩ | refine ⟨?_, ?_⟩)))) | (refine hBd tab_ok rfl rfl rfl rfl rfl hH ?_; refine ⟨?_, ?_, ?_⟩; rotate_left; (focus (repeat (first | exact BR.nil | refine BR.one rfl rfl rfl ?_ | (refine BR.row rfl rfl rfl rfl ?_ ?_; (focus (repeat (first | exact trivial | assumption | exact OkA.z (by kernel_rfl) (by kernel_rfl) | refine ⟨rfl, ?_⟩ | refine ⟨?_, ?_⟩)))))))) | ((with_reducible refine callH hH ?_); refine ⟨?_, ?_, ?_⟩; rotate_left; (focus (first | (with_reducible exact hW _) | (with_reducible exact rW _) | (with_reducible exact hR _) | (with_reducible exact lives05_any))))); clear hH; (first | intro W g hH | intro W hH); (try simp only [Act.put, List.setIfInBounds_toArray, List.set_cons_succ, List.set_cons_zero])))
      all_goals first | (exfalso; omega) | (go_ret; exact ⟨rfl, hH.below⟩)
  by_cases hL : 1400 < K
  · have hg : g4 ⟨(0 : Nat), (0 : Nat), (1 : Nat), (0 : Nat), false, zero16, false, zero16, al, X⟩ = false := by
      unfold g4
      rw [decide_eq_false (p := X.size ≤ 1400) (by omega), Bool.and_false]
    rw [hXn, if_pos hL] at k1
    have hp : p4Of (w4 al false false zero16 zero16 0 0 1 0 X) = p4z := by unfold p4Of; rw [if_pos (by rw [k1]; decide)]
    rw [k1, hp] at hR
    exact tail 2 6 p4z ⟨#[]⟩ (by rw [if_pos hL]) (by rw [if_pos hL]) (fun _ => rfl) (fun h => absurd hL h) (fun w => Write4_bad h' r' hg) hR
  · have hg : g4 ⟨(0 : Nat), (0 : Nat), (1 : Nat), (0 : Nat), false, zero16, false, zero16, al, X⟩ = true := by
      unfold g4 g4n g4a goodA
      simp only [Bool.and_eq_true, decide_eq_true_eq]
      exact ⟨⟨by simp, by decide⟩, by omega⟩
    rw [hXn, if_neg hL] at k1
    have hp := k2 (by omega)
    have hR' : ∀ w, Gives Try.prog 8 #[.string (w4 al false false zero16 zero16 0 0 1 0 X)] w (.tuple #[.agg (P4.L ⟨(0 : Nat), (0 : Nat), (1 : Nat), (0 : Nat), false, zero16, false, zero16, al, X⟩).toArray, .int .i64 0]) := fun w => by
      have := hR w
      rw [k1, hp] at this
      exact this
    exact tail 0 0 _ (w4 al false false zero16 zero16 0 0 1 0 X) (by rw [if_neg hL]) (by rw [if_neg hL]) (fun h => absurd h hL) (fun _ => rfl) (fun w => Write4_good rfl rfl r' hg (by omega) (by omega) (by omega) (by omega) (by omega)) hR'
set_option maxRecDepth 100000 in
theorem ip4Long_lifted (os : Os) (started : os.Started) (H : Type) (enc : TypeId × Value → H) :
    ReturnsInHanded {} Try.checked os 5 .any (Rows.ip4LongSpec.pre6 enc Try.prog Try.f5 Rows.ip4LongRow.domain false) (Rows.ip4LongSpec.post enc Try.prog Try.f5 false true false false) := by
  refine lifted_of_walk (C := Try.checked) (tb := 4) own started (by kernel_rfl) Try.func5
    (ChangeSpec.witness6 (enc := enc) (C := Try.checked) false ⟨#[], #[.int .u8 0, .bool false], []⟩ 8 (by kernel_rfl) (by kernel_rfl) (by kernel_rfl) (by kernel_rfl))
    (by kernel_rfl) Try.underlying4 (by kernel_rfl) (by kernel_rfl) rfl ?_ ?_
  · intro ds hl
    match ds, hl with
    | [d0, d1], _ => exact ⟨rfl, rfl, rfl⟩
  · intro W base args ds ps hval hA hfz
    have hA' : DataW.TrodAll enc Try.prog W 0 (fun _ => true) true Try.f5.params.toList args.toList ds ps := hA
    rw [Try.params5] at hA'
    obtain ⟨v0, vs0, d0, ds0, p0, q0, hargs0, rfl, rfl, h0, r0⟩ := trodAll_cons hA'
    obtain ⟨v1, vs1, d1, ds1, p1, q1, hargs1, rfl, rfl, h1, r1⟩ := trodAll_cons r0
    obtain ⟨hvs, rfl, rfl⟩ := trodAll_nil r1
    obtain rfl : args = #[v0, v1] := by cases args; simp_all
    have g0 := hval 0 5 v0 rfl rfl
    have g1 := hval 1 4 v1 rfl rfl
    obtain ⟨c, rfl⟩ := open_u8 Try.underlying5 g0
    obtain ⟨al, rfl⟩ := open_boolv Try.underlying4 g1
    exact long4_walk
theorem ip4Long_proved : Rows.Ip4LongSaid :=
  OpenClaim.holds_of_wide 5 Try.f5 rfl rfl rfl rfl rfl rfl rfl ⟨rfl, rfl, rfl, rfl, rfl⟩ rfl rfl rfl rfl rfl (by kernel_rfl) Try.func5 (by kernel_rfl)
    (of_decide_eq_true (by kernel_rfl)) (by unfold Func.isWrapper; first | (rw [if_pos (by decide +kernel)]; kernel_rfl) | (rw [if_neg (by decide +kernel)]; exact ⟨rfl, rfl⟩))
    (fun os started H enc _ => ip4Long_lifted os started H enc)
end Go.Proofs.Ytcijplfamodjaaa

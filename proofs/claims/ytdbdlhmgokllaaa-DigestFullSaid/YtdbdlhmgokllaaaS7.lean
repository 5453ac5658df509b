/-
  DigestFull: how many entries there may be. No condition.
-/
import Derived.Test.YtdbdlhmgokllaaaS6
import Derived.Test.YtdbdlhmgokllaaaRows
import Derived.Test.YtdbdlhmgokllaaaIn
namespace Go.Proofs.Ytdbdlhmgokllaaa
-- %in
open Go.ChangeShapes Go.WideShapes Go.ChangeAt Go.RowKit
set_option linter.unusedVariables false
set_option linter.unusedSimpArgs false
set_option maxRecDepth 20000
attribute [local irreducible] wpList

def z12 : List Value := List.replicate 12 (.int .u8 0)
section
variable {w : World} {n : UInt8}
theorem fourB {b : Int} : Gives Try.prog 18 #[.int .u8 b] w (.agg (fls [.one (.bool false), .one (.int .u8 239), .one (.int .u8 1), .one (.int .u8 1), .one (.int .u8 b), .many z12 12]).toArray) := by
  refine Gives.of ?_
  have hH := Hp.refl w
  have e1 : (fls [.one (.bool false), .one (.int .u8 239), .one (.int .u8 1), .one (.int .u8 1), .one (.int .u8 b), .many z12 12]).toArray = (fls [.one (.bool false), .one (.int .u8 239), .one (.int .u8 1), .one (.int .u8 1), .one (.int .u8 b), (.one (.int .u8 0)), (.one (.int .u8 0)), (.one (.int .u8 0)), (.one (.int .u8 0)), (.one (.int .u8 0)), (.one (.int .u8 0)), (.one (.int .u8 0)), (.one (.int .u8 0)), (.one (.int .u8 0)), (.one (.int .u8 0)), (.one (.int .u8 0)), (.one (.int .u8 0))]).toArray := rfl
  rw [e1]
  go_enter Try.func18, Try.ntmps18
  go_wp2_with (first | ((first | (refine iL tab_ok rfl ?_ rfl hH ?_; (focus (first | exact wN rfl | exact rfl)); refine ⟨_, _, rfl, rfl, ?_⟩) | (refine iLi tab_ok rfl ?_ rfl hH ?_; (focus (first | exact wN rfl | exact rfl)); refine ⟨_, _, _, ?_, rfl, rfl, rfl, ?_, ?_⟩; rotate_left; (focus assumption)) | (refine iS1 tab_ok rfl ?_ rfl hH ?_; (focus (first | exact wN rfl | exact rfl)); refine ⟨_, _, _, _, rfl, rfl, rfl, rfl, rfl, ?_⟩) | (refine iSR tab_ok rfl ?_ rfl hH ?_; (focus (first | exact wN rfl | exact rfl)); refine ⟨_, _, _, _, rfl, rfl, rfl, rfl, rfl, ?_, ?_⟩; (focus (repeat (first | exact trivial | assumption | exact OkA.z (by kernel_rfl) (by kernel_rfl) | refine ⟨rfl, ?_⟩ | refine ⟨?_, ?_⟩)))) | (refine hAl tab_ok rfl ?_ hH rfl ?_; (focus (first | exact wN rfl | exact rfl))) | (refine hBx1 rfl ?_ rfl hH ?_; (focus (first | exact wN rfl | exact rfl))) | (refine hBx rfl ?_ rfl hH ?_ ?_; (focus (first | exact wN rfl | exact rfl)); (focus (repeat (first | exact trivial | assumption | exact OkA.z (by kernel_rfl) (by kernel_rfl) | refine ⟨rfl, ?_⟩ | refine ⟨?_, ?_⟩)))) | (refine hBd tab_ok rfl ?_ rfl rfl rfl hH ?_; (focus (first | exact wN rfl | exact rfl)); refine ⟨?_, ?_, ?_⟩; rotate_left; (focus (repeat (first | exact BR.nil | refine BR.one rfl rfl rfl ?_ | (refine BR.row rfl rfl rfl rfl ?_ ?_; (focus (repeat (first | exact trivial | assumption | exact OkA.z (by kernel_rfl) (by kernel_rfl) | refine ⟨rfl, ?_⟩ | refine ⟨?_, ?_⟩))))))))); clear hH; (first | intro W g hH | intro W hH); ((try simp only [Act.put, pA, pB, pC]))))
  (refine iRet Try.results18 tab_ok rfl rfl hH ?_; refine ⟨_, _, rfl, rfl, rfl, ?_⟩)
  exact ⟨rfl, hH.below⟩
theorem z12_ok : OkA z12 12 := ⟨rfl, by simp [z12]; rfl⟩
theorem evF_cells (j : Nat) : fls (evS (evF j)) = [.int .i64 1, .bool false, .int .u8 239, .int .u8 1, .int .u8 ((UInt8.ofNat (j / 256)).toNat : Int), .int .u8 ((UInt8.ofNat j).toNat : Int)] ++ (z12 ++ [.bool true, .slice none 0 0]) := rfl
theorem evF_cells2 {j : Nat} (hj : j ≤ 519) : fls (evS (evF j)) = [.int .i64 1, .bool false, .int .u8 239, .int .u8 1, .int .u8 ((j : Int) / 256), .int .u8 ((j : Int) % 256)] ++ (z12 ++ [.bool true, .slice none 0 0]) := by
  rw [evF_cells, UInt8.toNat_ofNat', UInt8.toNat_ofNat', show ((j / 256 % 2 ^ 8 : Nat) : Int) = (j : Int) / 256 by omega, show ((j % 2 ^ 8 : Nat) : Int) = (j : Int) % 256 by omega]
theorem hApply {B : Nat} {w0 W : World} {H : HB} {p p' : Option Addr} {c c' : Nat} {L : List En} {C : List Ch} {Q : Ending → World → Prop} (hH : Hp B w0 W H) (h : EnsAt W p L) (h' : ChsAt W p' C) (hL : L.length ≤ 1000) (hC : C.length ≤ 1000) (hs : ∀ e ∈ L, e.src.length ≤ 1000) (hs' : ∀ x ∈ C, x.e.src.length ≤ 1000)
    (hQ : ∀ W' p c D, Hid (∀ B w0 W, Hp B w0 W D → EnsAt W p (applyF L C)) → Hid (∀ r ∈ D, r.2.2.1 = true) → Hp B w0 W' (H ++ D) → Q (.returned (.slice p (applyF L C).length c)) W') : Calls Try.prog 19 #[.slice p L.length c, .slice p' C.length c'] W Q :=
  (dApply_any h h' hL hC hs hs').mono fun _ _ ⟨p, c, D, he, hm, hr⟩ => by subst he; exact hQ _ p c D (Lib.hid hr) (Lib.hid hm.2) (hH.join hm)
set_option maxHeartbeats 8000000 in
theorem digestFull_walk : Gives Try.prog 5 #[.int .u8 (n.toNat : Int)] w (.bool true) := by
  refine Gives.of ?_
  have hH := Hp.refl w
  have f4 : ∀ w b, Gives Try.prog 18 #[.int .u8 b] w (.agg (fls [.one (.bool false), .one (.int .u8 239), .one (.int .u8 1), .one (.int .u8 1), .one (.int .u8 b), .many z12 12]).toArray) := fun w b => fourB
  have oZ := z12_ok
  have HEV := Lib.hid (fun j (hj : j ≤ 519) => evF_cells2 hj)
  generalize z12 = Z at *
  obtain ⟨k, hk, hk1, hk2⟩ : ∃ k : Nat, 505 + (n.toNat : Int) % 15 = (k : Int) ∧ 505 ≤ k ∧ k ≤ 519 := ⟨505 + n.toNat % 15, by omega, by omega, by omega⟩
  go_enter Try.func5, Try.ntmps5
  go_wp2_with (first | ((first | (refine iL tab_ok rfl ?_ rfl hH ?_; (focus (first | exact wN rfl | exact rfl)); refine ⟨_, _, rfl, rfl, ?_⟩) | (refine iLi tab_ok rfl ?_ rfl hH ?_; (focus (first | exact wN rfl | exact rfl)); refine ⟨_, _, _, ?_, rfl, rfl, rfl, ?_, ?_⟩; rotate_left; (focus assumption)) | (refine iS1 tab_ok rfl ?_ rfl hH ?_; (focus (first | exact wN rfl | exact rfl)); refine ⟨_, _, _, _, rfl, rfl, rfl, rfl, rfl, ?_⟩) | (refine iSR tab_ok rfl ?_ rfl hH ?_; (focus (first | exact wN rfl | exact rfl)); refine ⟨_, _, _, _, rfl, rfl, rfl, rfl, rfl, ?_, ?_⟩; (focus (repeat (first | exact trivial | assumption | exact OkA.z (by kernel_rfl) (by kernel_rfl) | refine ⟨rfl, ?_⟩ | refine ⟨?_, ?_⟩)))) | (refine hAl tab_ok rfl ?_ hH rfl ?_; (focus (first | exact wN rfl | exact rfl))) | (refine hBx1 rfl ?_ rfl hH ?_; (focus (first | exact wN rfl | exact rfl))) | (refine hBx rfl ?_ rfl hH ?_ ?_; (focus (first | exact wN rfl | exact rfl)); (focus (repeat (first | exact trivial | assumption | exact OkA.z (by kernel_rfl) (by kernel_rfl) | refine ⟨rfl, ?_⟩ | refine ⟨?_, ?_⟩)))) | (refine hBd tab_ok rfl ?_ rfl rfl rfl hH ?_; (focus (first | exact wN rfl | exact rfl)); refine ⟨?_, ?_, ?_⟩; rotate_left; (focus (repeat (first | exact BR.nil | refine BR.one rfl rfl rfl ?_ | (refine BR.row rfl rfl rfl rfl ?_ ?_; (focus (repeat (first | exact trivial | assumption | exact OkA.z (by kernel_rfl) (by kernel_rfl) | refine ⟨rfl, ?_⟩ | refine ⟨?_, ?_⟩))))))))); clear hH; (first | intro W g hH | intro W hH); ((try simp only [Act.put, pA, pB, pC]))))
  clear hk
  have hH := hH.alloc 30 (S := [.many [] 0, .many [] 0]) ⟨⟨rfl, by simp⟩, ⟨rfl, by simp⟩, trivial⟩
  go_loopw [4, 5] (fun s4 s5 wr => ∃ (j g cc q : Nat) (J : List Value), s5 = .int .i64 (j : Int) ∧ j ≤ k ∧ s4 = .slice (some ⟨g, 0, none⟩) j cc ∧ Grow 20 j cc (j * 20) q ∧ OkA J q ∧ Hp w.heap.size w wr [(g, 30, true, [.many (evsL (evR j)) (j * 20), .many J q])]) (fun _ s5 _ => 1000 - (intOf s5).toNat)
  case atStart => exact ⟨0, _, 0, 0, [], rfl, by omega, rfl, ⟨rfl, rfl, Nat.le_refl _, by simp [maxLen]⟩, ⟨rfl, by simp⟩, hH⟩
  case round =>
    clear hH
    obtain ⟨j, gl, cl, ql, Jl, rfl, hj, rfl, hG, oJ, hH⟩ := hrel
    by_cases hjk : j < k
    · have dj : decide ((j : Int) < (k : Int)) = true := decide_eq_true (by omega)
      go_wp2_with (first | ((refine hSl tab_ok rfl ?_ rfl tabs_ok rfl rfl rfl rfl rfl hH ?_; (focus (first | exact wN rfl | exact rfl)); refine ⟨?_, ?_, ?_⟩; rotate_left; (focus (repeat (first | exact BR.nil | refine BR.one rfl rfl rfl ?_ | (refine BR.row rfl rfl rfl rfl ?_ ?_; (focus (repeat (first | exact trivial | assumption | exact OkA.z (by kernel_rfl) (by kernel_rfl) | refine ⟨rfl, ?_⟩ | refine ⟨?_, ?_⟩))))))); clear hH; intro W g hH; (try simp only [Act.put, pA, pB, pC]))) | (((first | (refine hApp 2 0 tab_ok tabs_ok rfl rfl rfl rfl rfl rfl rfl hH rfl rfl rfl rfl ?_; refine ⟨?_, ?_, ?_⟩; (focus assumption); (focus (first | omega | (simp; omega))))); clear hH; intro W g c p q J hG hL hJ hH; (try simp only [putH, fls, List.append_nil] at hH hL); (try simp only [Act.put, pA, pB, pC]))) | ((first | (refine iL tab_ok rfl ?_ rfl hH ?_; (focus (first | exact wN rfl | exact rfl)); refine ⟨_, _, rfl, rfl, ?_⟩) | (refine iLi tab_ok rfl ?_ rfl hH ?_; (focus (first | exact wN rfl | exact rfl)); refine ⟨_, _, _, ?_, rfl, rfl, rfl, ?_, ?_⟩; rotate_left; (focus assumption)) | (refine iS1 tab_ok rfl ?_ rfl hH ?_; (focus (first | exact wN rfl | exact rfl)); refine ⟨_, _, _, _, rfl, rfl, rfl, rfl, rfl, ?_⟩) | (refine iSR tab_ok rfl ?_ rfl hH ?_; (focus (first | exact wN rfl | exact rfl)); refine ⟨_, _, _, _, rfl, rfl, rfl, rfl, rfl, ?_, ?_⟩; (focus (repeat (first | exact trivial | assumption | exact OkA.z (by kernel_rfl) (by kernel_rfl) | refine ⟨rfl, ?_⟩ | refine ⟨?_, ?_⟩)))) | (refine hAl tab_ok rfl ?_ hH rfl ?_; (focus (first | exact wN rfl | exact rfl))) | (refine hBx1 rfl ?_ rfl hH ?_; (focus (first | exact wN rfl | exact rfl))) | (refine hBx rfl ?_ rfl hH ?_ ?_; (focus (first | exact wN rfl | exact rfl)); (focus (repeat (first | exact trivial | assumption | exact OkA.z (by kernel_rfl) (by kernel_rfl) | refine ⟨rfl, ?_⟩ | refine ⟨?_, ?_⟩)))) | (refine hBd tab_ok rfl ?_ rfl rfl rfl hH ?_; (focus (first | exact wN rfl | exact rfl)); refine ⟨?_, ?_, ?_⟩; rotate_left; (focus (repeat (first | exact BR.nil | refine BR.one rfl rfl rfl ?_ | (refine BR.row rfl rfl rfl rfl ?_ ?_; (focus (repeat (first | exact trivial | assumption | exact OkA.z (by kernel_rfl) (by kernel_rfl) | refine ⟨rfl, ?_⟩ | refine ⟨?_, ?_⟩)))))))) | ((with_reducible refine callH hH ?_); refine ⟨?_, ?_, ?_⟩; rotate_left; (focus (first | (with_reducible exact f4 _ _))))); clear hH; (first | intro W g hH | intro W hH); ((try simp only [Act.put, pA, pB, pC]))))
      have hp := hG.hp
      have hq := hG.hq
      have hle := hG.le
      have hmo := hG.most
      refine ⟨⟨j + 1, g, c, q, J, by simp, by omega, rfl, ⟨rfl, by rw [← hq, hp] <;> rfl, hle, hmo⟩, hJ, ?_⟩, by simp [intOf]; omega⟩
      have e2 : evsL (evR (j + 1)) = evsL (evR j) ++ (.int .i64 1 :: .bool false :: .int .u8 239 :: .int .u8 1 :: .int .u8 ((j : Int) / 256) :: .int .u8 ((j : Int) % 256) :: (Z ++ [.bool true, .slice none 0 0])) := by rw [evR_snoc, evsL_snoc, HEV.out j (by omega)]; rfl
      rw [e2, show (j + 1) * 20 = p by rw [hp] <;> rfl]
      exact hH.sub (SubH.drop (SubH.drop SubH.refl))
    · have dj : decide ((j : Int) < (k : Int)) = false := decide_eq_false (by omega)
      obtain rfl : j = k := by omega
      go_wp2_with (first | ((refine hSl0 tab_ok rfl ?_ tabs_ok rfl rfl rfl hH ?_; (focus (first | exact wN rfl | exact rfl)); clear hH; intro W g hH; (try simp only [Act.put, pA, pB, pC]))) | ((first | (refine iL tab_ok rfl ?_ rfl hH ?_; (focus (first | exact wN rfl | exact rfl)); refine ⟨_, _, rfl, rfl, ?_⟩) | (refine iLi tab_ok rfl ?_ rfl hH ?_; (focus (first | exact wN rfl | exact rfl)); refine ⟨_, _, _, ?_, rfl, rfl, rfl, ?_, ?_⟩; rotate_left; (focus assumption)) | (refine iS1 tab_ok rfl ?_ rfl hH ?_; (focus (first | exact wN rfl | exact rfl)); refine ⟨_, _, _, _, rfl, rfl, rfl, rfl, rfl, ?_⟩) | (refine iSR tab_ok rfl ?_ rfl hH ?_; (focus (first | exact wN rfl | exact rfl)); refine ⟨_, _, _, _, rfl, rfl, rfl, rfl, rfl, ?_, ?_⟩; (focus (repeat (first | exact trivial | assumption | exact OkA.z (by kernel_rfl) (by kernel_rfl) | refine ⟨rfl, ?_⟩ | refine ⟨?_, ?_⟩)))) | (refine hAl tab_ok rfl ?_ hH rfl ?_; (focus (first | exact wN rfl | exact rfl))) | (refine hBx1 rfl ?_ rfl hH ?_; (focus (first | exact wN rfl | exact rfl))) | (refine hBx rfl ?_ rfl hH ?_ ?_; (focus (first | exact wN rfl | exact rfl)); (focus (repeat (first | exact trivial | assumption | exact OkA.z (by kernel_rfl) (by kernel_rfl) | refine ⟨rfl, ?_⟩ | refine ⟨?_, ?_⟩)))) | (refine hBd tab_ok rfl ?_ rfl rfl rfl hH ?_; (focus (first | exact wN rfl | exact rfl)); refine ⟨?_, ?_, ?_⟩; rotate_left; (focus (repeat (first | exact BR.nil | refine BR.one rfl rfl rfl ?_ | (refine BR.row rfl rfl rfl rfl ?_ ?_; (focus (repeat (first | exact trivial | assumption | exact OkA.z (by kernel_rfl) (by kernel_rfl) | refine ⟨rfl, ?_⟩ | refine ⟨?_, ?_⟩))))))))); clear hH; (first | intro W g hH | intro W hH); ((try simp only [Act.put, pA, pB, pC]))))
      have HGE := Lib.hid hG
      clear hG
      go_loopw [7, 8] (fun s7 s8 wr => ∃ (i gc cc q' : Nat) (J' : List Value), s8 = .int .i64 (i : Int) ∧ i ≤ j ∧ s7 = .slice (some ⟨gc, 0, none⟩) i cc ∧ Grow 21 i cc (i * 21) q' ∧ OkA J' q' ∧ Hp w.heap.size w wr [(gc, 37, true, [.many (cvsL (cvR i)) (i * 21), .many J' q']), (gl, 30, true, [.many (evsL (evR j)) (j * 20), .many Jl ql])]) (fun _ s8 _ => 1000 - (intOf s8).toNat)
      case atStart => exact ⟨0, _, 0, 0, [], rfl, by omega, rfl, ⟨rfl, rfl, Nat.le_refl _, by simp [maxLen]⟩, ⟨rfl, by simp⟩, hH⟩
      case round =>
        clear hH dj hjk
        obtain ⟨i, gc, cc, q, J, rfl, hi, rfl, hG, oJ2, hH⟩ := hrel
        by_cases hij : i < j
        · have dj : decide ((i : Int) < (j : Int)) = true := decide_eq_true (by omega)
          have aE : AtL (evsL (evR j)) (i * 20) (fls [.one (.int .i64 1), .one (.bool false), .one (.int .u8 239), .one (.int .u8 1), .one (.int .u8 ((i : Int) / 256)), .one (.int .u8 ((i : Int) % 256)), .many Z 12, .one (.bool true), .one (.slice none 0 0)]) := by
            have h := evsL_at (R := evR j) (k := i) (by rw [evR_len]; exact hij)
            have e : (evR j)[i]'(by rw [evR_len]; exact hij) = evF i := by simp [evR]
            rw [e, HEV.out i (by omega)] at h
            exact h
          obtain ⟨LE, hLE⟩ : ∃ T, T = evsL (evR j) := ⟨_, rfl⟩
          obtain ⟨LC, hLC⟩ : ∃ T, T = cvsL (cvR i) := ⟨_, rfl⟩
          rw [← hLE, ← hLC] at hH
          rw [← hLE] at aE
          have HLE := Lib.hid hLE
          have HLC := Lib.hid hLC
          clear hLE hLC
          go_wp2_with (first | (((first | (refine iLx tab_ok rfl ?_ rfl hH ?_; (focus (first | exact wN rfl | exact rfl)); refine ⟨_, rfl, rfl, ?_, ?_, ?_, ?_, ?_, ?_, ?_⟩; rotate_left 2; (focus assumption); (focus (first | rfl | (push_cast; omega) | omega | (simp; omega))); (focus (first | rfl | assumption)); (focus (repeat (first | exact trivial | assumption | exact OkA.z (by kernel_rfl) (by kernel_rfl) | refine ⟨rfl, ?_⟩ | refine ⟨?_, ?_⟩)))) | (refine iLx1 tab_ok rfl ?_ rfl hH ?_; (focus (first | exact wN rfl | exact rfl)); refine ⟨_, rfl, rfl, ?_, ?_, ?_, ?_, ?_⟩; rotate_left 2; (focus assumption); (focus (first | rfl | omega | (simp; omega))))); (clear hH; intro W hH); (try simp only [Act.put, pA, pB, pC]))) | ((refine hSl tab_ok rfl ?_ rfl tabs_ok rfl rfl rfl rfl rfl hH ?_; (focus (first | exact wN rfl | exact rfl)); refine ⟨?_, ?_, ?_⟩; rotate_left; (focus (repeat (first | exact BR.nil | refine BR.one rfl rfl rfl ?_ | (refine BR.row rfl rfl rfl rfl ?_ ?_; (focus (repeat (first | exact trivial | assumption | exact OkA.z (by kernel_rfl) (by kernel_rfl) | refine ⟨rfl, ?_⟩ | refine ⟨?_, ?_⟩))))))); clear hH; intro W g hH; (try simp only [Act.put, pA, pB, pC]))) | ((refine hApp 1 0 tab_ok tabs_ok rfl rfl rfl rfl rfl rfl rfl hH rfl rfl ?_ rfl ?_; (focus (simp [lenS]; done)); refine ⟨?_, ?_, ?_⟩; (focus assumption); (focus (first | omega | (simp; omega))); clear hH; intro W g c p q J hG hL hJ hH; (try simp only [putH, fls, List.append_nil] at hH hL); ((try simp only [Act.put, pA, pB, pC])))) | ((first | (refine iL tab_ok rfl ?_ rfl hH ?_; (focus (first | exact wN rfl | exact rfl)); refine ⟨_, _, rfl, rfl, ?_⟩) | (refine iLi tab_ok rfl ?_ rfl hH ?_; (focus (first | exact wN rfl | exact rfl)); refine ⟨_, _, _, ?_, rfl, rfl, rfl, ?_, ?_⟩; rotate_left; (focus assumption)) | (refine iS1 tab_ok rfl ?_ rfl hH ?_; (focus (first | exact wN rfl | exact rfl)); refine ⟨_, _, _, _, rfl, rfl, rfl, rfl, rfl, ?_⟩) | (refine iSR tab_ok rfl ?_ rfl hH ?_; (focus (first | exact wN rfl | exact rfl)); refine ⟨_, _, _, _, rfl, rfl, rfl, rfl, rfl, ?_, ?_⟩; (focus (repeat (first | exact trivial | assumption | exact OkA.z (by kernel_rfl) (by kernel_rfl) | refine ⟨rfl, ?_⟩ | refine ⟨?_, ?_⟩)))) | (refine hAl tab_ok rfl ?_ hH rfl ?_; (focus (first | exact wN rfl | exact rfl))) | (refine hBx1 rfl ?_ rfl hH ?_; (focus (first | exact wN rfl | exact rfl))) | (refine hBx rfl ?_ rfl hH ?_ ?_; (focus (first | exact wN rfl | exact rfl)); (focus (repeat (first | exact trivial | assumption | exact OkA.z (by kernel_rfl) (by kernel_rfl) | refine ⟨rfl, ?_⟩ | refine ⟨?_, ?_⟩)))) | (refine hBd tab_ok rfl ?_ rfl rfl rfl hH ?_; (focus (first | exact wN rfl | exact rfl)); refine ⟨?_, ?_, ?_⟩; rotate_left; (focus (repeat (first | exact BR.nil | refine BR.one rfl rfl rfl ?_ | (refine BR.row rfl rfl rfl rfl ?_ ?_; (focus (repeat (first | exact trivial | assumption | exact OkA.z (by kernel_rfl) (by kernel_rfl) | refine ⟨rfl, ?_⟩ | refine ⟨?_, ?_⟩))))))))); clear hH; (first | intro W g hH | intro W hH); ((try simp only [Act.put, pA, pB, pC]))))
          have hp := hG.hp
          have hq := hG.hq
          have hle := hG.le
          have hmo := hG.most
          refine ⟨⟨i + 1, g, c, q, J, by simp, by omega, rfl, ⟨rfl, by rw [← hq, hp] <;> rfl, hle, hmo⟩, hJ, ?_⟩, by simp [intOf]; omega⟩
          have e2 : cvsL (cvR (i + 1)) = cvsL (cvR i) ++ (.int .i64 1 :: .bool false :: .int .u8 239 :: .int .u8 1 :: .int .u8 ((i : Int) / 256) :: .int .u8 ((i : Int) % 256) :: (Z ++ [.bool true, .slice none 0 0, .bool false])) := by
            have e3 : fls (cvS (cvF i)) = fls (evS (evF i)) ++ [.bool false] := by simp [cvS, chS, evS, enS, fls, cvF, chF, evF]
            rw [cvR_snoc, cvsL_snoc, e3, HEV.out i (by omega)]
            simp
          rw [HLC.out] at hH
          rw [HLE.out] at hH
          rw [e2, show (i + 1) * 21 = p by rw [hp] <;> rfl]
          exact hH.sub (SubH.drop SubH.refl)
        · have dj : decide ((i : Int) < (j : Int)) = false := decide_eq_false (by omega)
          obtain rfl : i = j := by omega
          have HGC := Lib.hid hG
          clear hG
          have FA := Lib.hid (show ∀ (W : World) (H : HB) (Q : Ending → World → Prop), Hp w.heap.size w W ((gc, 37, true, [.many (cvsL (cvR i)) (i * 21), .many J q]) :: H) → (∀ (W' : World) (p : Option Addr) (c : Nat) (D : HB), Hid (∀ B w0 W, Hp B w0 W D → EnsAt W p ((List.range (min i 512)).map enF)) → Hid (∀ r ∈ D, r.2.2.1 = true) → Hp w.heap.size w W' (((gc, 37, true, [.many (cvsL (cvR i)) (i * 21), .many J q]) :: H) ++ D) → Q (.returned (.slice p (min i 512) c)) W') → Calls Try.prog 19 #[.slice none 0 0, .slice (some ⟨gc, 0, none⟩) i cc] W Q from fun W H Q hH hQ => by
            have hc : ChsAt W (some ⟨gc, 0, none⟩) ((cvR i).map Cv.x) := chsAt_row (by rw [cvR_len]; omega) (by have := (hH.rows.mem (i := 0) rfl).1; rwa [fls_two] at this) (fun x hx => by obtain ⟨a, _, rfl⟩ := List.mem_map.1 hx; exact AdsAt.nil)
            rw [cvR_ch] at hc
            have := hApply (L := []) (p := none) (c := 0) (c' := cc) (Q := Q) hH EnsAt.nil hc (by simp) (by simp; omega) (by simp) (fun x hx => by obtain ⟨a, _, rfl⟩ := List.mem_map.1 hx; simp [chF, enF])
            rw [applyF_full i (by omega)] at this
            simp only [List.length_map, List.length_range] at this
            exact this hQ)
          have FG := Lib.hid (show ∀ W, Hp w.heap.size w W [(gl, 30, true, [.many (evsL (evR i)) (i * 20), .many Jl ql])] → Gives Try.prog 9 #[.slice (some ⟨gl, 0, none⟩) i cl] W (.bool (decide (i ≤ 512))) from fun W hH => by
            have he : EnsAt W (some ⟨gl, 0, none⟩) ((evR i).map Ev.e) := ensAt_row (by rw [evR_len]; omega) (by have := (hH.rows.mem (i := 0) rfl).1; rwa [fls_two] at this) (fun x hx => by obtain ⟨a, _, rfl⟩ := List.mem_map.1 hx; exact AdsAt.nil)
            have h := dGood_any (c := cl) he
            rw [evR_en, goodD_full (by omega), List.length_map, List.length_range] at h
            exact h)
          have FG2 := Lib.hid (show ∀ (W : World) (p : Option Addr) (c : Nat), EnsAt W p ((List.range (min i 512)).map enF) → Gives Try.prog 9 #[.slice p (min i 512) c] W (.bool true) from fun W p c he => by
            have h := dGood_any (c := c) he
            rw [goodD_full (by omega), List.length_map, List.length_range, decide_eq_true (by omega)] at h
            exact h)
          generalize evsL (evR i) = LE at *
          generalize cvsL (cvR i) = LC at *
          by_cases h5 : i ≤ 512
          · have em : min i 512 = i := by omega
            rw [em] at FA FG2
            rw [decide_eq_true h5] at FG
            have d1 : decide ((i : Int) > 512) = false := decide_eq_false (by omega)
            have d2 : decide ((512 : Int) < (i : Int)) = false := decide_eq_false (by omega)
            have d3 : decide ((i : Int) < 513) = true := decide_eq_true (by omega)
            clear em
            go_wp2_with (first | ((go_at_call 19; refine FA.out _ _ _ hH ?_; (clear hH; intro W px cx Dx hx hDx hH); (try simp only [List.cons_append, List.nil_append] at hH); ((try simp only [Act.put, pA, pB, pC])))) | ((first | (refine iL tab_ok rfl ?_ rfl hH ?_; (focus (first | exact wN rfl | exact rfl)); refine ⟨_, _, rfl, rfl, ?_⟩) | (refine iLi tab_ok rfl ?_ rfl hH ?_; (focus (first | exact wN rfl | exact rfl)); refine ⟨_, _, _, ?_, rfl, rfl, rfl, ?_, ?_⟩; rotate_left; (focus assumption)) | (refine iS1 tab_ok rfl ?_ rfl hH ?_; (focus (first | exact wN rfl | exact rfl)); refine ⟨_, _, _, _, rfl, rfl, rfl, rfl, rfl, ?_⟩) | (refine iSR tab_ok rfl ?_ rfl hH ?_; (focus (first | exact wN rfl | exact rfl)); refine ⟨_, _, _, _, rfl, rfl, rfl, rfl, rfl, ?_, ?_⟩; (focus (repeat (first | exact trivial | assumption | exact OkA.z (by kernel_rfl) (by kernel_rfl) | refine ⟨rfl, ?_⟩ | refine ⟨?_, ?_⟩)))) | (refine hAl tab_ok rfl ?_ hH rfl ?_; (focus (first | exact wN rfl | exact rfl))) | (refine hBx1 rfl ?_ rfl hH ?_; (focus (first | exact wN rfl | exact rfl))) | (refine hBx rfl ?_ rfl hH ?_ ?_; (focus (first | exact wN rfl | exact rfl)); (focus (repeat (first | exact trivial | assumption | exact OkA.z (by kernel_rfl) (by kernel_rfl) | refine ⟨rfl, ?_⟩ | refine ⟨?_, ?_⟩)))) | (refine hBd tab_ok rfl ?_ rfl rfl rfl hH ?_; (focus (first | exact wN rfl | exact rfl)); refine ⟨?_, ?_, ?_⟩; rotate_left; (focus (repeat (first | exact BR.nil | refine BR.one rfl rfl rfl ?_ | (refine BR.row rfl rfl rfl rfl ?_ ?_; (focus (repeat (first | exact trivial | assumption | exact OkA.z (by kernel_rfl) (by kernel_rfl) | refine ⟨rfl, ?_⟩ | refine ⟨?_, ?_⟩)))))))) | ((with_reducible refine callH hH ?_); refine ⟨?_, ?_, ?_⟩; rotate_left; (focus (first | (with_reducible exact lives27) | (exact FG.out _ (hH.sub (SubH.drop (SubH.keep SubH.nil)))) | (exact FG2.out _ _ _ (hx.out _ _ _ (hH.sub (SubH.drop (SubH.drop SubH.refl))))))))); clear hH; (first | intro W g hH | intro W hH); ((try simp only [Act.put, pA, pB, pC]))))
            go_ret
            exact ⟨rfl, hH.below⟩
          · have em : min i 512 = 512 := by omega
            rw [em] at FA FG2
            rw [decide_eq_false h5] at FG
            have d1 : decide ((i : Int) > 512) = true := decide_eq_true (by omega)
            have d2 : decide ((512 : Int) < (i : Int)) = true := decide_eq_true (by omega)
            have d3 : decide ((i : Int) < 513) = false := decide_eq_false (by omega)
            clear em
            go_wp2_with (first | ((go_at_call 19; refine FA.out _ _ _ hH ?_; (clear hH; intro W px cx Dx hx hDx hH); (try simp only [List.cons_append, List.nil_append] at hH); ((try simp only [Act.put, pA, pB, pC])))) | ((first | (refine iL tab_ok rfl ?_ rfl hH ?_; (focus (first | exact wN rfl | exact rfl)); refine ⟨_, _, rfl, rfl, ?_⟩) | (refine iLi tab_ok rfl ?_ rfl hH ?_; (focus (first | exact wN rfl | exact rfl)); refine ⟨_, _, _, ?_, rfl, rfl, rfl, ?_, ?_⟩; rotate_left; (focus assumption)) | (refine iS1 tab_ok rfl ?_ rfl hH ?_; (focus (first | exact wN rfl | exact rfl)); refine ⟨_, _, _, _, rfl, rfl, rfl, rfl, rfl, ?_⟩) | (refine iSR tab_ok rfl ?_ rfl hH ?_; (focus (first | exact wN rfl | exact rfl)); refine ⟨_, _, _, _, rfl, rfl, rfl, rfl, rfl, ?_, ?_⟩; (focus (repeat (first | exact trivial | assumption | exact OkA.z (by kernel_rfl) (by kernel_rfl) | refine ⟨rfl, ?_⟩ | refine ⟨?_, ?_⟩)))) | (refine hAl tab_ok rfl ?_ hH rfl ?_; (focus (first | exact wN rfl | exact rfl))) | (refine hBx1 rfl ?_ rfl hH ?_; (focus (first | exact wN rfl | exact rfl))) | (refine hBx rfl ?_ rfl hH ?_ ?_; (focus (first | exact wN rfl | exact rfl)); (focus (repeat (first | exact trivial | assumption | exact OkA.z (by kernel_rfl) (by kernel_rfl) | refine ⟨rfl, ?_⟩ | refine ⟨?_, ?_⟩)))) | (refine hBd tab_ok rfl ?_ rfl rfl rfl hH ?_; (focus (first | exact wN rfl | exact rfl)); refine ⟨?_, ?_, ?_⟩; rotate_left; (focus (repeat (first | exact BR.nil | refine BR.one rfl rfl rfl ?_ | (refine BR.row rfl rfl rfl rfl ?_ ?_; (focus (repeat (first | exact trivial | assumption | exact OkA.z (by kernel_rfl) (by kernel_rfl) | refine ⟨rfl, ?_⟩ | refine ⟨?_, ?_⟩)))))))) | ((with_reducible refine callH hH ?_); refine ⟨?_, ?_, ?_⟩; rotate_left; (focus (first | (with_reducible exact lives27) | (exact FG.out _ (hH.sub (SubH.drop (SubH.keep SubH.nil)))) | (exact FG2.out _ _ _ (hx.out _ _ _ (hH.sub (SubH.drop (SubH.drop SubH.refl))))))))); clear hH; (first | intro W g hH | intro W hH); ((try simp only [Act.put, pA, pB, pC]))))
            go_ret
            exact ⟨rfl, hH.below⟩
end
set_option maxRecDepth 100000 in
theorem digestFull_lifted (os : Os) (started : os.Started) (H : Type) (enc : TypeId × Value → H) :
    ReturnsInHanded {} Try.checked os 5 .any (Rows.digestFullSpec.pre6 enc Try.prog Try.f5 Rows.digestFullRow.domain false) (Rows.digestFullSpec.post enc Try.prog Try.f5 false true false false) := by
  refine lifted_of_walk (C := Try.checked) (tb := 4) own started (by kernel_rfl) Try.func5
    (ChangeSpec.witness6 (enc := enc) (C := Try.checked) false ⟨#[], #[.int .u8 0], []⟩ 8 (by kernel_rfl) (by kernel_rfl) (by kernel_rfl) (by kernel_rfl))
    (by kernel_rfl) Try.underlying4 (by kernel_rfl) (by kernel_rfl) rfl ?_ ?_
  · intro ds hl
    match ds, hl with
    | [d0], _ => exact ⟨rfl, rfl, rfl⟩
  · intro W base args ds ps hval hA hfz
    have hA' : DataW.TrodAll enc Try.prog W 0 (fun _ => true) true Try.f5.params.toList args.toList ds ps := hA
    rw [Try.params5] at hA'
    obtain ⟨v0, vs0, d0, ds0, p0, q0, hargs0, rfl, rfl, h0, r0⟩ := trodAll_cons hA'
    obtain ⟨hvs, rfl, rfl⟩ := trodAll_nil r0
    obtain rfl : args = #[v0] := by cases args; simp_all
    have g0 := hval 0 5 v0 rfl rfl
    obtain ⟨n, rfl⟩ := open_u8 Try.underlying5 g0
    exact digestFull_walk
theorem digestFull_proved : Rows.DigestFullSaid :=
  OpenClaim.holds_of_wide 5 Try.f5 rfl rfl rfl rfl rfl rfl rfl ⟨rfl, rfl, rfl, rfl, rfl⟩ rfl rfl rfl rfl rfl (by kernel_rfl) Try.func5 (by kernel_rfl)
    (of_decide_eq_true (by kernel_rfl)) (by unfold Func.isWrapper; first | (rw [if_pos (by decide +kernel)]; kernel_rfl) | (rw [if_neg (by decide +kernel)]; exact ⟨rfl, rfl⟩))
    (fun os started H enc _ => digestFull_lifted os started H enc)
end Go.Proofs.Ytdbdlhmgokllaaa

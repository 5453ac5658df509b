/-
  Contracts of package ip6: a packet is read: cut off.
-/
import Derived.Test.YtmnlcmgbmehggaaIp6r
namespace Go.Proofs.Ytmnlcmgbmehggaa
open Go.ChangeShapes Go.WideShapes Go.ChangeAt Go.RowKit
set_option linter.unusedVariables false
set_option linter.unusedSimpArgs false

set_option maxRecDepth 20000 in
set_option maxHeartbeats 4000000 in
theorem Read6_cut {s : ByteArray} {w : World} (h : 40 ≤ s.size) (hs : s.size ≤ 100000) (hk : wd6 s / 268435456 = 6) (hl : s.size < 40 + numAt s 4 2) : Gives Try.prog 11 #[.string s] w (.tuple #[.agg (p6Of s).L.toArray, .int .i64 (err6 s)]) := by
  have q1 : numAt s 0 4 < 4294967296 := numAt_lt s 0 4
  have q2 : numAt s 4 2 < 65536 := numAt_lt s 4 2
  have q3 : numAt s 6 1 = by6 s 6 := numAt_one (by omega)
  have q4 : numAt s 7 1 = by6 s 7 := numAt_one (by omega)
  have b6 := by6_lt s 6
  have b7 := by6_lt s 7
  have x1 : lowN (numAt s 0 4) 20 8 = wd6 s / 1048576 % 256 := rfl
  have x2 : lowN (numAt s 0 4) 0 20 = wd6 s % 1048576 := by show wd6 s / 1 % 1048576 = _; rw [Nat.div_one]
  have x3 : lowN (numAt s 0 4) 28 4 = wd6 s / 268435456 := by show numAt s 0 4 / 268435456 % 16 = numAt s 0 4 / 268435456; omega
  have bn1 : ∀ w, Gives Try.prog 21 #[.int .u64 (numAt s 0 4 : Int), .int .i64 20, .int .i64 8] w (.int .u64 ((wd6 s / 1048576 % 256 : Nat) : Int)) := fun w => x1 ▸ bits6 (numAt s 0 4) 20 8 (by omega) (by omega) (by omega) w
  have bn2 : ∀ w, Gives Try.prog 21 #[.int .u64 (numAt s 0 4 : Int), .int .i64 0, .int .i64 20] w (.int .u64 ((wd6 s % 1048576 : Nat) : Int)) := fun w => x2 ▸ bits6 (numAt s 0 4) 0 20 (by omega) (by omega) (by omega) w
  have bn3 : ∀ w, Gives Try.prog 21 #[.int .u64 (numAt s 0 4 : Int), .int .i64 28, .int .i64 4] w (.int .u64 ((wd6 s / 268435456 : Nat) : Int)) := fun w => x3 ▸ bits6 (numAt s 0 4) 28 4 (by omega) (by omega) (by omega) w
  have c1 : wd6 s / 1048576 % 256 < 256 := Nat.mod_lt _ (by decide)
  have c2 : wd6 s % 1048576 < 1048576 := Nat.mod_lt _ (by decide)
  have c3 : wd6 s / 268435456 < 16 := by show numAt s 0 4 / 268435456 < 16; omega
  have rA : ∀ w, Gives Try.prog 24 #[.string (s.extract 8 24)] w (.tuple #[.agg (fls [.many (addrL true (adOf (s.extract 8 24))) 17]).toArray, .int .i64 0]) := fun w => by rw [fls1]; exact aRead_one (b := true) (by rw [extract_size (by omega) (by omega)]; rfl)
  have rB : ∀ w, Gives Try.prog 24 #[.string (s.extract 24 40)] w (.tuple #[.agg (fls [.many (addrL true (adOf (s.extract 24 40))) 17]).toArray, .int .i64 0]) := fun w => by rw [fls1]; exact aRead_one (b := true) (by rw [extract_size (by omega) (by omega)]; rfl)
  have oA : OkA (addrL true (adOf (s.extract 8 24))) 17 := okA_addr (adOf_length (by rw [extract_size (by omega) (by omega)]; omega))
  have oB : OkA (addrL true (adOf (s.extract 24 40))) 17 := okA_addr (adOf_length (by rw [extract_size (by omega) (by omega)]; omega))
  have zb : 40 + numAt s 4 2 ≤ s.size → (s.extract 40 (40 + numAt s 4 2)).size = numAt s 4 2 := fun h => by rw [extract_size h (by omega)]; omega
  have zle : (s.extract 40 (40 + numAt s 4 2)).size ≤ 65536 := Nat.le_trans (cut_size2 s 40 _) (by omega)
  have ee : err6 s = 3 := by
    have : pre6 s = 3 := by unfold pre6; rw [if_neg (by omega), if_neg (by simpa using hk), if_pos (by exact hl)]
    unfold err6; rw [if_pos (by rw [this]; decide), this]
  have ep : p6Of s = p6z := by unfold p6Of; rw [if_pos (by rw [ee]; decide)]
  rw [ee, ep, p6z_segs]
  have d3 : (((wd6 s / 268435456 : Nat) : Int) != 6) = false := by rw [hk]; rfl
  generalize wd6 s / 1048576 % 256 = l1 at *
  generalize wd6 s % 1048576 = l2 at *
  generalize wd6 s / 268435456 = l3 at *
  generalize addrL true (adOf (s.extract 8 24)) = A at *
  generalize addrL true (adOf (s.extract 24 40)) = C at *
  clear x1 x2 x3 ee ep
  refine Gives.of ?_
  have hH := Hp.refl w
  go_enter Try.func11, Try.ntmps11
  go_wp2_with (first | ((go_at_call 19; refine hNew hH ?_; clear hH; intro W g hH)) | ((go_at_call 20; (first | (refine hNum 0 hH rfl rfl ?_ ?_ ?_ ?_ ?_; (focus (first | omega | (simp; omega))); (focus (first | omega | (simp; omega))); (focus (first | omega | (simp; omega))); (focus (first | omega | (simp; omega)))) | (refine hNumNo 0 hH rfl rfl ?_ ?_ ?_ ?_ ?_ ?_; (focus (first | omega | (simp; omega))); (focus (first | omega | (simp; omega))); (focus (first | omega | (simp; omega))); (focus (first | omega | (simp; omega))); (focus (first | omega | (simp; omega)))) | (refine hNumBad 0 hH rfl rfl ?_ ?_ ?_; (focus (first | omega | (simp; omega))); (focus (first | omega | (simp; omega)))) | (refine hNum 1 hH rfl rfl ?_ ?_ ?_ ?_ ?_; (focus (first | omega | (simp; omega))); (focus (first | omega | (simp; omega))); (focus (first | omega | (simp; omega))); (focus (first | omega | (simp; omega)))) | (refine hNumNo 1 hH rfl rfl ?_ ?_ ?_ ?_ ?_ ?_; (focus (first | omega | (simp; omega))); (focus (first | omega | (simp; omega))); (focus (first | omega | (simp; omega))); (focus (first | omega | (simp; omega))); (focus (first | omega | (simp; omega)))) | (refine hNumBad 1 hH rfl rfl ?_ ?_ ?_; (focus (first | omega | (simp; omega))); (focus (first | omega | (simp; omega))))); clear hH; intro W hH; (try simp only [Int.reduceToNat, Int.toNat_natCast, Nat.reduceAdd, Nat.zero_add, Nat.add_zero] at hH ⊢))) | ((go_at_call 22; (first | (refine hTake 0 hH rfl rfl ?_ ?_ ?_ ?_; (focus (first | omega | (simp; omega))); (focus (first | omega | (simp; omega))); (focus (first | omega | (simp; omega)))) | (refine hTakeNo 0 hH rfl rfl ?_ ?_ ?_ ?_ ?_; (focus (first | omega | (simp; omega))); (focus (first | omega | (simp; omega))); (focus (first | omega | (simp; omega))); (focus (first | omega | (simp; omega)))) | (refine hTakeBad 0 hH rfl rfl ?_ ?_ ?_ ?_; (focus (first | omega | (simp; omega))); (focus (first | omega | (simp; omega))); (focus (first | omega | (simp; omega)))) | (refine hTake 1 hH rfl rfl ?_ ?_ ?_ ?_; (focus (first | omega | (simp; omega))); (focus (first | omega | (simp; omega))); (focus (first | omega | (simp; omega)))) | (refine hTakeNo 1 hH rfl rfl ?_ ?_ ?_ ?_ ?_; (focus (first | omega | (simp; omega))); (focus (first | omega | (simp; omega))); (focus (first | omega | (simp; omega))); (focus (first | omega | (simp; omega)))) | (refine hTakeBad 1 hH rfl rfl ?_ ?_ ?_ ?_; (focus (first | omega | (simp; omega))); (focus (first | omega | (simp; omega))); (focus (first | omega | (simp; omega))))); clear hH; intro W hH; (try simp only [Int.reduceToNat, Int.toNat_natCast, Nat.reduceAdd, Nat.zero_add, Nat.add_zero] at hH ⊢))) | ((go_at_call 23; (first | (refine hBad 0 hH rfl ?_) | (refine hBad 1 hH rfl ?_)); clear hH; intro W hH; (try simp only [Int.reduceToNat, Int.toNat_natCast, Nat.reduceAdd, Nat.zero_add, Nat.add_zero] at hH ⊢))) | ((first | (refine gL rfl ?_; first | refine hL1 tab_ok 0 rfl rfl rfl hH rfl rfl rfl rfl ?_ | refine hL1 tab_ok 1 rfl rfl rfl hH rfl rfl rfl rfl ?_ | refine hL1 tab_ok 2 rfl rfl rfl hH rfl rfl rfl rfl ?_ | refine hL1 tab_ok 3 rfl rfl rfl hH rfl rfl rfl rfl ?_ | refine hLR tab_ok 0 rfl rfl rfl hH rfl rfl rfl rfl ?_ | refine hLR tab_ok 1 rfl rfl rfl hH rfl rfl rfl rfl ?_ | refine hLR tab_ok 2 rfl rfl rfl hH rfl rfl rfl rfl ?_ | refine hLR tab_ok 3 rfl rfl rfl hH rfl rfl rfl rfl ?_ | (refine hL1i tab_ok 0 rfl rfl rfl hH rfl rfl rfl rfl ?_; refine ⟨?_, ?_, ?_⟩; rotate_left; (focus assumption)) | (refine hL1i tab_ok 1 rfl rfl rfl hH rfl rfl rfl rfl ?_; refine ⟨?_, ?_, ?_⟩; rotate_left; (focus assumption)) | (refine hL1i tab_ok 2 rfl rfl rfl hH rfl rfl rfl rfl ?_; refine ⟨?_, ?_, ?_⟩; rotate_left; (focus assumption)) | (refine hL1i tab_ok 3 rfl rfl rfl hH rfl rfl rfl rfl ?_; refine ⟨?_, ?_, ?_⟩; rotate_left; (focus assumption))) | (refine gS rfl ?_; first | refine hS1 tab_ok 0 rfl rfl rfl rfl hH rfl rfl rfl rfl rfl ?_ | refine hS1 tab_ok 1 rfl rfl rfl rfl hH rfl rfl rfl rfl rfl ?_ | refine hS1 tab_ok 2 rfl rfl rfl rfl hH rfl rfl rfl rfl rfl ?_ | refine hS1 tab_ok 3 rfl rfl rfl rfl hH rfl rfl rfl rfl rfl ?_ | (refine hSR tab_ok 0 rfl rfl rfl rfl hH rfl rfl rfl rfl rfl ?_ ?_; (focus (repeat (first | exact trivial | assumption | exact OkA.z (by kernel_rfl) (by kernel_rfl) | refine ⟨rfl, ?_⟩ | refine ⟨?_, ?_⟩)))) | (refine hSR tab_ok 1 rfl rfl rfl rfl hH rfl rfl rfl rfl rfl ?_ ?_; (focus (repeat (first | exact trivial | assumption | exact OkA.z (by kernel_rfl) (by kernel_rfl) | refine ⟨rfl, ?_⟩ | refine ⟨?_, ?_⟩)))) | (refine hSR tab_ok 2 rfl rfl rfl rfl hH rfl rfl rfl rfl rfl ?_ ?_; (focus (repeat (first | exact trivial | assumption | exact OkA.z (by kernel_rfl) (by kernel_rfl) | refine ⟨rfl, ?_⟩ | refine ⟨?_, ?_⟩)))) | (refine hSR tab_ok 3 rfl rfl rfl rfl hH rfl rfl rfl rfl rfl ?_ ?_; (focus (repeat (first | exact trivial | assumption | exact OkA.z (by kernel_rfl) (by kernel_rfl) | refine ⟨rfl, ?_⟩ | refine ⟨?_, ?_⟩))))) | refine hAl tab_ok rfl rfl hH rfl ?_ | refine hBx1 rfl rfl rfl hH ?_ | (refine hBx rfl rfl rfl hH ?_ ?_; (focus (repeat (first | exact trivial | assumption | exact OkA.z (by kernel_rfl) (by kernel_rfl) | refine ⟨rfl, ?_⟩ | refine ⟨?_, ?_⟩)))) | (refine hBd tab_ok rfl rfl rfl rfl rfl hH ?_; refine ⟨?_, ?_, ?_⟩; rotate_left; (focus (repeat (first | exact BR.nil | refine BR.one rfl rfl rfl ?_ | (refine BR.row rfl rfl rfl rfl ?_ ?_; (focus (repeat (first | exact trivial | assumption | exact OkA.z (by kernel_rfl) (by kernel_rfl) | refine ⟨rfl, ?_⟩ | refine ⟨?_, ?_⟩)))))))) | ((with_reducible refine callH hH ?_); refine ⟨?_, ?_, ?_⟩; rotate_left; (focus (first | (with_reducible exact bn1 _) | (with_reducible exact bn2 _) | (with_reducible exact bn3 _) | (with_reducible exact rA _) | (with_reducible exact rB _))))); clear hH; (first | intro W g hH | intro W hH); (try simp only [Act.put, List.setIfInBounds_toArray, List.set_cons_succ, List.set_cons_zero])))
  (first | refine retC2 Try.results11 tab_ok 0 rfl rfl hH rfl rfl rfl rfl ?_ | refine retC2 Try.results11 tab_ok 1 rfl rfl hH rfl rfl rfl rfl ?_ | refine retC2 Try.results11 tab_ok 2 rfl rfl hH rfl rfl rfl rfl ?_ | refine retC2 Try.results11 tab_ok 3 rfl rfl hH rfl rfl rfl rfl ?_)
  exact ⟨rfl, hH.below⟩
end Go.Proofs.Ytmnlcmgbmehggaa

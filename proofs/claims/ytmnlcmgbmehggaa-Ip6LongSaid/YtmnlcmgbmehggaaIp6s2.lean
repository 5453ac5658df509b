/-
  Contracts of package ip6's reference: a packet is read: cut off.
-/
import Derived.Test.YtmnlcmgbmehggaaIp6s
import Derived.Test.YtmnlcmgbmehggaaTabs
namespace Go.Proofs.Ytmnlcmgbmehggaa
open Go.ChangeShapes Go.WideShapes Go.ChangeAt Go.RowKit
set_option linter.unusedVariables false
set_option linter.unusedSimpArgs false

set_option maxRecDepth 20000 in
set_option maxHeartbeats 4000000 in
theorem rRead6_cut {s : ByteArray} {w : World} (h : 40 ≤ s.size) (hs : s.size ≤ 100000) (hk : wd6 s / 268435456 = 6) (hl : s.size < 40 + numAt s 4 2) : Gives Try.prog 12 #[.string s] w (.tuple #[.agg (p6Of s).L.toArray, .int .i64 (err6 s)]) := by
  have q2 : numAt s 4 2 < 65536 := numAt_lt s 4 2
  have k02 : numAt s 0 2 < 65536 := numAt_lt s 0 2
  have k04 : numAt s 0 4 < 4294967296 := numAt_lt s 0 4
  have b6 := by6_lt s 6
  have b7 := by6_lt s 7
  have b0 := by6_lt s 0
  have hi : ∀ i : Nat, (h : i < 40) → ∀ (x : Int), x = (i : Int) → ∀ W, (Instr.index 9 (.string s) (.int .i64 x)).run Try.prog W = .ok (.int .u8 (by6 s i : Int)) W := fun i h x hx W => by
    rw [run_idx Try.underlying9 s i (by omega) x hx W, by6_get (by omega)]
  have i0 := hi 0 (by omega) 0 rfl
  have i6 := hi 6 (by omega) 6 rfl
  have i7 := hi 7 (by omega) 7 rfl
  have n45 : ∀ w, Gives Try.prog 26 #[.string (s.extract 4 6)] w (.int .u64 (numAt s 4 2 : Int)) := fun w => rNumAt (by omega) (by omega)
  have n02 : ∀ w, Gives Try.prog 26 #[.string (s.extract 0 2)] w (.int .u64 (numAt s 0 2 : Int)) := fun w => rNumAt (by omega) (by omega)
  have n04 : ∀ w, Gives Try.prog 26 #[.string (s.extract 0 4)] w (.int .u64 (numAt s 0 4 : Int)) := fun w => rNumAt (by omega) (by omega)
  have rA : ∀ w, Gives Try.prog 27 #[.string (s.extract 8 24)] w (.tuple #[.agg (fls [.many (addrL true (adOf (s.extract 8 24))) 17]).toArray, .bool true]) := fun w => by rw [fls1]; exact raRead_one (b := true) (by rw [extract_size (by omega) (by omega)]; rfl)
  have rB : ∀ w, Gives Try.prog 27 #[.string (s.extract 24 40)] w (.tuple #[.agg (fls [.many (addrL true (adOf (s.extract 24 40))) 17]).toArray, .bool true]) := fun w => by rw [fls1]; exact raRead_one (b := true) (by rw [extract_size (by omega) (by omega)]; rfl)
  have oA : OkA (addrL true (adOf (s.extract 8 24))) 17 := okA_addr (adOf_length (by rw [extract_size (by omega) (by omega)]; omega))
  have oB : OkA (addrL true (adOf (s.extract 24 40))) 17 := okA_addr (adOf_length (by rw [extract_size (by omega) (by omega)]; omega))
  have zb : 40 + numAt s 4 2 ≤ s.size → (s.extract 40 (40 + numAt s 4 2)).size = numAt s 4 2 := fun h => by rw [extract_size h (by omega)]; omega
  have wa := wd6_a (s := s) (by omega)
  have wb := wd6_b (s := s) (by omega)
  have ee : err6 s = 3 := by
    have : pre6 s = 3 := by unfold pre6; rw [if_neg (by omega), if_neg (by simpa using hk), if_pos (by exact hl)]
    unfold err6; rw [if_pos (by rw [this]; decide), this]
  have ep : p6Of s = p6z := by unfold p6Of; rw [if_pos (by rw [ee]; decide)]
  rw [ee, ep, p6z_segs]
  have d0 : ((by6 s 0 : Int) / 16 != 6) = false := by simp; omega
  have dl : decide ((s.size : Int) - 40 < (numAt s 4 2 : Int)) = true := decide_eq_true (by omega)
  generalize addrL true (adOf (s.extract 8 24)) = A at *
  generalize addrL true (adOf (s.extract 24 40)) = C at *
  clear hi
  refine Gives.of ?_
  have hH := Hp.refl w
  go_enter Try.func12, Try.ntmps12
  go_wp2_with (first | ((first | (refine gL rfl ?_; first | refine hL1 tab_ok 0 rfl rfl rfl hH rfl rfl rfl rfl ?_ | refine hL1 tab_ok 1 rfl rfl rfl hH rfl rfl rfl rfl ?_ | refine hL1 tab_ok 2 rfl rfl rfl hH rfl rfl rfl rfl ?_ | refine hL1 tab_ok 3 rfl rfl rfl hH rfl rfl rfl rfl ?_ | refine hLR tab_ok 0 rfl rfl rfl hH rfl rfl rfl rfl ?_ | refine hLR tab_ok 1 rfl rfl rfl hH rfl rfl rfl rfl ?_ | refine hLR tab_ok 2 rfl rfl rfl hH rfl rfl rfl rfl ?_ | refine hLR tab_ok 3 rfl rfl rfl hH rfl rfl rfl rfl ?_ | (refine hL1i tab_ok 0 rfl rfl rfl hH rfl rfl rfl rfl ?_; refine ⟨?_, ?_, ?_⟩; rotate_left; (focus assumption)) | (refine hL1i tab_ok 1 rfl rfl rfl hH rfl rfl rfl rfl ?_; refine ⟨?_, ?_, ?_⟩; rotate_left; (focus assumption)) | (refine hL1i tab_ok 2 rfl rfl rfl hH rfl rfl rfl rfl ?_; refine ⟨?_, ?_, ?_⟩; rotate_left; (focus assumption)) | (refine hL1i tab_ok 3 rfl rfl rfl hH rfl rfl rfl rfl ?_; refine ⟨?_, ?_, ?_⟩; rotate_left; (focus assumption))) | (refine gS rfl ?_; first | refine hS1 tab_ok 0 rfl rfl rfl rfl hH rfl rfl rfl rfl rfl ?_ | refine hS1 tab_ok 1 rfl rfl rfl rfl hH rfl rfl rfl rfl rfl ?_ | refine hS1 tab_ok 2 rfl rfl rfl rfl hH rfl rfl rfl rfl rfl ?_ | refine hS1 tab_ok 3 rfl rfl rfl rfl hH rfl rfl rfl rfl rfl ?_ | (refine hSR tab_ok 0 rfl rfl rfl rfl hH rfl rfl rfl rfl rfl ?_ ?_; (focus (repeat (first | exact trivial | assumption | exact OkA.z (by kernel_rfl) (by kernel_rfl) | refine ⟨rfl, ?_⟩ | refine ⟨?_, ?_⟩)))) | (refine hSR tab_ok 1 rfl rfl rfl rfl hH rfl rfl rfl rfl rfl ?_ ?_; (focus (repeat (first | exact trivial | assumption | exact OkA.z (by kernel_rfl) (by kernel_rfl) | refine ⟨rfl, ?_⟩ | refine ⟨?_, ?_⟩)))) | (refine hSR tab_ok 2 rfl rfl rfl rfl hH rfl rfl rfl rfl rfl ?_ ?_; (focus (repeat (first | exact trivial | assumption | exact OkA.z (by kernel_rfl) (by kernel_rfl) | refine ⟨rfl, ?_⟩ | refine ⟨?_, ?_⟩)))) | (refine hSR tab_ok 3 rfl rfl rfl rfl hH rfl rfl rfl rfl rfl ?_ ?_; (focus (repeat (first | exact trivial | assumption | exact OkA.z (by kernel_rfl) (by kernel_rfl) | refine ⟨rfl, ?_⟩ | refine ⟨?_, ?_⟩))))) | refine hAl tab_ok rfl rfl hH rfl ?_ | refine hBx1 rfl rfl rfl hH ?_ | (refine hBx rfl rfl rfl hH ?_ ?_; (focus (repeat (first | exact trivial | assumption | exact OkA.z (by kernel_rfl) (by kernel_rfl) | refine ⟨rfl, ?_⟩ | refine ⟨?_, ?_⟩)))) | (refine hBd tab_ok rfl rfl rfl rfl rfl hH ?_; refine ⟨?_, ?_, ?_⟩; rotate_left; (focus (repeat (first | exact BR.nil | refine BR.one rfl rfl rfl ?_ | (refine BR.row rfl rfl rfl rfl ?_ ?_; (focus (repeat (first | exact trivial | assumption | exact OkA.z (by kernel_rfl) (by kernel_rfl) | refine ⟨rfl, ?_⟩ | refine ⟨?_, ?_⟩)))))))) | ((with_reducible refine callH hH ?_); refine ⟨?_, ?_, ?_⟩; rotate_left; (focus (first | (with_reducible exact n45 _))))); clear hH; (first | intro W g hH | intro W hH); (try simp only [Act.put, List.setIfInBounds_toArray, List.set_cons_succ, List.set_cons_zero])))
  (first | refine retC2 Try.results12 tab_ok 0 rfl rfl hH rfl rfl rfl rfl ?_ | refine retC2 Try.results12 tab_ok 1 rfl rfl hH rfl rfl rfl rfl ?_ | refine retC2 Try.results12 tab_ok 2 rfl rfl hH rfl rfl rfl rfl ?_ | refine retC2 Try.results12 tab_ok 3 rfl rfl hH rfl rfl rfl rfl ?_)
  exact ⟨rfl, hH.below⟩
end Go.Proofs.Ytmnlcmgbmehggaa

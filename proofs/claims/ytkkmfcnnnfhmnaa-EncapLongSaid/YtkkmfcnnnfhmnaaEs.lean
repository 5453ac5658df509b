/-
  Contracts of package encap: Read and Hop; plain: one hop further.
-/
import Derived.Test.YtkkmfcnnnfhmnaaEr
namespace Go.Proofs.Ytkkmfcnnnfhmnaa
open Go.ChangeShapes Go.WideShapes Go.ChangeAt Go.RowKit
set_option linter.unusedVariables false
set_option linter.unusedSimpArgs false
attribute [local irreducible] wpList

def nx36 (s : ByteArray) : Nat := updN ((numAt s 4 2 : Nat) : Int) ((by6 s 2 : Int) * 256) ((by6 s 2 : Int) * 256 - 256)
def hop36 (s : ByteArray) : ByteArray := s.extract 0 2 ++ str (putL (by6 s 2 - 1) 1) ++ s.extract 3 4 ++ str (putL (nx36 s) 2) ++ s.extract 6 s.size
theorem nx36_lt (s : ByteArray) : nx36 s < 65536 := by unfold nx36 updN; omega
theorem errT_size {s : ByteArray} (h : errT s = 0) : 20 ≤ s.size := by
  apply Classical.byContradiction
  intro hn
  have : preT s = 3 := by unfold preT; rw [if_pos (by omega)]
  unfold errT at h
  rw [if_pos (by rw [this]; decide), this] at h
  exact absurd h (by decide)
section
variable {s : ByteArray} {w : World}
theorem Read36_any (hs : s.size ≤ 100000) : Gives Try.prog 13 #[.string s] w (.tuple #[.agg (tnOf s).L.toArray, .int .i64 (errT s)]) := by
  have hr : ∀ w, Gives Try.prog 17 #[.string s] w (.tuple #[.agg (tnOf s).L.toArray, .int .i64 (errT s)]) := fun w => read36_any hs
  have oA := okA_addr (v := (tnOf s).v) (tnOf_ok s).l
  rw [tn_segs] at *
  generalize addrL (tnOf s).v (tnOf s).l = A at *
  generalize tnOf s = p at *
  generalize errT s = e at *
  refine Gives.of ?_
  have hH := Hp.refl w
  go_enter Try.func13, Try.ntmps13
  go_wp2_with (first | ((first | (refine gL rfl ?_; first | (refine hL1 tab_ok 0 rfl ?_ rfl hH rfl rfl rfl rfl ?_; (focus (first | exact wN rfl | exact rfl))) | (refine hL1 tab_ok 1 rfl ?_ rfl hH rfl rfl rfl rfl ?_; (focus (first | exact wN rfl | exact rfl))) | (refine hL1 tab_ok 2 rfl ?_ rfl hH rfl rfl rfl rfl ?_; (focus (first | exact wN rfl | exact rfl))) | (refine hL1 tab_ok 3 rfl ?_ rfl hH rfl rfl rfl rfl ?_; (focus (first | exact wN rfl | exact rfl))) | (refine hLR tab_ok 0 rfl ?_ rfl hH rfl rfl rfl rfl ?_; (focus (first | exact wN rfl | exact rfl))) | (refine hLR tab_ok 1 rfl ?_ rfl hH rfl rfl rfl rfl ?_; (focus (first | exact wN rfl | exact rfl))) | (refine hLR tab_ok 2 rfl ?_ rfl hH rfl rfl rfl rfl ?_; (focus (first | exact wN rfl | exact rfl))) | (refine hLR tab_ok 3 rfl ?_ rfl hH rfl rfl rfl rfl ?_; (focus (first | exact wN rfl | exact rfl))) | (refine hL1i tab_ok 0 rfl ?_ rfl hH rfl rfl rfl rfl ?_; (focus (first | exact wN rfl | exact rfl)); refine ⟨?_, ?_, ?_⟩; rotate_left; (focus assumption)) | (refine hL1i tab_ok 1 rfl ?_ rfl hH rfl rfl rfl rfl ?_; (focus (first | exact wN rfl | exact rfl)); refine ⟨?_, ?_, ?_⟩; rotate_left; (focus assumption)) | (refine hL1i tab_ok 2 rfl ?_ rfl hH rfl rfl rfl rfl ?_; (focus (first | exact wN rfl | exact rfl)); refine ⟨?_, ?_, ?_⟩; rotate_left; (focus assumption)) | (refine hL1i tab_ok 3 rfl ?_ rfl hH rfl rfl rfl rfl ?_; (focus (first | exact wN rfl | exact rfl)); refine ⟨?_, ?_, ?_⟩; rotate_left; (focus assumption))) | (refine gS rfl ?_; first | (refine hS1 tab_ok 0 rfl ?_ rfl rfl hH rfl rfl rfl rfl rfl ?_; (focus (first | exact wN rfl | exact rfl))) | (refine hS1 tab_ok 1 rfl ?_ rfl rfl hH rfl rfl rfl rfl rfl ?_; (focus (first | exact wN rfl | exact rfl))) | (refine hS1 tab_ok 2 rfl ?_ rfl rfl hH rfl rfl rfl rfl rfl ?_; (focus (first | exact wN rfl | exact rfl))) | (refine hS1 tab_ok 3 rfl ?_ rfl rfl hH rfl rfl rfl rfl rfl ?_; (focus (first | exact wN rfl | exact rfl))) | (refine hSR tab_ok 0 rfl ?_ rfl rfl hH rfl rfl rfl rfl rfl ?_ ?_; (focus (first | exact wN rfl | exact rfl)); (focus (repeat (first | exact trivial | assumption | exact OkA.z (by kernel_rfl) (by kernel_rfl) | refine ⟨rfl, ?_⟩ | refine ⟨?_, ?_⟩)))) | (refine hSR tab_ok 1 rfl ?_ rfl rfl hH rfl rfl rfl rfl rfl ?_ ?_; (focus (first | exact wN rfl | exact rfl)); (focus (repeat (first | exact trivial | assumption | exact OkA.z (by kernel_rfl) (by kernel_rfl) | refine ⟨rfl, ?_⟩ | refine ⟨?_, ?_⟩)))) | (refine hSR tab_ok 2 rfl ?_ rfl rfl hH rfl rfl rfl rfl rfl ?_ ?_; (focus (first | exact wN rfl | exact rfl)); (focus (repeat (first | exact trivial | assumption | exact OkA.z (by kernel_rfl) (by kernel_rfl) | refine ⟨rfl, ?_⟩ | refine ⟨?_, ?_⟩)))) | (refine hSR tab_ok 3 rfl ?_ rfl rfl hH rfl rfl rfl rfl rfl ?_ ?_; (focus (first | exact wN rfl | exact rfl)); (focus (repeat (first | exact trivial | assumption | exact OkA.z (by kernel_rfl) (by kernel_rfl) | refine ⟨rfl, ?_⟩ | refine ⟨?_, ?_⟩))))) | (refine hAl tab_ok rfl ?_ hH rfl ?_; (focus (first | exact wN rfl | exact rfl))) | (refine hBx1 rfl ?_ rfl hH ?_; (focus (first | exact wN rfl | exact rfl))) | (refine hBx rfl ?_ rfl hH ?_ ?_; (focus (first | exact wN rfl | exact rfl)); (focus (repeat (first | exact trivial | assumption | exact OkA.z (by kernel_rfl) (by kernel_rfl) | refine ⟨rfl, ?_⟩ | refine ⟨?_, ?_⟩)))) | (refine hBd tab_ok rfl ?_ rfl rfl rfl hH ?_; (focus (first | exact wN rfl | exact rfl)); refine ⟨?_, ?_, ?_⟩; rotate_left; (focus (repeat (first | exact BR.nil | refine BR.one rfl rfl rfl ?_ | (refine BR.row rfl rfl rfl rfl ?_ ?_; (focus (repeat (first | exact trivial | assumption | exact OkA.z (by kernel_rfl) (by kernel_rfl) | refine ⟨rfl, ?_⟩ | refine ⟨?_, ?_⟩)))))))) | ((with_reducible refine callH hH ?_); refine ⟨?_, ?_, ?_⟩; rotate_left; (focus (first | (with_reducible exact hr _))))); clear hH; (first | intro W g hH | intro W hH); (try simp only [Act.put, List.setIfInBounds_toArray, List.set_cons_succ, List.set_cons_zero])))
  (first | refine retC2 Try.results13 tab_ok 0 rfl rfl hH rfl rfl rfl rfl ?_ | refine retC2 Try.results13 tab_ok 1 rfl rfl hH rfl rfl rfl rfl ?_ | refine retC2 Try.results13 tab_ok 2 rfl rfl hH rfl rfl rfl rfl ?_ | refine retC2 Try.results13 tab_ok 3 rfl rfl hH rfl rfl rfl rfl ?_)
  exact ⟨rfl, hH.below⟩
theorem Hop36_err (hs : s.size ≤ 100000) (he : errT s ≠ 0) : Gives Try.prog 8 #[.string s] w (.tuple #[.string ⟨#[]⟩, .int .i64 (errT s)]) := by
  have hr : ∀ w, Gives Try.prog 17 #[.string s] w (.tuple #[.agg (tnOf s).L.toArray, .int .i64 (errT s)]) := fun w => read36_any hs
  have oA := okA_addr (v := (tnOf s).v) (tnOf_ok s).l
  rw [tn_segs] at *
  have d1 : (errT s != 0) = true := by simpa using he
  clear he
  generalize addrL (tnOf s).v (tnOf s).l = A at *
  generalize tnOf s = p at *
  generalize errT s = e at *
  refine Gives.of ?_
  have hH := Hp.refl w
  go_enter Try.func8, Try.ntmps8
  go_wp2_with (first | ((first | (refine gL rfl ?_; first | (refine hL1 tab_ok 0 rfl ?_ rfl hH rfl rfl rfl rfl ?_; (focus (first | exact wN rfl | exact rfl))) | (refine hL1 tab_ok 1 rfl ?_ rfl hH rfl rfl rfl rfl ?_; (focus (first | exact wN rfl | exact rfl))) | (refine hL1 tab_ok 2 rfl ?_ rfl hH rfl rfl rfl rfl ?_; (focus (first | exact wN rfl | exact rfl))) | (refine hL1 tab_ok 3 rfl ?_ rfl hH rfl rfl rfl rfl ?_; (focus (first | exact wN rfl | exact rfl))) | (refine hLR tab_ok 0 rfl ?_ rfl hH rfl rfl rfl rfl ?_; (focus (first | exact wN rfl | exact rfl))) | (refine hLR tab_ok 1 rfl ?_ rfl hH rfl rfl rfl rfl ?_; (focus (first | exact wN rfl | exact rfl))) | (refine hLR tab_ok 2 rfl ?_ rfl hH rfl rfl rfl rfl ?_; (focus (first | exact wN rfl | exact rfl))) | (refine hLR tab_ok 3 rfl ?_ rfl hH rfl rfl rfl rfl ?_; (focus (first | exact wN rfl | exact rfl))) | (refine hL1i tab_ok 0 rfl ?_ rfl hH rfl rfl rfl rfl ?_; (focus (first | exact wN rfl | exact rfl)); refine ⟨?_, ?_, ?_⟩; rotate_left; (focus assumption)) | (refine hL1i tab_ok 1 rfl ?_ rfl hH rfl rfl rfl rfl ?_; (focus (first | exact wN rfl | exact rfl)); refine ⟨?_, ?_, ?_⟩; rotate_left; (focus assumption)) | (refine hL1i tab_ok 2 rfl ?_ rfl hH rfl rfl rfl rfl ?_; (focus (first | exact wN rfl | exact rfl)); refine ⟨?_, ?_, ?_⟩; rotate_left; (focus assumption)) | (refine hL1i tab_ok 3 rfl ?_ rfl hH rfl rfl rfl rfl ?_; (focus (first | exact wN rfl | exact rfl)); refine ⟨?_, ?_, ?_⟩; rotate_left; (focus assumption))) | (refine gS rfl ?_; first | (refine hS1 tab_ok 0 rfl ?_ rfl rfl hH rfl rfl rfl rfl rfl ?_; (focus (first | exact wN rfl | exact rfl))) | (refine hS1 tab_ok 1 rfl ?_ rfl rfl hH rfl rfl rfl rfl rfl ?_; (focus (first | exact wN rfl | exact rfl))) | (refine hS1 tab_ok 2 rfl ?_ rfl rfl hH rfl rfl rfl rfl rfl ?_; (focus (first | exact wN rfl | exact rfl))) | (refine hS1 tab_ok 3 rfl ?_ rfl rfl hH rfl rfl rfl rfl rfl ?_; (focus (first | exact wN rfl | exact rfl))) | (refine hSR tab_ok 0 rfl ?_ rfl rfl hH rfl rfl rfl rfl rfl ?_ ?_; (focus (first | exact wN rfl | exact rfl)); (focus (repeat (first | exact trivial | assumption | exact OkA.z (by kernel_rfl) (by kernel_rfl) | refine ⟨rfl, ?_⟩ | refine ⟨?_, ?_⟩)))) | (refine hSR tab_ok 1 rfl ?_ rfl rfl hH rfl rfl rfl rfl rfl ?_ ?_; (focus (first | exact wN rfl | exact rfl)); (focus (repeat (first | exact trivial | assumption | exact OkA.z (by kernel_rfl) (by kernel_rfl) | refine ⟨rfl, ?_⟩ | refine ⟨?_, ?_⟩)))) | (refine hSR tab_ok 2 rfl ?_ rfl rfl hH rfl rfl rfl rfl rfl ?_ ?_; (focus (first | exact wN rfl | exact rfl)); (focus (repeat (first | exact trivial | assumption | exact OkA.z (by kernel_rfl) (by kernel_rfl) | refine ⟨rfl, ?_⟩ | refine ⟨?_, ?_⟩)))) | (refine hSR tab_ok 3 rfl ?_ rfl rfl hH rfl rfl rfl rfl rfl ?_ ?_; (focus (first | exact wN rfl | exact rfl)); (focus (repeat (first | exact trivial | assumption | exact OkA.z (by kernel_rfl) (by kernel_rfl) | refine ⟨rfl, ?_⟩ | refine ⟨?_, ?_⟩))))) | (refine hAl tab_ok rfl ?_ hH rfl ?_; (focus (first | exact wN rfl | exact rfl))) | (refine hBx1 rfl ?_ rfl hH ?_; (focus (first | exact wN rfl | exact rfl))) | (refine hBx rfl ?_ rfl hH ?_ ?_; (focus (first | exact wN rfl | exact rfl)); (focus (repeat (first | exact trivial | assumption | exact OkA.z (by kernel_rfl) (by kernel_rfl) | refine ⟨rfl, ?_⟩ | refine ⟨?_, ?_⟩)))) | (refine hBd tab_ok rfl ?_ rfl rfl rfl hH ?_; (focus (first | exact wN rfl | exact rfl)); refine ⟨?_, ?_, ?_⟩; rotate_left; (focus (repeat (first | exact BR.nil | refine BR.one rfl rfl rfl ?_ | (refine BR.row rfl rfl rfl rfl ?_ ?_; (focus (repeat (first | exact trivial | assumption | exact OkA.z (by kernel_rfl) (by kernel_rfl) | refine ⟨rfl, ?_⟩ | refine ⟨?_, ?_⟩)))))))) | ((with_reducible refine callH hH ?_); refine ⟨?_, ?_, ?_⟩; rotate_left; (focus (first | (with_reducible exact hr _))))); clear hH; (first | intro W g hH | intro W hH); (try simp only [Act.put, List.setIfInBounds_toArray, List.set_cons_succ, List.set_cons_zero])))
  go_ret2
  exact ⟨rfl, hH.below⟩
theorem tnOf_ok0 (he : errT s = 0) : tnOf s = tOf s := by unfold tnOf; rw [if_neg (by rw [he]; decide)]
theorem Hop36_none (hs : s.size ≤ 100000) (he : errT s = 0) (hh : by6 s 2 = 0) : Gives Try.prog 8 #[.string s] w (.tuple #[.string ⟨#[]⟩, .int .i64 8]) := by
  have hr : ∀ w, Gives Try.prog 17 #[.string s] w (.tuple #[.agg (tnOf s).L.toArray, .int .i64 (errT s)]) := fun w => read36_any hs
  have oA := okA_addr (v := (tOf s).v) (tOf_ok s).l
  rw [tnOf_ok0 he, he, tn_segs, show (tOf s).hop = 0 by show ((by6 s 2 : Nat) : Int) = 0; omega] at hr
  clear he hh
  generalize addrL (tOf s).v (tOf s).l = A at *
  generalize tOf s = p at *
  refine Gives.of ?_
  have hH := Hp.refl w
  go_enter Try.func8, Try.ntmps8
  go_wp2_with (first | ((first | (refine gL rfl ?_; first | (refine hL1 tab_ok 0 rfl ?_ rfl hH rfl rfl rfl rfl ?_; (focus (first | exact wN rfl | exact rfl))) | (refine hL1 tab_ok 1 rfl ?_ rfl hH rfl rfl rfl rfl ?_; (focus (first | exact wN rfl | exact rfl))) | (refine hL1 tab_ok 2 rfl ?_ rfl hH rfl rfl rfl rfl ?_; (focus (first | exact wN rfl | exact rfl))) | (refine hL1 tab_ok 3 rfl ?_ rfl hH rfl rfl rfl rfl ?_; (focus (first | exact wN rfl | exact rfl))) | (refine hLR tab_ok 0 rfl ?_ rfl hH rfl rfl rfl rfl ?_; (focus (first | exact wN rfl | exact rfl))) | (refine hLR tab_ok 1 rfl ?_ rfl hH rfl rfl rfl rfl ?_; (focus (first | exact wN rfl | exact rfl))) | (refine hLR tab_ok 2 rfl ?_ rfl hH rfl rfl rfl rfl ?_; (focus (first | exact wN rfl | exact rfl))) | (refine hLR tab_ok 3 rfl ?_ rfl hH rfl rfl rfl rfl ?_; (focus (first | exact wN rfl | exact rfl))) | (refine hL1i tab_ok 0 rfl ?_ rfl hH rfl rfl rfl rfl ?_; (focus (first | exact wN rfl | exact rfl)); refine ⟨?_, ?_, ?_⟩; rotate_left; (focus assumption)) | (refine hL1i tab_ok 1 rfl ?_ rfl hH rfl rfl rfl rfl ?_; (focus (first | exact wN rfl | exact rfl)); refine ⟨?_, ?_, ?_⟩; rotate_left; (focus assumption)) | (refine hL1i tab_ok 2 rfl ?_ rfl hH rfl rfl rfl rfl ?_; (focus (first | exact wN rfl | exact rfl)); refine ⟨?_, ?_, ?_⟩; rotate_left; (focus assumption)) | (refine hL1i tab_ok 3 rfl ?_ rfl hH rfl rfl rfl rfl ?_; (focus (first | exact wN rfl | exact rfl)); refine ⟨?_, ?_, ?_⟩; rotate_left; (focus assumption))) | (refine gS rfl ?_; first | (refine hS1 tab_ok 0 rfl ?_ rfl rfl hH rfl rfl rfl rfl rfl ?_; (focus (first | exact wN rfl | exact rfl))) | (refine hS1 tab_ok 1 rfl ?_ rfl rfl hH rfl rfl rfl rfl rfl ?_; (focus (first | exact wN rfl | exact rfl))) | (refine hS1 tab_ok 2 rfl ?_ rfl rfl hH rfl rfl rfl rfl rfl ?_; (focus (first | exact wN rfl | exact rfl))) | (refine hS1 tab_ok 3 rfl ?_ rfl rfl hH rfl rfl rfl rfl rfl ?_; (focus (first | exact wN rfl | exact rfl))) | (refine hSR tab_ok 0 rfl ?_ rfl rfl hH rfl rfl rfl rfl rfl ?_ ?_; (focus (first | exact wN rfl | exact rfl)); (focus (repeat (first | exact trivial | assumption | exact OkA.z (by kernel_rfl) (by kernel_rfl) | refine ⟨rfl, ?_⟩ | refine ⟨?_, ?_⟩)))) | (refine hSR tab_ok 1 rfl ?_ rfl rfl hH rfl rfl rfl rfl rfl ?_ ?_; (focus (first | exact wN rfl | exact rfl)); (focus (repeat (first | exact trivial | assumption | exact OkA.z (by kernel_rfl) (by kernel_rfl) | refine ⟨rfl, ?_⟩ | refine ⟨?_, ?_⟩)))) | (refine hSR tab_ok 2 rfl ?_ rfl rfl hH rfl rfl rfl rfl rfl ?_ ?_; (focus (first | exact wN rfl | exact rfl)); (focus (repeat (first | exact trivial | assumption | exact OkA.z (by kernel_rfl) (by kernel_rfl) | refine ⟨rfl, ?_⟩ | refine ⟨?_, ?_⟩)))) | (refine hSR tab_ok 3 rfl ?_ rfl rfl hH rfl rfl rfl rfl rfl ?_ ?_; (focus (first | exact wN rfl | exact rfl)); (focus (repeat (first | exact trivial | assumption | exact OkA.z (by kernel_rfl) (by kernel_rfl) | refine ⟨rfl, ?_⟩ | refine ⟨?_, ?_⟩))))) | (refine hAl tab_ok rfl ?_ hH rfl ?_; (focus (first | exact wN rfl | exact rfl))) | (refine hBx1 rfl ?_ rfl hH ?_; (focus (first | exact wN rfl | exact rfl))) | (refine hBx rfl ?_ rfl hH ?_ ?_; (focus (first | exact wN rfl | exact rfl)); (focus (repeat (first | exact trivial | assumption | exact OkA.z (by kernel_rfl) (by kernel_rfl) | refine ⟨rfl, ?_⟩ | refine ⟨?_, ?_⟩)))) | (refine hBd tab_ok rfl ?_ rfl rfl rfl hH ?_; (focus (first | exact wN rfl | exact rfl)); refine ⟨?_, ?_, ?_⟩; rotate_left; (focus (repeat (first | exact BR.nil | refine BR.one rfl rfl rfl ?_ | (refine BR.row rfl rfl rfl rfl ?_ ?_; (focus (repeat (first | exact trivial | assumption | exact OkA.z (by kernel_rfl) (by kernel_rfl) | refine ⟨rfl, ?_⟩ | refine ⟨?_, ?_⟩)))))))) | ((with_reducible refine callH hH ?_); refine ⟨?_, ?_, ?_⟩; rotate_left; (focus (first | (with_reducible exact hr _))))); clear hH; (first | intro W g hH | intro W hH); (try simp only [Act.put, List.setIfInBounds_toArray, List.set_cons_succ, List.set_cons_zero])))
  go_ret2
  exact ⟨rfl, hH.below⟩
set_option maxRecDepth 100000 in
theorem Hop36_ok (hs : s.size ≤ 100000) (he : errT s = 0) (hh : 1 ≤ by6 s 2) : Gives Try.prog 8 #[.string s] w (.tuple #[.string (hop36 s), .int .i64 0]) := by
  have hr : ∀ w, Gives Try.prog 17 #[.string s] w (.tuple #[.agg (tnOf s).L.toArray, .int .i64 (errT s)]) := fun w => read36_any hs
  have h20 := errT_size he
  have oA := okA_addr (v := (tOf s).v) (tOf_ok s).l
  rw [tnOf_ok0 he, he, tn_segs, show (tOf s).hop = (by6 s 2 : Int) from rfl] at hr
  have l2 := by6_lt s 2
  have lw : numAt s 4 2 < 65536 := numAt_lt s 4 2
  have hg : ∀ w, Gives Try.prog 18 #[.string s, .int .i64 4, .int .i64 2] w (.tuple #[.int .u64 ((numAt s 4 2 : Nat) : Int), .int .i64 0]) := fun w =>
    get_any (s := s) (i := 4) (m := 2) (w := w) (by omega) (by omega) (by omega)
  have hu : ∀ w, Gives Try.prog 19 #[.int .i64 ((numAt s 4 2 : Nat) : Int), .int .i64 ((by6 s 2 : Int) * 256), .int .i64 ((by6 s 2 : Int) * 256 - 256)] w (.int .i64 (nx36 s : Int)) := fun w => Update_any
  have hp1 : ∀ w, Gives Try.prog 20 #[.int .i64 ((by6 s 2 : Int) - 1), .int .i64 1] w (.string (str (putL (by6 s 2 - 1) 1))) := fun w => by
    have := put36_any (n := by6 s 2 - 1) (k := 1) (w := w) (by omega) (by omega)
    rwa [show ((by6 s 2 - 1 : Nat) : Int) = (by6 s 2 : Int) - 1 by omega] at this
  have hnx := nx36_lt s
  have hp2 : ∀ w, Gives Try.prog 20 #[.int .i64 (nx36 s : Int), .int .i64 2] w (.string (str (putL (nx36 s) 2))) := fun w => put36_any (n := nx36 s) (k := 2) (by omega) (by omega)
  have n1 := str_size (putL (by6 s 2 - 1) 1)
  have n2 := str_size (putL (nx36 s) 2)
  rw [putL_length] at n1 n2
  have e1 : (s.extract 0 2).size ≤ 100000 := by rw [extract_size (by omega) (by omega)]; omega
  have e2 : (s.extract 3 4).size ≤ 100000 := by rw [extract_size (by omega) (by omega)]; omega
  have e3 : (s.extract 6 s.size).size ≤ 100000 := by rw [extract_size (by omega) (by omega)]; omega
  have hT := Lib.hid (show hop36 s = s.extract 0 2 ++ str (putL (by6 s 2 - 1) 1) ++ s.extract 3 4 ++ str (putL (nx36 s) 2) ++ s.extract 6 s.size from rfl)
  rw [hT.out]
  have hd : ((by6 s 2 : Int) == 0) = false := by simp; omega
  clear he hT
  generalize str (putL (by6 s 2 - 1) 1) = P1 at *
  generalize str (putL (nx36 s) 2) = P2 at *
  generalize nx36 s = nx at *
  generalize numAt s 4 2 = was at *
  generalize by6 s 2 = t8 at *
  generalize addrL (tOf s).v (tOf s).l = A at *
  generalize tOf s = p at *
  refine Gives.of ?_
  have hH := Hp.refl w
  go_enter Try.func8, Try.ntmps8
  go_wp2_with (first | ((first | (refine gL rfl ?_; first | (refine hL1 tab_ok 0 rfl ?_ rfl hH rfl rfl rfl rfl ?_; (focus (first | exact wN rfl | exact rfl))) | (refine hL1 tab_ok 1 rfl ?_ rfl hH rfl rfl rfl rfl ?_; (focus (first | exact wN rfl | exact rfl))) | (refine hL1 tab_ok 2 rfl ?_ rfl hH rfl rfl rfl rfl ?_; (focus (first | exact wN rfl | exact rfl))) | (refine hL1 tab_ok 3 rfl ?_ rfl hH rfl rfl rfl rfl ?_; (focus (first | exact wN rfl | exact rfl))) | (refine hLR tab_ok 0 rfl ?_ rfl hH rfl rfl rfl rfl ?_; (focus (first | exact wN rfl | exact rfl))) | (refine hLR tab_ok 1 rfl ?_ rfl hH rfl rfl rfl rfl ?_; (focus (first | exact wN rfl | exact rfl))) | (refine hLR tab_ok 2 rfl ?_ rfl hH rfl rfl rfl rfl ?_; (focus (first | exact wN rfl | exact rfl))) | (refine hLR tab_ok 3 rfl ?_ rfl hH rfl rfl rfl rfl ?_; (focus (first | exact wN rfl | exact rfl))) | (refine hL1i tab_ok 0 rfl ?_ rfl hH rfl rfl rfl rfl ?_; (focus (first | exact wN rfl | exact rfl)); refine ⟨?_, ?_, ?_⟩; rotate_left; (focus assumption)) | (refine hL1i tab_ok 1 rfl ?_ rfl hH rfl rfl rfl rfl ?_; (focus (first | exact wN rfl | exact rfl)); refine ⟨?_, ?_, ?_⟩; rotate_left; (focus assumption)) | (refine hL1i tab_ok 2 rfl ?_ rfl hH rfl rfl rfl rfl ?_; (focus (first | exact wN rfl | exact rfl)); refine ⟨?_, ?_, ?_⟩; rotate_left; (focus assumption)) | (refine hL1i tab_ok 3 rfl ?_ rfl hH rfl rfl rfl rfl ?_; (focus (first | exact wN rfl | exact rfl)); refine ⟨?_, ?_, ?_⟩; rotate_left; (focus assumption))) | (refine gS rfl ?_; first | (refine hS1 tab_ok 0 rfl ?_ rfl rfl hH rfl rfl rfl rfl rfl ?_; (focus (first | exact wN rfl | exact rfl))) | (refine hS1 tab_ok 1 rfl ?_ rfl rfl hH rfl rfl rfl rfl rfl ?_; (focus (first | exact wN rfl | exact rfl))) | (refine hS1 tab_ok 2 rfl ?_ rfl rfl hH rfl rfl rfl rfl rfl ?_; (focus (first | exact wN rfl | exact rfl))) | (refine hS1 tab_ok 3 rfl ?_ rfl rfl hH rfl rfl rfl rfl rfl ?_; (focus (first | exact wN rfl | exact rfl))) | (refine hSR tab_ok 0 rfl ?_ rfl rfl hH rfl rfl rfl rfl rfl ?_ ?_; (focus (first | exact wN rfl | exact rfl)); (focus (repeat (first | exact trivial | assumption | exact OkA.z (by kernel_rfl) (by kernel_rfl) | refine ⟨rfl, ?_⟩ | refine ⟨?_, ?_⟩)))) | (refine hSR tab_ok 1 rfl ?_ rfl rfl hH rfl rfl rfl rfl rfl ?_ ?_; (focus (first | exact wN rfl | exact rfl)); (focus (repeat (first | exact trivial | assumption | exact OkA.z (by kernel_rfl) (by kernel_rfl) | refine ⟨rfl, ?_⟩ | refine ⟨?_, ?_⟩)))) | (refine hSR tab_ok 2 rfl ?_ rfl rfl hH rfl rfl rfl rfl rfl ?_ ?_; (focus (first | exact wN rfl | exact rfl)); (focus (repeat (first | exact trivial | assumption | exact OkA.z (by kernel_rfl) (by kernel_rfl) | refine ⟨rfl, ?_⟩ | refine ⟨?_, ?_⟩)))) | (refine hSR tab_ok 3 rfl ?_ rfl rfl hH rfl rfl rfl rfl rfl ?_ ?_; (focus (first | exact wN rfl | exact rfl)); (focus (repeat (first | exact trivial | assumption | exact OkA.z (by kernel_rfl) (by kernel_rfl) | refine ⟨rfl, ?_⟩ | refine ⟨?_, ?_⟩))))) | (refine hAl tab_ok rfl ?_ hH rfl ?_; (focus (first | exact wN rfl | exact rfl))) | (refine hBx1 rfl ?_ rfl hH ?_; (focus (first | exact wN rfl | exact rfl))) | (refine hBx rfl ?_ rfl hH ?_ ?_; (focus (first | exact wN rfl | exact rfl)); (focus (repeat (first | exact trivial | assumption | exact OkA.z (by kernel_rfl) (by kernel_rfl) | refine ⟨rfl, ?_⟩ | refine ⟨?_, ?_⟩)))) | (refine hBd tab_ok rfl ?_ rfl rfl rfl hH ?_; (focus (first | exact wN rfl | exact rfl)); refine ⟨?_, ?_, ?_⟩; rotate_left; (focus (repeat (first | exact BR.nil | refine BR.one rfl rfl rfl ?_ | (refine BR.row rfl rfl rfl rfl ?_ ?_; (focus (repeat (first | exact trivial | assumption | exact OkA.z (by kernel_rfl) (by kernel_rfl) | refine ⟨rfl, ?_⟩ | refine ⟨?_, ?_⟩)))))))) | ((with_reducible refine callH hH ?_); refine ⟨?_, ?_, ?_⟩; rotate_left; (focus (first | (with_reducible exact hr _) | (with_reducible exact hg _) | (with_reducible exact hu _))))); clear hH; (first | intro W g hH | intro W hH); (try simp only [Act.put, List.setIfInBounds_toArray, List.set_cons_succ, List.set_cons_zero])))
  ((with_reducible refine regQ hH (by kernel_rfl) (by kernel_rfl) ?_); intro hne; (repeat (first | (go_big_quiet_want; (first | (refine gQ rfl ?_; first | refine qL1 tab_ok 0 rfl rfl rfl rfl rfl rfl ?_ | refine qL1 tab_ok 1 rfl rfl rfl rfl rfl rfl ?_ | refine qL1 tab_ok 2 rfl rfl rfl rfl rfl rfl ?_ | refine qL1 tab_ok 3 rfl rfl rfl rfl rfl rfl ?_ | refine qLR tab_ok 0 rfl rfl rfl rfl rfl rfl ?_ | refine qLR tab_ok 1 rfl rfl rfl rfl rfl rfl ?_ | refine qLR tab_ok 2 rfl rfl rfl rfl rfl rfl ?_ | refine qLR tab_ok 3 rfl rfl rfl rfl rfl rfl ?_ | (refine qL1i tab_ok 0 rfl rfl rfl rfl rfl rfl ?_; refine ⟨?_, ?_, ?_⟩; rotate_left; (focus assumption)) | (refine qL1i tab_ok 1 rfl rfl rfl rfl rfl rfl ?_; refine ⟨?_, ?_, ?_⟩; rotate_left; (focus assumption)) | (refine qL1i tab_ok 2 rfl rfl rfl rfl rfl rfl ?_; refine ⟨?_, ?_, ?_⟩; rotate_left; (focus assumption)) | (refine qL1i tab_ok 3 rfl rfl rfl rfl rfl rfl ?_; refine ⟨?_, ?_, ?_⟩; rotate_left; (focus assumption))) | (refine qBd tab_ok rfl rfl rfl rfl ?_; refine ⟨?_, ?_, ?_⟩; rotate_left; (focus (repeat (first | exact BR.nil | refine BR.one rfl rfl rfl ?_ | (refine BR.row rfl rfl rfl rfl ?_ ?_; (focus (repeat (first | exact trivial | assumption | exact OkA.z (by kernel_rfl) (by kernel_rfl) | refine ⟨rfl, ?_⟩ | refine ⟨?_, ?_⟩))))))))); (try simp only [Act.put, List.setIfInBounds_toArray, List.set_cons_succ, List.set_cons_zero]); go_big_quiet_on) | go_big_quiet_step (((with_reducible apply callQ); first | (with_reducible exact hp1 _) | (with_reducible exact hp2 _))))); refine wpQuiet_nil ?_; clear hne hH; intro W hH)
  go_wp2_with (first | ((first | (refine gL rfl ?_; first | (refine hL1 tab_ok 0 rfl ?_ rfl hH rfl rfl rfl rfl ?_; (focus (first | exact wN rfl | exact rfl))) | (refine hL1 tab_ok 1 rfl ?_ rfl hH rfl rfl rfl rfl ?_; (focus (first | exact wN rfl | exact rfl))) | (refine hL1 tab_ok 2 rfl ?_ rfl hH rfl rfl rfl rfl ?_; (focus (first | exact wN rfl | exact rfl))) | (refine hL1 tab_ok 3 rfl ?_ rfl hH rfl rfl rfl rfl ?_; (focus (first | exact wN rfl | exact rfl))) | (refine hLR tab_ok 0 rfl ?_ rfl hH rfl rfl rfl rfl ?_; (focus (first | exact wN rfl | exact rfl))) | (refine hLR tab_ok 1 rfl ?_ rfl hH rfl rfl rfl rfl ?_; (focus (first | exact wN rfl | exact rfl))) | (refine hLR tab_ok 2 rfl ?_ rfl hH rfl rfl rfl rfl ?_; (focus (first | exact wN rfl | exact rfl))) | (refine hLR tab_ok 3 rfl ?_ rfl hH rfl rfl rfl rfl ?_; (focus (first | exact wN rfl | exact rfl))) | (refine hL1i tab_ok 0 rfl ?_ rfl hH rfl rfl rfl rfl ?_; (focus (first | exact wN rfl | exact rfl)); refine ⟨?_, ?_, ?_⟩; rotate_left; (focus assumption)) | (refine hL1i tab_ok 1 rfl ?_ rfl hH rfl rfl rfl rfl ?_; (focus (first | exact wN rfl | exact rfl)); refine ⟨?_, ?_, ?_⟩; rotate_left; (focus assumption)) | (refine hL1i tab_ok 2 rfl ?_ rfl hH rfl rfl rfl rfl ?_; (focus (first | exact wN rfl | exact rfl)); refine ⟨?_, ?_, ?_⟩; rotate_left; (focus assumption)) | (refine hL1i tab_ok 3 rfl ?_ rfl hH rfl rfl rfl rfl ?_; (focus (first | exact wN rfl | exact rfl)); refine ⟨?_, ?_, ?_⟩; rotate_left; (focus assumption))) | (refine gS rfl ?_; first | (refine hS1 tab_ok 0 rfl ?_ rfl rfl hH rfl rfl rfl rfl rfl ?_; (focus (first | exact wN rfl | exact rfl))) | (refine hS1 tab_ok 1 rfl ?_ rfl rfl hH rfl rfl rfl rfl rfl ?_; (focus (first | exact wN rfl | exact rfl))) | (refine hS1 tab_ok 2 rfl ?_ rfl rfl hH rfl rfl rfl rfl rfl ?_; (focus (first | exact wN rfl | exact rfl))) | (refine hS1 tab_ok 3 rfl ?_ rfl rfl hH rfl rfl rfl rfl rfl ?_; (focus (first | exact wN rfl | exact rfl))) | (refine hSR tab_ok 0 rfl ?_ rfl rfl hH rfl rfl rfl rfl rfl ?_ ?_; (focus (first | exact wN rfl | exact rfl)); (focus (repeat (first | exact trivial | assumption | exact OkA.z (by kernel_rfl) (by kernel_rfl) | refine ⟨rfl, ?_⟩ | refine ⟨?_, ?_⟩)))) | (refine hSR tab_ok 1 rfl ?_ rfl rfl hH rfl rfl rfl rfl rfl ?_ ?_; (focus (first | exact wN rfl | exact rfl)); (focus (repeat (first | exact trivial | assumption | exact OkA.z (by kernel_rfl) (by kernel_rfl) | refine ⟨rfl, ?_⟩ | refine ⟨?_, ?_⟩)))) | (refine hSR tab_ok 2 rfl ?_ rfl rfl hH rfl rfl rfl rfl rfl ?_ ?_; (focus (first | exact wN rfl | exact rfl)); (focus (repeat (first | exact trivial | assumption | exact OkA.z (by kernel_rfl) (by kernel_rfl) | refine ⟨rfl, ?_⟩ | refine ⟨?_, ?_⟩)))) | (refine hSR tab_ok 3 rfl ?_ rfl rfl hH rfl rfl rfl rfl rfl ?_ ?_; (focus (first | exact wN rfl | exact rfl)); (focus (repeat (first | exact trivial | assumption | exact OkA.z (by kernel_rfl) (by kernel_rfl) | refine ⟨rfl, ?_⟩ | refine ⟨?_, ?_⟩))))) | (refine hAl tab_ok rfl ?_ hH rfl ?_; (focus (first | exact wN rfl | exact rfl))) | (refine hBx1 rfl ?_ rfl hH ?_; (focus (first | exact wN rfl | exact rfl))) | (refine hBx rfl ?_ rfl hH ?_ ?_; (focus (first | exact wN rfl | exact rfl)); (focus (repeat (first | exact trivial | assumption | exact OkA.z (by kernel_rfl) (by kernel_rfl) | refine ⟨rfl, ?_⟩ | refine ⟨?_, ?_⟩)))) | (refine hBd tab_ok rfl ?_ rfl rfl rfl hH ?_; (focus (first | exact wN rfl | exact rfl)); refine ⟨?_, ?_, ?_⟩; rotate_left; (focus (repeat (first | exact BR.nil | refine BR.one rfl rfl rfl ?_ | (refine BR.row rfl rfl rfl rfl ?_ ?_; (focus (repeat (first | exact trivial | assumption | exact OkA.z (by kernel_rfl) (by kernel_rfl) | refine ⟨rfl, ?_⟩ | refine ⟨?_, ?_⟩))))))))); clear hH; (first | intro W g hH | intro W hH); (try simp only [Act.put, List.setIfInBounds_toArray, List.set_cons_succ, List.set_cons_zero])))
  go_ret2
  exact ⟨rfl, hH.below⟩
end
theorem foldN_eq {a b : Nat} (ha : a ≠ 0) (hb : b ≠ 0) (h : a % 65535 = b % 65535) : foldN a = foldN b := by
  unfold foldN
  rw [if_neg ha, if_neg hb]
  omega
theorem drop_app {A B : List UInt8} {n : Nat} (h : A.length = n) : (A ++ B).drop n = B := by rw [← h]; exact List.drop_left
theorem take_app {A B : List UInt8} {n : Nat} (h : A.length = n) : (A ++ B).take n = A := by rw [← h]; exact List.take_left
theorem byteAt1 {n : Nat} (h : n < 256) : (byteAt n 0).toNat = n := by rw [byteAt_toNat]; omega
def aL (v : Bool) (h : Nat) : List UInt8 := [77, if v then 1 else 0, byteAt h 0, 0]
theorem wA_list (v : Bool) (h : Nat) : (wA v h).data.toList = aL v h := by
  unfold wA aL
  simp only [toList_append, str_toList]
  cases v <;> rfl
set_option maxRecDepth 100000 in
theorem wsum_aL (v : Bool) (h : Nat) (hh : h < 256) (X : List UInt8) : wsum (aL v h ++ X) = 77 * 256 + (if v then 1 else 0) + h * 256 + wsum X := by
  rw [wsum_append (show (aL v h).length % 2 = 0 by simp [aL])]
  have : wsum (aL v h) = 77 * 256 + (if v then 1 else 0) + h * 256 := by
    unfold aL
    simp only [wsum, byteAt1 hh]
    cases v <;> simp <;> omega
  omega
def ckT (v : Bool) (h : Nat) (B : ByteArray) : Nat := 65535 - foldN (wsum (flat [wA v h, B]))
theorem ckT_lt (v : Bool) (h : Nat) (B : ByteArray) : ckT v h B < 65536 := by unfold ckT; omega
set_option maxRecDepth 100000 in
theorem ckT_upd {v : Bool} {h : Nat} {B : ByteArray} (h1 : 1 ≤ h) (h2 : h < 256) : updN (ckT v h B : Int) ((h : Int) * 256) ((h : Int) * 256 - 256) = ckT v (h - 1) B := by
  unfold updN ckT
  have f1 : flat [wA v h, B] = aL v h ++ B.data.toList := by simp [flat, wA_list]
  have f2 : flat [wA v (h - 1), B] = aL v (h - 1) ++ B.data.toList := by simp [flat, wA_list]
  rw [f1, f2, wsum_aL v h h2, wsum_aL v (h - 1) (by omega)]
  rw [cutN_nat (by omega), show (h : Int) * 256 - 256 = ((h * 256 - 256 : Nat) : Int) by omega, show (h : Int) * 256 = ((h * 256 : Nat) : Int) by omega, cutN_nat (by omega), cutN_nat (by omega)]
  generalize wsum B.data.toList = R
  have hv : (if v then 1 else 0 : Nat) ≤ 1 := by split <;> omega
  generalize (if v then 1 else 0 : Nat) = v1 at *
  congr 1
  generalize hX : 77 * 256 + v1 + h * 256 + R = X
  have hF := foldN_le X
  have hm : foldN X % 65535 = X % 65535 := by unfold foldN; split <;> omega
  refine foldN_eq (by omega) (by omega) ?_
  omega
theorem hop36_w {s : ByteArray} (he : errT s = 0) (hh : 1 ≤ by6 s 2) : hop36 s = wT { tOf s with hop := ((by6 s 2 - 1 : Nat) : Int) } := by
  have h20 := errT_size he
  have hw := (tnOf_good s he).2
  rw [tnOf_ok0 he] at hw
  have l2 := by6_lt s 2
  have hB : ∃ B, wB (tOf s).ver (tOf s).vlan.toNat (tOf s).v (tOf s).l (tOf s).root.toNat (tOf s).b = B := ⟨_, rfl⟩
  obtain ⟨B, hB⟩ := hB
  have w1 : wT (tOf s) = wA (tOf s).v (by6 s 2) ++ str (putL (ckT (tOf s).v (by6 s 2) B) 2) ++ B := by rw [← hB]; rfl
  have w2 : wT { tOf s with hop := ((by6 s 2 - 1 : Nat) : Int) } = wA (tOf s).v (by6 s 2 - 1) ++ str (putL (ckT (tOf s).v (by6 s 2 - 1) B) 2) ++ B := by rw [← hB]; rfl
  rw [w1] at hw
  rw [w2]
  have hu := ckT_upd (v := (tOf s).v) (B := B) hh l2
  generalize (tOf s).v = v at *
  generalize hb : by6 s 2 = h at *
  have hc := ckT_lt v h B
  generalize ckT v h B = c at *
  generalize ckT v (h - 1) B = c2 at *
  have hl : s.data.toList = aL v h ++ (putL c 2 ++ B.data.toList) := by rw [← hw]; simp [toList_append, wA_list]
  have hn : numAt s 4 2 = c := by
    unfold numAt
    rw [hl, drop_app (n := 4) (by simp [aL]), take_app (putL_length _ _), numL_putL]
    omega
  have hz : s.size = 6 + B.size := by rw [← size_toList, hl]; simp [size_toList, putL_length, aL]; omega
  have hnx : nx36 s = c2 := by unfold nx36; rw [hn, hb]; exact hu
  rw [← str_of (hop36 s), ← str_of (wA v (h - 1) ++ str (putL c2 2) ++ B)]
  congr 1
  unfold hop36
  rw [hnx, hb]
  simp only [toList_append, toList_extract, str_toList, wA_list, hz]
  have d6 : s.data.toList.drop 6 = B.data.toList := by rw [hl, ← List.append_assoc]; exact drop_app (by simp [putL_length, aL])
  rw [d6, hl]
  have : (B.data.toList.take (6 + B.size - 6)) = B.data.toList := List.take_of_length_le (by rw [size_toList]; omega)
  rw [this]
  simp [aL]
  rfl
end Go.Proofs.Ytkkmfcnnnfhmnaa

/-
  'Ip4Hops': any packet one hop further, or why there is none: the contract and the law.
-/
import Derived.Test.YtcijplfamodjaaaIp4h
namespace Go.Proofs.Ytcijplfamodjaaa
open Go.ChangeShapes Go.WideShapes Go.ChangeAt Go.RowKit
set_option linter.unusedVariables false
set_option linter.unusedSimpArgs false

section
variable {s : ByteArray} {w : World}
theorem p4_segs (p : P4) : p.L.toArray = (fls [.one (.int .i64 p.tos), .one (.int .i64 p.id), .one (.int .i64 p.ttl), .one (.int .i64 p.proto), .many (addrL p.va p.la) 17, .many (addrL p.vb p.lb) 17, .one (.bool p.al), .one (.string p.b)]).toArray := rfl
theorem Hop4_err {e : Int} (hs : s.size ≤ 100000) (he : err4 s = e) (hn : e ≠ 0) : Gives Try.prog 12 #[.string s] w (.tuple #[.string ⟨#[]⟩, .int .i64 e]) := by
  have hr : ∀ w, Gives Try.prog 17 #[.string s] w (.tuple #[.agg (p4Of s).L.toArray, .int .i64 (err4 s)]) := fun w => read4_any hs
  have ok := p4Of_ok s
  have oA := okA_addr (v := (p4Of s).va) ok.a
  have oB := okA_addr (v := (p4Of s).vb) ok.b
  rw [he, p4_segs] at hr
  generalize addrL (p4Of s).va (p4Of s).la = A at *
  generalize addrL (p4Of s).vb (p4Of s).lb = C at *
  generalize (p4Of s).tos = x1 at *
  generalize (p4Of s).id = x2 at *
  generalize (p4Of s).ttl = x3 at *
  generalize (p4Of s).proto = x4 at *
  generalize (p4Of s).al = x5 at *
  generalize (p4Of s).b = x6 at *
  have hd : (e != 0) = true := by simpa using hn
  clear he hn ok
  refine Gives.of ?_
  have hH := Hp.refl w
  go_enter Try.func12, Try.ntmps12
  go_wp2_with (first | ((first | (refine gL rfl ?_; first | refine hL1 tab_ok 0 rfl rfl rfl hH rfl rfl rfl rfl ?_ | refine hL1 tab_ok 1 rfl rfl rfl hH rfl rfl rfl rfl ?_ | refine hL1 tab_ok 2 rfl rfl rfl hH rfl rfl rfl rfl ?_ | refine hL1 tab_ok 3 rfl rfl rfl hH rfl rfl rfl rfl ?_ | refine hLR tab_ok 0 rfl rfl rfl hH rfl rfl rfl rfl ?_ | refine hLR tab_ok 1 rfl rfl rfl hH rfl rfl rfl rfl ?_ | refine hLR tab_ok 2 rfl rfl rfl hH rfl rfl rfl rfl ?_ | refine hLR tab_ok 3 rfl rfl rfl hH rfl rfl rfl rfl ?_ | (refine hL1i tab_ok 0 rfl rfl rfl hH rfl rfl rfl rfl ?_; refine ⟨?_, ?_, ?_⟩; rotate_left; (focus assumption)) | (refine hL1i tab_ok 1 rfl rfl rfl hH rfl rfl rfl rfl ?_; refine ⟨?_, ?_, ?_⟩; rotate_left; (focus assumption)) | (refine hL1i tab_ok 2 rfl rfl rfl hH rfl rfl rfl rfl ?_; refine ⟨?_, ?_, ?_⟩; rotate_left; (focus assumption)) | (refine hL1i tab_ok 3 rfl rfl rfl hH rfl rfl rfl rfl ?_; refine ⟨?_, ?_, ?_⟩; rotate_left; (focus assumption))) | (refine gS rfl ?_; first | refine hS1 tab_ok 0 rfl rfl rfl rfl hH rfl rfl rfl rfl rfl ?_ | refine hS1 tab_ok 1 rfl rfl rfl rfl hH rfl rfl rfl rfl rfl ?_ | refine hS1 tab_ok 2 rfl rfl rfl rfl hH rfl rfl rfl rfl rfl ?_ | refine hS1 tab_ok 3 rfl rfl rfl rfl hH rfl rfl rfl rfl rfl ?_ | (refine hSR tab_ok 0 rfl rfl rfl rfl hH rfl rfl rfl rfl rfl ?_ ?_; (focus (repeat (first | exact trivial | assumption | exact OkA.z (by kernel_rfl) (by kernel_rfl) | refine ⟨rfl, ?_⟩ | refine ⟨?_, ?_⟩)))) | (refine hSR tab_ok 1 rfl rfl rfl rfl hH rfl rfl rfl rfl rfl ?_ ?_; (focus (repeat (first | exact trivial | assumption | exact OkA.z (by kernel_rfl) (by kernel_rfl) | refine ⟨rfl, ?_⟩ | refine ⟨?_, ?_⟩)))) | (refine hSR tab_ok 2 rfl rfl rfl rfl hH rfl rfl rfl rfl rfl ?_ ?_; (focus (repeat (first | exact trivial | assumption | exact OkA.z (by kernel_rfl) (by kernel_rfl) | refine ⟨rfl, ?_⟩ | refine ⟨?_, ?_⟩)))) | (refine hSR tab_ok 3 rfl rfl rfl rfl hH rfl rfl rfl rfl rfl ?_ ?_; (focus (repeat (first | exact trivial | assumption | exact OkA.z (by kernel_rfl) (by kernel_rfl) | refine ⟨rfl, ?_⟩ | refine ⟨?_, ?_⟩))))) | refine hAl tab_ok rfl rfl hH rfl ?_ | refine hBx1 rfl rfl rfl hH ?_ | (refine hBx rfl rfl rfl hH ?_ ?_; (focus (repeat (first | exact trivial | assumption | exact OkA.z (by kernel_rfl) (by kernel_rfl) | refine ⟨rfl, ?_⟩ | refine ⟨?_, ?_⟩)))) | (refine hBd tab_ok rfl rfl rfl rfl rfl hH ?_; refine ⟨?_, ?_, ?_⟩; rotate_left; (focus (repeat (first | exact BR.nil | refine BR.one rfl rfl rfl ?_ | (refine BR.row rfl rfl rfl rfl ?_ ?_; (focus (repeat (first | exact trivial | assumption | exact OkA.z (by kernel_rfl) (by kernel_rfl) | refine ⟨rfl, ?_⟩ | refine ⟨?_, ?_⟩)))))))) | ((with_reducible refine callH hH ?_); refine ⟨?_, ?_, ?_⟩; rotate_left; (focus (first | (with_reducible exact hr _))))); clear hH; (first | intro W g hH | intro W hH); (try simp only [Act.put, List.setIfInBounds_toArray, List.set_cons_succ, List.set_cons_zero])))
  go_ret2
  exact ⟨rfl, hH.below⟩
theorem Hop4_none (hs : s.size ≤ 100000) (he : err4 s = 0) (ht : by4 s 8 = 0) : Gives Try.prog 12 #[.string s] w (.tuple #[.string ⟨#[]⟩, .int .i64 8]) := by
  have hr : ∀ w, Gives Try.prog 17 #[.string s] w (.tuple #[.agg (p4Of s).L.toArray, .int .i64 (err4 s)]) := fun w => read4_any hs
  have ok := p4Of_ok s
  have oA := okA_addr (v := (p4Of s).va) ok.a
  have oB := okA_addr (v := (p4Of s).vb) ok.b
  have h3 : (p4Of s).ttl = 0 := by unfold p4Of; rw [if_neg (by rw [he]; simp), ht]; rfl
  rw [he, p4_segs, h3] at hr
  generalize addrL (p4Of s).va (p4Of s).la = A at *
  generalize addrL (p4Of s).vb (p4Of s).lb = C at *
  generalize (p4Of s).tos = x1 at *
  generalize (p4Of s).id = x2 at *
  generalize (p4Of s).proto = x4 at *
  generalize (p4Of s).al = x5 at *
  generalize (p4Of s).b = x6 at *
  clear he h3 ok ht
  refine Gives.of ?_
  have hH := Hp.refl w
  go_enter Try.func12, Try.ntmps12
  go_wp2_with (first | ((first | (refine gL rfl ?_; first | refine hL1 tab_ok 0 rfl rfl rfl hH rfl rfl rfl rfl ?_ | refine hL1 tab_ok 1 rfl rfl rfl hH rfl rfl rfl rfl ?_ | refine hL1 tab_ok 2 rfl rfl rfl hH rfl rfl rfl rfl ?_ | refine hL1 tab_ok 3 rfl rfl rfl hH rfl rfl rfl rfl ?_ | refine hLR tab_ok 0 rfl rfl rfl hH rfl rfl rfl rfl ?_ | refine hLR tab_ok 1 rfl rfl rfl hH rfl rfl rfl rfl ?_ | refine hLR tab_ok 2 rfl rfl rfl hH rfl rfl rfl rfl ?_ | refine hLR tab_ok 3 rfl rfl rfl hH rfl rfl rfl rfl ?_ | (refine hL1i tab_ok 0 rfl rfl rfl hH rfl rfl rfl rfl ?_; refine ⟨?_, ?_, ?_⟩; rotate_left; (focus assumption)) | (refine hL1i tab_ok 1 rfl rfl rfl hH rfl rfl rfl rfl ?_; refine ⟨?_, ?_, ?_⟩; rotate_left; (focus assumption)) | (refine hL1i tab_ok 2 rfl rfl rfl hH rfl rfl rfl rfl ?_; refine ⟨?_, ?_, ?_⟩; rotate_left; (focus assumption)) | (refine hL1i tab_ok 3 rfl rfl rfl hH rfl rfl rfl rfl ?_; refine ⟨?_, ?_, ?_⟩; rotate_left; (focus assumption))) | (refine gS rfl ?_; first | refine hS1 tab_ok 0 rfl rfl rfl rfl hH rfl rfl rfl rfl rfl ?_ | refine hS1 tab_ok 1 rfl rfl rfl rfl hH rfl rfl rfl rfl rfl ?_ | refine hS1 tab_ok 2 rfl rfl rfl rfl hH rfl rfl rfl rfl rfl ?_ | refine hS1 tab_ok 3 rfl rfl rfl rfl hH rfl rfl rfl rfl rfl ?_ | (refine hSR tab_ok 0 rfl rfl rfl rfl hH rfl rfl rfl rfl rfl ?_ ?_; (focus (repeat (first | exact trivial | assumption | exact OkA.z (by kernel_rfl) (by kernel_rfl) | refine ⟨rfl, ?_⟩ | refine ⟨?_, ?_⟩)))) | (refine hSR tab_ok 1 rfl rfl rfl rfl hH rfl rfl rfl rfl rfl ?_ ?_; (focus (repeat (first | exact trivial | assumption | exact OkA.z (by kernel_rfl) (by kernel_rfl) | refine ⟨rfl, ?_⟩ | refine ⟨?_, ?_⟩)))) | (refine hSR tab_ok 2 rfl rfl rfl rfl hH rfl rfl rfl rfl rfl ?_ ?_; (focus (repeat (first | exact trivial | assumption | exact OkA.z (by kernel_rfl) (by kernel_rfl) | refine ⟨rfl, ?_⟩ | refine ⟨?_, ?_⟩)))) | (refine hSR tab_ok 3 rfl rfl rfl rfl hH rfl rfl rfl rfl rfl ?_ ?_; (focus (repeat (first | exact trivial | assumption | exact OkA.z (by kernel_rfl) (by kernel_rfl) | refine ⟨rfl, ?_⟩ | refine ⟨?_, ?_⟩))))) | refine hAl tab_ok rfl rfl hH rfl ?_ | refine hBx1 rfl rfl rfl hH ?_ | (refine hBx rfl rfl rfl hH ?_ ?_; (focus (repeat (first | exact trivial | assumption | exact OkA.z (by kernel_rfl) (by kernel_rfl) | refine ⟨rfl, ?_⟩ | refine ⟨?_, ?_⟩)))) | (refine hBd tab_ok rfl rfl rfl rfl rfl hH ?_; refine ⟨?_, ?_, ?_⟩; rotate_left; (focus (repeat (first | exact BR.nil | refine BR.one rfl rfl rfl ?_ | (refine BR.row rfl rfl rfl rfl ?_ ?_; (focus (repeat (first | exact trivial | assumption | exact OkA.z (by kernel_rfl) (by kernel_rfl) | refine ⟨rfl, ?_⟩ | refine ⟨?_, ?_⟩)))))))) | ((with_reducible refine callH hH ?_); refine ⟨?_, ?_, ?_⟩; rotate_left; (focus (first | (with_reducible exact hr _))))); clear hH; (first | intro W g hH | intro W hH); (try simp only [Act.put, List.setIfInBounds_toArray, List.set_cons_succ, List.set_cons_zero])))
  go_ret2
  exact ⟨rfl, hH.below⟩
set_option maxRecDepth 100000 in
set_option maxHeartbeats 2000000 in
theorem Hop4_ok (hs : s.size ≤ 100000) (he : err4 s = 0) (ht : 1 ≤ by4 s 8) : Gives Try.prog 12 #[.string s] w (.tuple #[.string (hop4 s), .int .i64 0]) := by
  have hr : ∀ w, Gives Try.prog 17 #[.string s] w (.tuple #[.agg (p4Of s).L.toArray, .int .i64 (err4 s)]) := fun w => read4_any hs
  have ok := p4Of_ok s
  have oA := okA_addr (v := (p4Of s).va) ok.a
  have oB := okA_addr (v := (p4Of s).vb) ok.b
  have hz : sz4 s = 0 := by
    apply Classical.byContradiction
    intro h1
    have h := he
    unfold err4 at h
    rw [if_pos h1] at h; exact h1 h
  have k1 := (sz4_ok hz).1
  have h3 : (p4Of s).ttl = (by4 s 8 : Int) := by unfold p4Of; rw [if_neg (by rw [he]; simp)]
  have h4 : (p4Of s).proto = (by4 s 9 : Int) := by unfold p4Of; rw [if_neg (by rw [he]; simp)]
  rw [he, p4_segs, h3, h4] at hr
  generalize addrL (p4Of s).va (p4Of s).la = A at *
  generalize addrL (p4Of s).vb (p4Of s).lb = C at *
  generalize (p4Of s).tos = x1 at *
  generalize (p4Of s).id = x2 at *
  generalize (p4Of s).al = x5 at *
  generalize (p4Of s).b = x6 at *
  have l8 := by4_lt s 8
  have l9 := by4_lt s 9
  have l10 := by4_lt s 10
  have l11 := by4_lt s 11
  have hg : ∀ w, Gives Try.prog 23 #[.string s, .int .i64 10, .int .i64 2] w (.tuple #[.int .u64 ((by4 s 10 * 256 + by4 s 11 : Nat) : Int), .int .i64 0]) := fun w => by
    have h := get_any (s := s) (i := 10) (m := 2) (w := w) (by omega) (by omega) (by omega)
    have e := numL_two (s := s) (i := 10) (by omega)
    rw [toList_extract] at e
    rw [show (12 : Nat) - 10 = 2 from rfl] at e
    rwa [e] at h
  have hor := i64_or8 (by4 s 8) (by4 s 9) (by omega) (by omega)
  have hu : ∀ w, Gives Try.prog 24 #[.int .i64 ((by4 s 10 * 256 + by4 s 11 : Nat) : Int), .int .i64 ((by4 s 8 * 256 + by4 s 9 : Nat) : Int), .int .i64 (((by4 s 8 * 256 + by4 s 9 : Nat) : Int) - 256)] w (.int .i64 (nx4 s : Int)) := fun w => Update_any
  have hp1 : ∀ w, Gives Try.prog 25 #[.int .i64 ((by4 s 8 : Int) - 1), .int .i64 1] w (.string (str (putL (by4 s 8 - 1) 1))) := fun w => by
    have := put4_any (n := by4 s 8 - 1) (k := 1) (w := w) (by omega) (by omega)
    rwa [show ((by4 s 8 - 1 : Nat) : Int) = (by4 s 8 : Int) - 1 by omega] at this
  have hnx := nx4_lt s
  have hp2 : ∀ w, Gives Try.prog 25 #[.int .i64 (nx4 s : Int), .int .i64 2] w (.string (str (putL (nx4 s) 2))) := fun w => put4_any (n := nx4 s) (k := 2) (by omega) (by omega)
  have n1 := str_size (putL (by4 s 8 - 1) 1)
  have n2 := str_size (putL (nx4 s) 2)
  rw [putL_length] at n1 n2
  have e1 : (s.extract 0 8).size ≤ 100000 := by rw [extract_size (by omega) (by omega)]; omega
  have e2 : (s.extract 9 10).size ≤ 100000 := by rw [extract_size (by omega) (by omega)]; omega
  have e3 : (s.extract 12 s.size).size ≤ 100000 := by rw [extract_size (by omega) (by omega)]; omega
  have hT := Lib.hid (show hop4 s = s.extract 0 8 ++ str (putL (by4 s 8 - 1) 1) ++ s.extract 9 10 ++ str (putL (nx4 s) 2) ++ s.extract 12 s.size from rfl)
  rw [hT.out]
  clear he h3 h4 ok hz hT
  generalize str (putL (by4 s 8 - 1) 1) = P1 at *
  generalize str (putL (nx4 s) 2) = P2 at *
  generalize nx4 s = nx at *
  generalize hold : by4 s 8 * 256 + by4 s 9 = old at *
  generalize hwas : by4 s 10 * 256 + by4 s 11 = was at *
  generalize hb8 : by4 s 8 = t8 at *
  generalize hb9 : by4 s 9 = t9 at *
  have ho : old < 65536 ∧ 256 ≤ old := by omega
  have hw2 : was < 65536 := by omega
  have HD := Lib.hid (show (t8 != 0) = true by simp; omega)
  have hd : ((t8 : Int) == 0) = false := by simp; omega
  clear hold hwas hb8 hb9 l10 l11
  refine Gives.of ?_
  have hH := Hp.refl w
  go_enter Try.func12, Try.ntmps12
  go_wp2_with (first | ((first | (refine gL rfl ?_; first | refine hL1 tab_ok 0 rfl rfl rfl hH rfl rfl rfl rfl ?_ | refine hL1 tab_ok 1 rfl rfl rfl hH rfl rfl rfl rfl ?_ | refine hL1 tab_ok 2 rfl rfl rfl hH rfl rfl rfl rfl ?_ | refine hL1 tab_ok 3 rfl rfl rfl hH rfl rfl rfl rfl ?_ | refine hLR tab_ok 0 rfl rfl rfl hH rfl rfl rfl rfl ?_ | refine hLR tab_ok 1 rfl rfl rfl hH rfl rfl rfl rfl ?_ | refine hLR tab_ok 2 rfl rfl rfl hH rfl rfl rfl rfl ?_ | refine hLR tab_ok 3 rfl rfl rfl hH rfl rfl rfl rfl ?_ | (refine hL1i tab_ok 0 rfl rfl rfl hH rfl rfl rfl rfl ?_; refine ⟨?_, ?_, ?_⟩; rotate_left; (focus assumption)) | (refine hL1i tab_ok 1 rfl rfl rfl hH rfl rfl rfl rfl ?_; refine ⟨?_, ?_, ?_⟩; rotate_left; (focus assumption)) | (refine hL1i tab_ok 2 rfl rfl rfl hH rfl rfl rfl rfl ?_; refine ⟨?_, ?_, ?_⟩; rotate_left; (focus assumption)) | (refine hL1i tab_ok 3 rfl rfl rfl hH rfl rfl rfl rfl ?_; refine ⟨?_, ?_, ?_⟩; rotate_left; (focus assumption))) | (refine gS rfl ?_; first | refine hS1 tab_ok 0 rfl rfl rfl rfl hH rfl rfl rfl rfl rfl ?_ | refine hS1 tab_ok 1 rfl rfl rfl rfl hH rfl rfl rfl rfl rfl ?_ | refine hS1 tab_ok 2 rfl rfl rfl rfl hH rfl rfl rfl rfl rfl ?_ | refine hS1 tab_ok 3 rfl rfl rfl rfl hH rfl rfl rfl rfl rfl ?_ | (refine hSR tab_ok 0 rfl rfl rfl rfl hH rfl rfl rfl rfl rfl ?_ ?_; (focus (repeat (first | exact trivial | assumption | exact OkA.z (by kernel_rfl) (by kernel_rfl) | refine ⟨rfl, ?_⟩ | refine ⟨?_, ?_⟩)))) | (refine hSR tab_ok 1 rfl rfl rfl rfl hH rfl rfl rfl rfl rfl ?_ ?_; (focus (repeat (first | exact trivial | assumption | exact OkA.z (by kernel_rfl) (by kernel_rfl) | refine ⟨rfl, ?_⟩ | refine ⟨?_, ?_⟩)))) | (refine hSR tab_ok 2 rfl rfl rfl rfl hH rfl rfl rfl rfl rfl ?_ ?_; (focus (repeat (first | exact trivial | assumption | exact OkA.z (by kernel_rfl) (by kernel_rfl) | refine ⟨rfl, ?_⟩ | refine ⟨?_, ?_⟩)))) | (refine hSR tab_ok 3 rfl rfl rfl rfl hH rfl rfl rfl rfl rfl ?_ ?_; (focus (repeat (first | exact trivial | assumption | exact OkA.z (by kernel_rfl) (by kernel_rfl) | refine ⟨rfl, ?_⟩ | refine ⟨?_, ?_⟩))))) | refine hAl tab_ok rfl rfl hH rfl ?_ | refine hBx1 rfl rfl rfl hH ?_ | (refine hBx rfl rfl rfl hH ?_ ?_; (focus (repeat (first | exact trivial | assumption | exact OkA.z (by kernel_rfl) (by kernel_rfl) | refine ⟨rfl, ?_⟩ | refine ⟨?_, ?_⟩)))) | (refine hBd tab_ok rfl rfl rfl rfl rfl hH ?_; refine ⟨?_, ?_, ?_⟩; rotate_left; (focus (repeat (first | exact BR.nil | refine BR.one rfl rfl rfl ?_ | (refine BR.row rfl rfl rfl rfl ?_ ?_; (focus (repeat (first | exact trivial | assumption | exact OkA.z (by kernel_rfl) (by kernel_rfl) | refine ⟨rfl, ?_⟩ | refine ⟨?_, ?_⟩)))))))) | ((with_reducible refine callH hH ?_); refine ⟨?_, ?_, ?_⟩; rotate_left; (focus (first | (with_reducible exact hr _) | (with_reducible exact hg _) | (with_reducible exact hu _))))); clear hH; (first | intro W g hH | intro W hH); (try simp only [Act.put, List.setIfInBounds_toArray, List.set_cons_succ, List.set_cons_zero])))
  ((with_reducible refine regQ hH (by kernel_rfl) (by kernel_rfl) ?_); intro hne; (repeat (first | (go_big_quiet_want; (first | (refine gQ rfl ?_; first | refine qL1 tab_ok 0 rfl rfl rfl rfl rfl rfl ?_ | refine qL1 tab_ok 1 rfl rfl rfl rfl rfl rfl ?_ | refine qL1 tab_ok 2 rfl rfl rfl rfl rfl rfl ?_ | refine qL1 tab_ok 3 rfl rfl rfl rfl rfl rfl ?_ | refine qLR tab_ok 0 rfl rfl rfl rfl rfl rfl ?_ | refine qLR tab_ok 1 rfl rfl rfl rfl rfl rfl ?_ | refine qLR tab_ok 2 rfl rfl rfl rfl rfl rfl ?_ | refine qLR tab_ok 3 rfl rfl rfl rfl rfl rfl ?_ | (refine qL1i tab_ok 0 rfl rfl rfl rfl rfl rfl ?_; refine ⟨?_, ?_, ?_⟩; rotate_left; (focus assumption)) | (refine qL1i tab_ok 1 rfl rfl rfl rfl rfl rfl ?_; refine ⟨?_, ?_, ?_⟩; rotate_left; (focus assumption)) | (refine qL1i tab_ok 2 rfl rfl rfl rfl rfl rfl ?_; refine ⟨?_, ?_, ?_⟩; rotate_left; (focus assumption)) | (refine qL1i tab_ok 3 rfl rfl rfl rfl rfl rfl ?_; refine ⟨?_, ?_, ?_⟩; rotate_left; (focus assumption))) | (refine qBd tab_ok rfl rfl rfl rfl ?_; refine ⟨?_, ?_, ?_⟩; rotate_left; (focus (repeat (first | exact BR.nil | refine BR.one rfl rfl rfl ?_ | (refine BR.row rfl rfl rfl rfl ?_ ?_; (focus (repeat (first | exact trivial | assumption | exact OkA.z (by kernel_rfl) (by kernel_rfl) | refine ⟨rfl, ?_⟩ | refine ⟨?_, ?_⟩))))))))); (try simp only [Act.put, List.setIfInBounds_toArray, List.set_cons_succ, List.set_cons_zero]); go_big_quiet_on) | go_big_quiet_step (((with_reducible apply callQ); first | (with_reducible exact hp1 _) | (with_reducible exact hp2 _))))); refine wpQuiet_nil ?_; clear hne hH; intro W hH)
  go_wp2_with (first | ((first | (refine gL rfl ?_; first | refine hL1 tab_ok 0 rfl rfl rfl hH rfl rfl rfl rfl ?_ | refine hL1 tab_ok 1 rfl rfl rfl hH rfl rfl rfl rfl ?_ | refine hL1 tab_ok 2 rfl rfl rfl hH rfl rfl rfl rfl ?_ | refine hL1 tab_ok 3 rfl rfl rfl hH rfl rfl rfl rfl ?_ | refine hLR tab_ok 0 rfl rfl rfl hH rfl rfl rfl rfl ?_ | refine hLR tab_ok 1 rfl rfl rfl hH rfl rfl rfl rfl ?_ | refine hLR tab_ok 2 rfl rfl rfl hH rfl rfl rfl rfl ?_ | refine hLR tab_ok 3 rfl rfl rfl hH rfl rfl rfl rfl ?_ | (refine hL1i tab_ok 0 rfl rfl rfl hH rfl rfl rfl rfl ?_; refine ⟨?_, ?_, ?_⟩; rotate_left; (focus assumption)) | (refine hL1i tab_ok 1 rfl rfl rfl hH rfl rfl rfl rfl ?_; refine ⟨?_, ?_, ?_⟩; rotate_left; (focus assumption)) | (refine hL1i tab_ok 2 rfl rfl rfl hH rfl rfl rfl rfl ?_; refine ⟨?_, ?_, ?_⟩; rotate_left; (focus assumption)) | (refine hL1i tab_ok 3 rfl rfl rfl hH rfl rfl rfl rfl ?_; refine ⟨?_, ?_, ?_⟩; rotate_left; (focus assumption))) | (refine gS rfl ?_; first | refine hS1 tab_ok 0 rfl rfl rfl rfl hH rfl rfl rfl rfl rfl ?_ | refine hS1 tab_ok 1 rfl rfl rfl rfl hH rfl rfl rfl rfl rfl ?_ | refine hS1 tab_ok 2 rfl rfl rfl rfl hH rfl rfl rfl rfl rfl ?_ | refine hS1 tab_ok 3 rfl rfl rfl rfl hH rfl rfl rfl rfl rfl ?_ | (refine hSR tab_ok 0 rfl rfl rfl rfl hH rfl rfl rfl rfl rfl ?_ ?_; (focus (repeat (first | exact trivial | assumption | exact OkA.z (by kernel_rfl) (by kernel_rfl) | refine ⟨rfl, ?_⟩ | refine ⟨?_, ?_⟩)))) | (refine hSR tab_ok 1 rfl rfl rfl rfl hH rfl rfl rfl rfl rfl ?_ ?_; (focus (repeat (first | exact trivial | assumption | exact OkA.z (by kernel_rfl) (by kernel_rfl) | refine ⟨rfl, ?_⟩ | refine ⟨?_, ?_⟩)))) | (refine hSR tab_ok 2 rfl rfl rfl rfl hH rfl rfl rfl rfl rfl ?_ ?_; (focus (repeat (first | exact trivial | assumption | exact OkA.z (by kernel_rfl) (by kernel_rfl) | refine ⟨rfl, ?_⟩ | refine ⟨?_, ?_⟩)))) | (refine hSR tab_ok 3 rfl rfl rfl rfl hH rfl rfl rfl rfl rfl ?_ ?_; (focus (repeat (first | exact trivial | assumption | exact OkA.z (by kernel_rfl) (by kernel_rfl) | refine ⟨rfl, ?_⟩ | refine ⟨?_, ?_⟩))))) | refine hAl tab_ok rfl rfl hH rfl ?_ | refine hBx1 rfl rfl rfl hH ?_ | (refine hBx rfl rfl rfl hH ?_ ?_; (focus (repeat (first | exact trivial | assumption | exact OkA.z (by kernel_rfl) (by kernel_rfl) | refine ⟨rfl, ?_⟩ | refine ⟨?_, ?_⟩)))) | (refine hBd tab_ok rfl rfl rfl rfl rfl hH ?_; refine ⟨?_, ?_, ?_⟩; rotate_left; (focus (repeat (first | exact BR.nil | refine BR.one rfl rfl rfl ?_ | (refine BR.row rfl rfl rfl rfl ?_ ?_; (focus (repeat (first | exact trivial | assumption | exact OkA.z (by kernel_rfl) (by kernel_rfl) | refine ⟨rfl, ?_⟩ | refine ⟨?_, ?_⟩))))))))); clear hH; (first | intro W g hH | intro W hH); (try simp only [Act.put, List.setIfInBounds_toArray, List.set_cons_succ, List.set_cons_zero])))
  go_ret2
  exact ⟨rfl, hH.below⟩
end
end Go.Proofs.Ytcijplfamodjaaa

/-
  'Ip4Hops': any packet one hop further, or why there is none: the law.
-/
import Derived.Test.YtcijplfamodjaaaIp4k
namespace Go.Proofs.Ytcijplfamodjaaa
open Go.ChangeShapes Go.WideShapes Go.ChangeAt Go.RowKit
set_option linter.unusedVariables false
set_option linter.unusedSimpArgs false

set_option maxRecDepth 100000 in
set_option maxHeartbeats 4000000 in
theorem hops4_walk {s0 : ByteArray} {w : World} : Gives Try.prog 4 #[.string s0] w (.bool true) := by
  have hX := cut_size4 s0 100
  have kX : ∀ w, Gives Try.prog 7 #[.string s0, .int .i64 100] w (.string (s0.extract 0 100)) := fun w => cut_any
  generalize s0.extract 0 100 = s at *
  have hR : ∀ w, Gives Try.prog 9 #[.string s] w (.tuple #[.agg (p4Of s).L.toArray, .int .i64 (err4 s)]) := fun w => rread4_any (by omega)
  have ok := p4Of_ok s
  have rg := p4Of_rg s (by omega)
  have oA := okA_addr (v := (p4Of s).va) ok.a
  have oB := okA_addr (v := (p4Of s).vb) ok.b
  by_cases he : err4 s = 0
  · have h3 : (p4Of s).ttl = (by4 s 8 : Int) := by unfold p4Of; rw [if_neg (by rw [he]; simp)]
    by_cases ht : by4 s 8 = 0
    · have hh : ∀ w, Gives Try.prog 12 #[.string s] w (.tuple #[.string ⟨#[]⟩, .int .i64 8]) := fun w => Hop4_none (by omega) he ht
      rw [he, p4_segs, h3, ht] at hR
      clear rg ok h3 he ht
      generalize addrL (p4Of s).va (p4Of s).la = A at *
      generalize addrL (p4Of s).vb (p4Of s).lb = C at *
      generalize (p4Of s).tos = x1 at *
      generalize (p4Of s).id = x2 at *
      generalize (p4Of s).proto = x4 at *
      generalize (p4Of s).al = x5 at *
      generalize (p4Of s).b = x6 at *
      refine Gives.of ?_
      have hH := Hp.refl w
      go_enter Try.func4, Try.ntmps4
      go_wp2_with (first | ((first | (refine gL rfl ?_; first | refine hL1 tab_ok 0 rfl rfl rfl hH rfl rfl rfl rfl ?_ | refine hL1 tab_ok 1 rfl rfl rfl hH rfl rfl rfl rfl ?_ | refine hL1 tab_ok 2 rfl rfl rfl hH rfl rfl rfl rfl ?_ | refine hL1 tab_ok 3 rfl rfl rfl hH rfl rfl rfl rfl ?_ | refine hLR tab_ok 0 rfl rfl rfl hH rfl rfl rfl rfl ?_ | refine hLR tab_ok 1 rfl rfl rfl hH rfl rfl rfl rfl ?_ | refine hLR tab_ok 2 rfl rfl rfl hH rfl rfl rfl rfl ?_ | refine hLR tab_ok 3 rfl rfl rfl hH rfl rfl rfl rfl ?_ | (refine hL1i tab_ok 0 rfl rfl rfl hH rfl rfl rfl rfl ?_; refine ⟨?_, ?_, ?_⟩; rotate_left; (focus assumption)) | (refine hL1i tab_ok 1 rfl rfl rfl hH rfl rfl rfl rfl ?_; refine ⟨?_, ?_, ?_⟩; rotate_left; (focus assumption)) | (refine hL1i tab_ok 2 rfl rfl rfl hH rfl rfl rfl rfl ?_; refine ⟨?_, ?_, ?_⟩; rotate_left; (focus assumption)) | (refine hL1i tab_ok 3 rfl rfl rfl hH rfl rfl rfl rfl ?_; refine ⟨?_, ?_, ?_⟩; rotate_left; (focus assumption))) | (refine gS rfl ?_; first | refine hS1 tab_ok 0 rfl rfl rfl rfl hH rfl rfl rfl rfl rfl ?_ | refine hS1 tab_ok 1 rfl rfl rfl rfl hH rfl rfl rfl rfl rfl ?_ | refine hS1 tab_ok 2 rfl rfl rfl rfl hH rfl rfl rfl rfl rfl ?_ | refine hS1 tab_ok 3 rfl rfl rfl rfl hH rfl rfl rfl rfl rfl ?_ | (refine hSR tab_ok 0 rfl rfl rfl rfl hH rfl rfl rfl rfl rfl ?_ ?_; (focus (repeat (first | exact trivial | assumption | exact OkA.z (by kernel_rfl) (by kernel_rfl) | refine ⟨rfl, ?_⟩ | refine ⟨?_, ?_⟩)))) | (refine hSR tab_ok 1 rfl rfl rfl rfl hH rfl rfl rfl rfl rfl ?_ ?_; (focus (repeat (first | exact trivial | assumption | exact OkA.z (by kernel_rfl) (by kernel_rfl) | refine ⟨rfl, ?_⟩ | refine ⟨?_, ?_⟩)))) | (refine hSR tab_ok 2 rfl rfl rfl rfl hH rfl rfl rfl rfl rfl ?_ ?_; (focus (repeat (first | exact trivial | assumption | exact OkA.z (by kernel_rfl) (by kernel_rfl) | refine ⟨rfl, ?_⟩ | refine ⟨?_, ?_⟩)))) | (refine hSR tab_ok 3 rfl rfl rfl rfl hH rfl rfl rfl rfl rfl ?_ ?_; (focus (repeat (first | exact trivial | assumption | exact OkA.z (by kernel_rfl) (by kernel_rfl) | refine ⟨rfl, ?_⟩ | refine ⟨?_, ?_⟩))))) | refine hAl tab_ok rfl rfl hH rfl ?_ | refine hBx1 rfl rfl rfl hH ?_ | (refine hBx rfl rfl rfl hH ?_ ?_; (focus (repeat (first | exact trivial | assumption | exact OkA.z (by kernel_rfl) (by kernel_rfl) | refine ⟨rfl, ?_⟩ | refine ⟨?_, ?_⟩)))) | (refine hBd tab_ok rfl rfl rfl rfl rfl hH ?_; refine ⟨?_, ?_, ?_⟩; rotate_left; (focus (repeat (first | exact BR.nil | refine BR.one rfl rfl rfl ?_ | (refine BR.row rfl rfl rfl rfl ?_ ?_; (focus (repeat (first | exact trivial | assumption | exact OkA.z (by kernel_rfl) (by kernel_rfl) | refine ⟨rfl, ?_⟩ | refine ⟨?_, ?_⟩)))))))) | ((with_reducible refine callH hH ?_); refine ⟨?_, ?_, ?_⟩; rotate_left; (focus (first | (with_reducible exact kX _) | (with_reducible exact hh _) | (with_reducible exact hR _) | (with_reducible exact lives05_any))))); clear hH; (first | intro W g hH | intro W hH); (try simp only [Act.put, List.setIfInBounds_toArray, List.set_cons_succ, List.set_cons_zero])))
      go_ret
      exact ⟨rfl, hH.below⟩
    · have ht1 : 1 ≤ by4 s 8 := by omega
      have hh : ∀ w, Gives Try.prog 12 #[.string s] w (.tuple #[.string (hop4 s), .int .i64 0]) := fun w => Hop4_ok (by omega) he ht1
      obtain ⟨q1, q2, q3⟩ := hop4_back he ht1
      have hT : ∀ w, Gives Try.prog 9 #[.string (hop4 s)] w (.tuple #[.agg (p4Of (hop4 s)).L.toArray, .int .i64 (err4 (hop4 s))]) := fun w => rread4_any (by omega)
      have l8 := by4_lt s 8
      have okq : P4.Ok { p4Of s with ttl := ((by4 s 8 - 1 : Nat) : Int) } := ⟨ok.a, ok.b⟩
      have rgq : P4.Rg { p4Of s with ttl := ((by4 s 8 - 1 : Nat) : Int) } := ⟨rg.tos, rg.id, by show inI ((by4 s 8 - 1 : Nat) : Int); unfold inI; omega, rg.proto, rg.b⟩
      have er := okq.refl rgq
      rw [he, p4_segs, h3] at hR
      rw [q1, q2] at hT
      rw [p4_segs] at er
      have hT : ∀ w, Gives Try.prog 9 #[.string (hop4 s)] w (.tuple #[.agg (fls [.one (.int .i64 (p4Of s).tos), .one (.int .i64 (p4Of s).id), .one (.int .i64 ((by4 s 8 - 1 : Nat) : Int)), .one (.int .i64 (p4Of s).proto), .many (addrL (p4Of s).va (p4Of s).la) 17, .many (addrL (p4Of s).vb (p4Of s).lb) 17, .one (.bool (p4Of s).al), .one (.string (p4Of s).b)]).toArray, .int .i64 0]) := hT
      have er : ∀ w, (binOp .eql 27 (.agg (fls [.one (.int .i64 (p4Of s).tos), .one (.int .i64 (p4Of s).id), .one (.int .i64 ((by4 s 8 - 1 : Nat) : Int)), .one (.int .i64 (p4Of s).proto), .many (addrL (p4Of s).va (p4Of s).la) 17, .many (addrL (p4Of s).vb (p4Of s).lb) 17, .one (.bool (p4Of s).al), .one (.string (p4Of s).b)]).toArray) (.agg (fls [.one (.int .i64 (p4Of s).tos), .one (.int .i64 (p4Of s).id), .one (.int .i64 ((by4 s 8 - 1 : Nat) : Int)), .one (.int .i64 (p4Of s).proto), .many (addrL (p4Of s).va (p4Of s).la) 17, .many (addrL (p4Of s).vb (p4Of s).lb) 17, .one (.bool (p4Of s).al), .one (.string (p4Of s).b)]).toArray)).run Try.prog w = .ok (.bool true) w := er
      rw [show ((by4 s 8 - 1 : Nat) : Int) = (by4 s 8 : Int) - 1 by omega] at hT er
      clear rg ok okq rgq h3 he ht q1 q2
      have hq3 : ((hop4 s).size == s.size) = true := by simpa using q3
      have Q3 := Lib.hid q3
      clear q3
      generalize hop4 s = T at *
      generalize addrL (p4Of s).va (p4Of s).la = A at *
      generalize addrL (p4Of s).vb (p4Of s).lb = C at *
      generalize (p4Of s).tos = x1 at *
      generalize (p4Of s).id = x2 at *
      generalize (p4Of s).proto = x4 at *
      generalize (p4Of s).al = x5 at *
      generalize (p4Of s).b = x6 at *
      have hd : ((by4 s 8 : Int) == 0) = false := by simp; omega
      have hl : ((T.size : Int) == (s.size : Int)) = true := by have := Q3.out; simp; omega
      generalize by4 s 8 = t8 at *
      refine Gives.of ?_
      have hH := Hp.refl w
      go_enter Try.func4, Try.ntmps4
      go_wp2_with (first | ((first | (refine gL rfl ?_; first | refine hL1 tab_ok 0 rfl rfl rfl hH rfl rfl rfl rfl ?_ | refine hL1 tab_ok 1 rfl rfl rfl hH rfl rfl rfl rfl ?_ | refine hL1 tab_ok 2 rfl rfl rfl hH rfl rfl rfl rfl ?_ | refine hL1 tab_ok 3 rfl rfl rfl hH rfl rfl rfl rfl ?_ | refine hLR tab_ok 0 rfl rfl rfl hH rfl rfl rfl rfl ?_ | refine hLR tab_ok 1 rfl rfl rfl hH rfl rfl rfl rfl ?_ | refine hLR tab_ok 2 rfl rfl rfl hH rfl rfl rfl rfl ?_ | refine hLR tab_ok 3 rfl rfl rfl hH rfl rfl rfl rfl ?_ | (refine hL1i tab_ok 0 rfl rfl rfl hH rfl rfl rfl rfl ?_; refine ⟨?_, ?_, ?_⟩; rotate_left; (focus assumption)) | (refine hL1i tab_ok 1 rfl rfl rfl hH rfl rfl rfl rfl ?_; refine ⟨?_, ?_, ?_⟩; rotate_left; (focus assumption)) | (refine hL1i tab_ok 2 rfl rfl rfl hH rfl rfl rfl rfl ?_; refine ⟨?_, ?_, ?_⟩; rotate_left; (focus assumption)) | (refine hL1i tab_ok 3 rfl rfl rfl hH rfl rfl rfl rfl ?_; refine ⟨?_, ?_, ?_⟩; rotate_left; (focus assumption))) | (refine gS rfl ?_; first | refine hS1 tab_ok 0 rfl rfl rfl rfl hH rfl rfl rfl rfl rfl ?_ | refine hS1 tab_ok 1 rfl rfl rfl rfl hH rfl rfl rfl rfl rfl ?_ | refine hS1 tab_ok 2 rfl rfl rfl rfl hH rfl rfl rfl rfl rfl ?_ | refine hS1 tab_ok 3 rfl rfl rfl rfl hH rfl rfl rfl rfl rfl ?_ | (refine hSR tab_ok 0 rfl rfl rfl rfl hH rfl rfl rfl rfl rfl ?_ ?_; (focus (repeat (first | exact trivial | assumption | exact OkA.z (by kernel_rfl) (by kernel_rfl) | refine ⟨rfl, ?_⟩ | refine ⟨?_, ?_⟩)))) | (refine hSR tab_ok 1 rfl rfl rfl rfl hH rfl rfl rfl rfl rfl ?_ ?_; (focus (repeat (first | exact trivial | assumption | exact OkA.z (by kernel_rfl) (by kernel_rfl) | refine ⟨rfl, ?_⟩ | refine ⟨?_, ?_⟩)))) | (refine hSR tab_ok 2 rfl rfl rfl rfl hH rfl rfl rfl rfl rfl ?_ ?_; (focus (repeat (first | exact trivial | assumption | exact OkA.z (by kernel_rfl) (by kernel_rfl) | refine ⟨rfl, ?_⟩ | refine ⟨?_, ?_⟩)))) | (refine hSR tab_ok 3 rfl rfl rfl rfl hH rfl rfl rfl rfl rfl ?_ ?_; (focus (repeat (first | exact trivial | assumption | exact OkA.z (by kernel_rfl) (by kernel_rfl) | refine ⟨rfl, ?_⟩ | refine ⟨?_, ?_⟩))))) | refine hAl tab_ok rfl rfl hH rfl ?_ | refine hBx1 rfl rfl rfl hH ?_ | (refine hBx rfl rfl rfl hH ?_ ?_; (focus (repeat (first | exact trivial | assumption | exact OkA.z (by kernel_rfl) (by kernel_rfl) | refine ⟨rfl, ?_⟩ | refine ⟨?_, ?_⟩)))) | (refine hBd tab_ok rfl rfl rfl rfl rfl hH ?_; refine ⟨?_, ?_, ?_⟩; rotate_left; (focus (repeat (first | exact BR.nil | refine BR.one rfl rfl rfl ?_ | (refine BR.row rfl rfl rfl rfl ?_ ?_; (focus (repeat (first | exact trivial | assumption | exact OkA.z (by kernel_rfl) (by kernel_rfl) | refine ⟨rfl, ?_⟩ | refine ⟨?_, ?_⟩)))))))) | ((with_reducible refine callH hH ?_); refine ⟨?_, ?_, ?_⟩; rotate_left; (focus (first | (with_reducible exact kX _) | (with_reducible exact hh _) | (with_reducible exact hR _) | (with_reducible exact hT _) | (with_reducible exact lives05_any))))); clear hH; (first | intro W g hH | intro W hH); (try simp only [Act.put, List.setIfInBounds_toArray, List.set_cons_succ, List.set_cons_zero])))
      go_ret
      exact ⟨rfl, hH.below⟩
  · have hh : ∀ w, Gives Try.prog 12 #[.string s] w (.tuple #[.string ⟨#[]⟩, .int .i64 (err4 s)]) := fun w => Hop4_err (by omega) rfl he
    rw [p4_segs] at hR
    have hd : (err4 s != 0) = true := by simpa using he
    have hd2 : (err4 s == err4 s) = true := by simp
    clear rg ok he
    generalize err4 s = e at *
    generalize addrL (p4Of s).va (p4Of s).la = A at *
    generalize addrL (p4Of s).vb (p4Of s).lb = C at *
    generalize (p4Of s).tos = x1 at *
    generalize (p4Of s).id = x2 at *
    generalize (p4Of s).ttl = x3 at *
    generalize (p4Of s).proto = x4 at *
    generalize (p4Of s).al = x5 at *
    generalize (p4Of s).b = x6 at *
    refine Gives.of ?_
    have hH := Hp.refl w
    go_enter Try.func4, Try.ntmps4
    go_wp2_with (first | ((first | (refine gL rfl ?_; first | refine hL1 tab_ok 0 rfl rfl rfl hH rfl rfl rfl rfl ?_ | refine hL1 tab_ok 1 rfl rfl rfl hH rfl rfl rfl rfl ?_ | refine hL1 tab_ok 2 rfl rfl rfl hH rfl rfl rfl rfl ?_ | refine hL1 tab_ok 3 rfl rfl rfl hH rfl rfl rfl rfl ?_ | refine hLR tab_ok 0 rfl rfl rfl hH rfl rfl rfl rfl ?_ | refine hLR tab_ok 1 rfl rfl rfl hH rfl rfl rfl rfl ?_ | refine hLR tab_ok 2 rfl rfl rfl hH rfl rfl rfl rfl ?_ | refine hLR tab_ok 3 rfl rfl rfl hH rfl rfl rfl rfl ?_ | (refine hL1i tab_ok 0 rfl rfl rfl hH rfl rfl rfl rfl ?_; refine ⟨?_, ?_, ?_⟩; rotate_left; (focus assumption)) | (refine hL1i tab_ok 1 rfl rfl rfl hH rfl rfl rfl rfl ?_; refine ⟨?_, ?_, ?_⟩; rotate_left; (focus assumption)) | (refine hL1i tab_ok 2 rfl rfl rfl hH rfl rfl rfl rfl ?_; refine ⟨?_, ?_, ?_⟩; rotate_left; (focus assumption)) | (refine hL1i tab_ok 3 rfl rfl rfl hH rfl rfl rfl rfl ?_; refine ⟨?_, ?_, ?_⟩; rotate_left; (focus assumption))) | (refine gS rfl ?_; first | refine hS1 tab_ok 0 rfl rfl rfl rfl hH rfl rfl rfl rfl rfl ?_ | refine hS1 tab_ok 1 rfl rfl rfl rfl hH rfl rfl rfl rfl rfl ?_ | refine hS1 tab_ok 2 rfl rfl rfl rfl hH rfl rfl rfl rfl rfl ?_ | refine hS1 tab_ok 3 rfl rfl rfl rfl hH rfl rfl rfl rfl rfl ?_ | (refine hSR tab_ok 0 rfl rfl rfl rfl hH rfl rfl rfl rfl rfl ?_ ?_; (focus (repeat (first | exact trivial | assumption | exact OkA.z (by kernel_rfl) (by kernel_rfl) | refine ⟨rfl, ?_⟩ | refine ⟨?_, ?_⟩)))) | (refine hSR tab_ok 1 rfl rfl rfl rfl hH rfl rfl rfl rfl rfl ?_ ?_; (focus (repeat (first | exact trivial | assumption | exact OkA.z (by kernel_rfl) (by kernel_rfl) | refine ⟨rfl, ?_⟩ | refine ⟨?_, ?_⟩)))) | (refine hSR tab_ok 2 rfl rfl rfl rfl hH rfl rfl rfl rfl rfl ?_ ?_; (focus (repeat (first | exact trivial | assumption | exact OkA.z (by kernel_rfl) (by kernel_rfl) | refine ⟨rfl, ?_⟩ | refine ⟨?_, ?_⟩)))) | (refine hSR tab_ok 3 rfl rfl rfl rfl hH rfl rfl rfl rfl rfl ?_ ?_; (focus (repeat (first | exact trivial | assumption | exact OkA.z (by kernel_rfl) (by kernel_rfl) | refine ⟨rfl, ?_⟩ | refine ⟨?_, ?_⟩))))) | refine hAl tab_ok rfl rfl hH rfl ?_ | refine hBx1 rfl rfl rfl hH ?_ | (refine hBx rfl rfl rfl hH ?_ ?_; (focus (repeat (first | exact trivial | assumption | exact OkA.z (by kernel_rfl) (by kernel_rfl) | refine ⟨rfl, ?_⟩ | refine ⟨?_, ?_⟩)))) | (refine hBd tab_ok rfl rfl rfl rfl rfl hH ?_; refine ⟨?_, ?_, ?_⟩; rotate_left; (focus (repeat (first | exact BR.nil | refine BR.one rfl rfl rfl ?_ | (refine BR.row rfl rfl rfl rfl ?_ ?_; (focus (repeat (first | exact trivial | assumption | exact OkA.z (by kernel_rfl) (by kernel_rfl) | refine ⟨rfl, ?_⟩ | refine ⟨?_, ?_⟩)))))))) | ((with_reducible refine callH hH ?_); refine ⟨?_, ?_, ?_⟩; rotate_left; (focus (first | (with_reducible exact kX _) | (with_reducible exact hh _) | (with_reducible exact hR _) | (with_reducible exact lives05_any))))); clear hH; (first | intro W g hH | intro W hH); (try simp only [Act.put, List.setIfInBounds_toArray, List.set_cons_succ, List.set_cons_zero])))
    all_goals first | (exfalso; omega) | (go_ret; exact ⟨rfl, hH.below⟩)
set_option maxRecDepth 100000 in
theorem ip4Hops_lifted (os : Os) (started : os.Started) (H : Type) (enc : TypeId × Value → H) :
    ReturnsInHanded {} Try.checked os 4 .any (Rows.ip4HopsSpec.pre6 enc Try.prog Try.f4 Rows.ip4HopsRow.domain false) (Rows.ip4HopsSpec.post enc Try.prog Try.f4 false true false false) := by
  refine lifted_of_walk (C := Try.checked) (tb := 4) own started (by kernel_rfl) Try.func4
    (ChangeSpec.witness6 (enc := enc) (C := Try.checked) false ⟨#[], #[.string ⟨#[]⟩], []⟩ 8 (by kernel_rfl) (by kernel_rfl) (by kernel_rfl) (by kernel_rfl))
    (by kernel_rfl) Try.underlying4 (by kernel_rfl) (by kernel_rfl) rfl ?_ ?_
  · intro ds hl
    match ds, hl with
    | [d0], _ => exact ⟨rfl, rfl, rfl⟩
  · intro W base args ds ps hval hA hfz
    have hA' : DataW.TrodAll enc Try.prog W 0 (fun _ => true) true Try.f4.params.toList args.toList ds ps := hA
    rw [Try.params4] at hA'
    obtain ⟨v0, vs0, d0, ds0, p0, q0, hargs0, rfl, rfl, h0, r0⟩ := trodAll_cons hA'
    obtain ⟨hvs, rfl, rfl⟩ := trodAll_nil r0
    obtain rfl : args = #[v0] := by cases args; simp_all
    have g0 := hval 0 9 v0 rfl rfl
    obtain ⟨s, rfl, hs⟩ := open_str Try.underlying9 g0
    exact hops4_walk
theorem ip4Hops_proved : Rows.Ip4HopsSaid :=
  OpenClaim.holds_of_wide 4 Try.f4 rfl rfl rfl rfl rfl rfl rfl ⟨rfl, rfl, rfl, rfl, rfl⟩ rfl rfl rfl rfl rfl (by kernel_rfl) Try.func4 (by kernel_rfl)
    (of_decide_eq_true (by kernel_rfl)) (by unfold Func.isWrapper; first | (rw [if_pos (by decide +kernel)]; kernel_rfl) | (rw [if_neg (by decide +kernel)]; exact ⟨rfl, rfl⟩))
    (fun os started H enc _ => ip4Hops_lifted os started H enc)
end Go.Proofs.Ytcijplfamodjaaa

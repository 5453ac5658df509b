/-
  Contracts of package encap and of its reference: what is written (2).
-/
import Derived.Test.YtkkmfcnnnfhmnaaEw
namespace Go.Proofs.Ytkkmfcnnnfhmnaa
open Go.ChangeShapes Go.WideShapes Go.ChangeAt Go.RowKit
set_option linter.unusedVariables false
set_option linter.unusedSimpArgs false
attribute [local irreducible] wpList

theorem gT_in {p : Tn} (g : gT p = true) : ∃ vl rt hp : Nat, p = ⟨p.ver, vl, p.v, p.l, rt, hp, p.b⟩ ∧ vl ≤ 4094 ∧ rt ≤ 65535 ∧ hp ≤ 255 ∧ p.b.size ≤ 1600 := by
  unfold gT at g
  simp only [Bool.and_eq_true, decide_eq_true_eq] at g
  obtain ⟨⟨⟨⟨_, h1⟩, h2⟩, h3⟩, h4⟩ := g
  obtain ⟨ver, vlan, v, l, root, hop, b⟩ := p
  simp only at *
  obtain ⟨vl, rfl⟩ := Int.eq_ofNat_of_zero_le h1.1
  obtain ⟨rt, rfl⟩ := Int.eq_ofNat_of_zero_le h2.1
  obtain ⟨hp, rfl⟩ := Int.eq_ofNat_of_zero_le h3.1
  exact ⟨vl, rt, hp, rfl, by omega, by omega, by omega, h4⟩
section
variable {w : World} {p : Tn} {ver vl rt hp : Nat} {v : Bool} {l : List UInt8} {b : ByteArray}
theorem write36_p (h : p.Ok) (r : p.Rg) (g : gT p = true) : Gives Try.prog 27 #[.agg p.L.toArray] w (.string (wT p)) := by
  obtain ⟨vl, rt, hp, e, h1, h2, h3, h4⟩ := gT_in g
  have hv := r.ver
  have hl := h.l
  rw [e]
  exact write36_any hl (by omega) hv (by omega) (by omega) (by omega)
theorem Write36_any (h : p.Ok) (r : p.Rg) : Gives Try.prog 12 #[.agg p.L.toArray] w (if gT p then .tuple #[.string (wT p), .int .i64 0] else .tuple #[.string ⟨#[]⟩, .int .i64 2]) := by
  have hg : ∀ w, Gives Try.prog 26 #[.agg p.L.toArray] w (.bool (gT p)) := fun w => goodT_any h r
  have hw : gT p = true → ∀ w, Gives Try.prog 27 #[.agg p.L.toArray] w (.string (wT p)) := fun g w => write36_p h r g
  have oA := okA_addr (v := p.v) h.l
  clear h r
  rw [tn_segs] at *
  generalize addrL p.v p.l = A at *
  generalize wT p = W at *
  refine Gives.of ?_
  have hH := Hp.refl w
  go_enter Try.func12, Try.ntmps12
  cases hq : gT p
  · rw [hq] at hg
    clear hw
    go_wp2_with (first | ((first | (refine gL rfl ?_; first | (refine hL1 tab_ok 0 rfl ?_ rfl hH rfl rfl rfl rfl ?_; (focus (first | exact wN rfl | exact rfl))) | (refine hL1 tab_ok 1 rfl ?_ rfl hH rfl rfl rfl rfl ?_; (focus (first | exact wN rfl | exact rfl))) | (refine hL1 tab_ok 2 rfl ?_ rfl hH rfl rfl rfl rfl ?_; (focus (first | exact wN rfl | exact rfl))) | (refine hL1 tab_ok 3 rfl ?_ rfl hH rfl rfl rfl rfl ?_; (focus (first | exact wN rfl | exact rfl))) | (refine hLR tab_ok 0 rfl ?_ rfl hH rfl rfl rfl rfl ?_; (focus (first | exact wN rfl | exact rfl))) | (refine hLR tab_ok 1 rfl ?_ rfl hH rfl rfl rfl rfl ?_; (focus (first | exact wN rfl | exact rfl))) | (refine hLR tab_ok 2 rfl ?_ rfl hH rfl rfl rfl rfl ?_; (focus (first | exact wN rfl | exact rfl))) | (refine hLR tab_ok 3 rfl ?_ rfl hH rfl rfl rfl rfl ?_; (focus (first | exact wN rfl | exact rfl))) | (refine hL1i tab_ok 0 rfl ?_ rfl hH rfl rfl rfl rfl ?_; (focus (first | exact wN rfl | exact rfl)); refine ⟨?_, ?_, ?_⟩; rotate_left; (focus assumption)) | (refine hL1i tab_ok 1 rfl ?_ rfl hH rfl rfl rfl rfl ?_; (focus (first | exact wN rfl | exact rfl)); refine ⟨?_, ?_, ?_⟩; rotate_left; (focus assumption)) | (refine hL1i tab_ok 2 rfl ?_ rfl hH rfl rfl rfl rfl ?_; (focus (first | exact wN rfl | exact rfl)); refine ⟨?_, ?_, ?_⟩; rotate_left; (focus assumption)) | (refine hL1i tab_ok 3 rfl ?_ rfl hH rfl rfl rfl rfl ?_; (focus (first | exact wN rfl | exact rfl)); refine ⟨?_, ?_, ?_⟩; rotate_left; (focus assumption))) | (refine gS rfl ?_; first | (refine hS1 tab_ok 0 rfl ?_ rfl rfl hH rfl rfl rfl rfl rfl ?_; (focus (first | exact wN rfl | exact rfl))) | (refine hS1 tab_ok 1 rfl ?_ rfl rfl hH rfl rfl rfl rfl rfl ?_; (focus (first | exact wN rfl | exact rfl))) | (refine hS1 tab_ok 2 rfl ?_ rfl rfl hH rfl rfl rfl rfl rfl ?_; (focus (first | exact wN rfl | exact rfl))) | (refine hS1 tab_ok 3 rfl ?_ rfl rfl hH rfl rfl rfl rfl rfl ?_; (focus (first | exact wN rfl | exact rfl))) | (refine hSR tab_ok 0 rfl ?_ rfl rfl hH rfl rfl rfl rfl rfl ?_ ?_; (focus (first | exact wN rfl | exact rfl)); (focus (repeat (first | exact trivial | assumption | exact OkA.z (by kernel_rfl) (by kernel_rfl) | refine ⟨rfl, ?_⟩ | refine ⟨?_, ?_⟩)))) | (refine hSR tab_ok 1 rfl ?_ rfl rfl hH rfl rfl rfl rfl rfl ?_ ?_; (focus (first | exact wN rfl | exact rfl)); (focus (repeat (first | exact trivial | assumption | exact OkA.z (by kernel_rfl) (by kernel_rfl) | refine ⟨rfl, ?_⟩ | refine ⟨?_, ?_⟩)))) | (refine hSR tab_ok 2 rfl ?_ rfl rfl hH rfl rfl rfl rfl rfl ?_ ?_; (focus (first | exact wN rfl | exact rfl)); (focus (repeat (first | exact trivial | assumption | exact OkA.z (by kernel_rfl) (by kernel_rfl) | refine ⟨rfl, ?_⟩ | refine ⟨?_, ?_⟩)))) | (refine hSR tab_ok 3 rfl ?_ rfl rfl hH rfl rfl rfl rfl rfl ?_ ?_; (focus (first | exact wN rfl | exact rfl)); (focus (repeat (first | exact trivial | assumption | exact OkA.z (by kernel_rfl) (by kernel_rfl) | refine ⟨rfl, ?_⟩ | refine ⟨?_, ?_⟩))))) | (refine hAl tab_ok rfl ?_ hH rfl ?_; (focus (first | exact wN rfl | exact rfl))) | (refine hBx1 rfl ?_ rfl hH ?_; (focus (first | exact wN rfl | exact rfl))) | (refine hBx rfl ?_ rfl hH ?_ ?_; (focus (first | exact wN rfl | exact rfl)); (focus (repeat (first | exact trivial | assumption | exact OkA.z (by kernel_rfl) (by kernel_rfl) | refine ⟨rfl, ?_⟩ | refine ⟨?_, ?_⟩)))) | (refine hBd tab_ok rfl ?_ rfl rfl rfl hH ?_; (focus (first | exact wN rfl | exact rfl)); refine ⟨?_, ?_, ?_⟩; rotate_left; (focus (repeat (first | exact BR.nil | refine BR.one rfl rfl rfl ?_ | (refine BR.row rfl rfl rfl rfl ?_ ?_; (focus (repeat (first | exact trivial | assumption | exact OkA.z (by kernel_rfl) (by kernel_rfl) | refine ⟨rfl, ?_⟩ | refine ⟨?_, ?_⟩)))))))) | ((with_reducible refine callH hH ?_); refine ⟨?_, ?_, ?_⟩; rotate_left; (focus (first | (with_reducible exact hg _))))); clear hH; (first | intro W g hH | intro W hH); (try simp only [Act.put, List.setIfInBounds_toArray, List.set_cons_succ, List.set_cons_zero])))
    go_ret2
    exact ⟨by simp, hH.below⟩
  · have hw' := hw hq
    rw [hq] at hg
    clear hw
    go_wp2_with (first | ((first | (refine gL rfl ?_; first | (refine hL1 tab_ok 0 rfl ?_ rfl hH rfl rfl rfl rfl ?_; (focus (first | exact wN rfl | exact rfl))) | (refine hL1 tab_ok 1 rfl ?_ rfl hH rfl rfl rfl rfl ?_; (focus (first | exact wN rfl | exact rfl))) | (refine hL1 tab_ok 2 rfl ?_ rfl hH rfl rfl rfl rfl ?_; (focus (first | exact wN rfl | exact rfl))) | (refine hL1 tab_ok 3 rfl ?_ rfl hH rfl rfl rfl rfl ?_; (focus (first | exact wN rfl | exact rfl))) | (refine hLR tab_ok 0 rfl ?_ rfl hH rfl rfl rfl rfl ?_; (focus (first | exact wN rfl | exact rfl))) | (refine hLR tab_ok 1 rfl ?_ rfl hH rfl rfl rfl rfl ?_; (focus (first | exact wN rfl | exact rfl))) | (refine hLR tab_ok 2 rfl ?_ rfl hH rfl rfl rfl rfl ?_; (focus (first | exact wN rfl | exact rfl))) | (refine hLR tab_ok 3 rfl ?_ rfl hH rfl rfl rfl rfl ?_; (focus (first | exact wN rfl | exact rfl))) | (refine hL1i tab_ok 0 rfl ?_ rfl hH rfl rfl rfl rfl ?_; (focus (first | exact wN rfl | exact rfl)); refine ⟨?_, ?_, ?_⟩; rotate_left; (focus assumption)) | (refine hL1i tab_ok 1 rfl ?_ rfl hH rfl rfl rfl rfl ?_; (focus (first | exact wN rfl | exact rfl)); refine ⟨?_, ?_, ?_⟩; rotate_left; (focus assumption)) | (refine hL1i tab_ok 2 rfl ?_ rfl hH rfl rfl rfl rfl ?_; (focus (first | exact wN rfl | exact rfl)); refine ⟨?_, ?_, ?_⟩; rotate_left; (focus assumption)) | (refine hL1i tab_ok 3 rfl ?_ rfl hH rfl rfl rfl rfl ?_; (focus (first | exact wN rfl | exact rfl)); refine ⟨?_, ?_, ?_⟩; rotate_left; (focus assumption))) | (refine gS rfl ?_; first | (refine hS1 tab_ok 0 rfl ?_ rfl rfl hH rfl rfl rfl rfl rfl ?_; (focus (first | exact wN rfl | exact rfl))) | (refine hS1 tab_ok 1 rfl ?_ rfl rfl hH rfl rfl rfl rfl rfl ?_; (focus (first | exact wN rfl | exact rfl))) | (refine hS1 tab_ok 2 rfl ?_ rfl rfl hH rfl rfl rfl rfl rfl ?_; (focus (first | exact wN rfl | exact rfl))) | (refine hS1 tab_ok 3 rfl ?_ rfl rfl hH rfl rfl rfl rfl rfl ?_; (focus (first | exact wN rfl | exact rfl))) | (refine hSR tab_ok 0 rfl ?_ rfl rfl hH rfl rfl rfl rfl rfl ?_ ?_; (focus (first | exact wN rfl | exact rfl)); (focus (repeat (first | exact trivial | assumption | exact OkA.z (by kernel_rfl) (by kernel_rfl) | refine ⟨rfl, ?_⟩ | refine ⟨?_, ?_⟩)))) | (refine hSR tab_ok 1 rfl ?_ rfl rfl hH rfl rfl rfl rfl rfl ?_ ?_; (focus (first | exact wN rfl | exact rfl)); (focus (repeat (first | exact trivial | assumption | exact OkA.z (by kernel_rfl) (by kernel_rfl) | refine ⟨rfl, ?_⟩ | refine ⟨?_, ?_⟩)))) | (refine hSR tab_ok 2 rfl ?_ rfl rfl hH rfl rfl rfl rfl rfl ?_ ?_; (focus (first | exact wN rfl | exact rfl)); (focus (repeat (first | exact trivial | assumption | exact OkA.z (by kernel_rfl) (by kernel_rfl) | refine ⟨rfl, ?_⟩ | refine ⟨?_, ?_⟩)))) | (refine hSR tab_ok 3 rfl ?_ rfl rfl hH rfl rfl rfl rfl rfl ?_ ?_; (focus (first | exact wN rfl | exact rfl)); (focus (repeat (first | exact trivial | assumption | exact OkA.z (by kernel_rfl) (by kernel_rfl) | refine ⟨rfl, ?_⟩ | refine ⟨?_, ?_⟩))))) | (refine hAl tab_ok rfl ?_ hH rfl ?_; (focus (first | exact wN rfl | exact rfl))) | (refine hBx1 rfl ?_ rfl hH ?_; (focus (first | exact wN rfl | exact rfl))) | (refine hBx rfl ?_ rfl hH ?_ ?_; (focus (first | exact wN rfl | exact rfl)); (focus (repeat (first | exact trivial | assumption | exact OkA.z (by kernel_rfl) (by kernel_rfl) | refine ⟨rfl, ?_⟩ | refine ⟨?_, ?_⟩)))) | (refine hBd tab_ok rfl ?_ rfl rfl rfl hH ?_; (focus (first | exact wN rfl | exact rfl)); refine ⟨?_, ?_, ?_⟩; rotate_left; (focus (repeat (first | exact BR.nil | refine BR.one rfl rfl rfl ?_ | (refine BR.row rfl rfl rfl rfl ?_ ?_; (focus (repeat (first | exact trivial | assumption | exact OkA.z (by kernel_rfl) (by kernel_rfl) | refine ⟨rfl, ?_⟩ | refine ⟨?_, ?_⟩)))))))) | ((with_reducible refine callH hH ?_); refine ⟨?_, ?_, ?_⟩; rotate_left; (focus (first | (with_reducible exact hg _) | (with_reducible exact hw' _))))); clear hH; (first | intro W g hH | intro W hH); (try simp only [Act.put, List.setIfInBounds_toArray, List.set_cons_succ, List.set_cons_zero])))
    go_ret2
    exact ⟨by simp, hH.below⟩
set_option maxRecDepth 100000 in
set_option maxHeartbeats 2000000 in
theorem rWrite36_any (hl : l.length = 16) (hb : b.size ≤ 100000) (h1 : ver < 4294967296) (h2 : vl < 65536) (h3 : rt < 65536) (h4 : hp < 65536) :
    Gives Try.prog 11 #[.agg (Tn.L ⟨ver, vl, v, l, rt, hp, b⟩).toArray] w (.string (wNN ver vl v l rt hp b)) := by
  have hpp : ∀ (n k : Nat) w, n < 9223372036854775808 → k ≤ 8 → Gives Try.prog 24 #[.int .i64 (n : Int), .int .i64 (k : Int)] w (.string (str (putL n k))) := fun n k w h1 h2 => num36_any h1 h2
  have fa : ∀ w, Gives Try.prog 25 #[.agg (fls [.many (addrL v l) 17]).toArray] w (.string (str (bytesA v l))) := fun w => by rw [addr_segs1]; exact raBytes_any hl
  have p4 : ∀ w, Gives Try.prog 24 #[.int .i64 (hp : Int), .int .i64 1] w (.string (str (putL hp 1))) := fun w => hpp hp 1 w (by omega) (by omega)
  have p5 : ∀ w, Gives Try.prog 24 #[.int .i64 (vl : Int), .int .i64 2] w (.string (str (putL vl 2))) := fun w => hpp vl 2 w (by omega) (by omega)
  have p6 : ∀ w, Gives Try.prog 24 #[.int .i64 (rt : Int), .int .i64 2] w (.string (str (putL rt 2))) := fun w => hpp rt 2 w (by omega) (by omega)
  have p7 : ∀ w, Gives Try.prog 24 #[.int .i64 (b.size : Int), .int .i64 2] w (.string (str (putL b.size 2))) := fun w => hpp b.size 2 w (by omega) (by omega)
  have p8 : ∀ w, Gives Try.prog 24 #[.int .i64 (ver : Int), .int .i64 4] w (.string (str (putL ver 4))) := fun w => hpp ver 4 w (by omega) (by omega)
  have HW := Lib.hid (show wNN ver vl v l rt hp b = wA v hp ++ str (putL (65535 - foldN (wsum (flat [wA v hp, wB ver vl v l rt b]))) 2) ++ wB ver vl v l rt b from rfl)
  have HA := Lib.hid (show wA v hp = ⟨#[77, if v then 1 else 0]⟩ ++ str (putL hp 1) ++ ⟨#[0]⟩ by
    unfold wA
    cases v
    · rw [show str (putL 77 1) ++ str (putL (if false then 1 else 0) 1) = ⟨#[77, if false then 1 else 0]⟩ by decide, show str (putL 0 1) = ⟨#[0]⟩ by decide]
    · rw [show str (putL 77 1) ++ str (putL (if true then 1 else 0) 1) = ⟨#[77, if true then 1 else 0]⟩ by decide, show str (putL 0 1) = ⟨#[0]⟩ by decide])
  have HB := Lib.hid (show wB ver vl v l rt b = str (putL ver 4) ++ str (putL vl 2) ++ str (putL rt 2) ++ str (putL b.size 2) ++ str (bytesA v l) ++ b from rfl)
  have m4 := str_size (putL hp 1)
  have m5 := str_size (putL vl 2)
  have m6 := str_size (putL rt 2)
  have m7 := str_size (putL b.size 2)
  have m8 := str_size (putL ver 4)
  have m9 : (str (bytesA v l)).size ≤ 16 := by rw [str_size, bytesA_len hl]; split <;> omega
  rw [putL_length] at m4 m5 m6 m7 m8
  have hzA : (wA v hp).size = 4 := by unfold wA; simp only [ByteArray.size_append, str_size, putL_length]
  have hzB : (wB ver vl v l rt b).size ≤ 200000 := by rw [HB.out]; simp only [ByteArray.size_append, m5, m6, m7, m8]; omega
  have hF := foldN_le (wsum (flat [wA v hp, wB ver vl v l rt b]))
  have fs : ∀ w, Gives Try.prog 21 #[.string (wA v hp ++ wB ver vl v l rt b)] w (.int .i64 (foldN (wsum (flat [wA v hp, wB ver vl v l rt b])) : Int)) := fun w => by
    have := rSum_any (s := wA v hp ++ wB ver vl v l rt b) (w := w) (by rw [ByteArray.size_append]; omega)
    rwa [toList_append, show (wA v hp).data.toList ++ (wB ver vl v l rt b).data.toList = flat [wA v hp, wB ver vl v l rt b] by simp [flat]] at this
  have p9 : ∀ w, Gives Try.prog 24 #[.int .i64 (65535 - (foldN (wsum (flat [wA v hp, wB ver vl v l rt b])) : Int)), .int .i64 2] w (.string (str (putL (65535 - foldN (wsum (flat [wA v hp, wB ver vl v l rt b]))) 2))) := fun w => by
    have := hpp (65535 - foldN (wsum (flat [wA v hp, wB ver vl v l rt b]))) 2 w (by omega) (by omega)
    rwa [show ((65535 - foldN (wsum (flat [wA v hp, wB ver vl v l rt b])) : Nat) : Int) = 65535 - (foldN (wsum (flat [wA v hp, wB ver vl v l rt b])) : Int) by omega] at this
  have m10 := str_size (putL (65535 - foldN (wsum (flat [wA v hp, wB ver vl v l rt b]))) 2)
  rw [putL_length] at m10
  have oA := okA_addr (v := v) hl
  have cA : CellA (addrL v l) 0 (.bool v) := rfl
  rw [tn_segs, HW.out]
  simp only at *
  generalize str (putL (65535 - foldN (wsum (flat [wA v hp, wB ver vl v l rt b]))) 2) = t6 at *
  generalize foldN (wsum (flat [wA v hp, wB ver vl v l rt b])) = N at *
  rw [HA.out] at *
  rw [HB.out] at *
  clear HW hpp HA HB
  generalize addrL v l = A at *
  generalize str (bytesA v l) = t5 at *
  generalize str (putL ver 4) = t1 at *
  generalize str (putL vl 2) = t2 at *
  generalize str (putL rt 2) = t3 at *
  generalize str (putL b.size 2) = t4 at *
  generalize str (putL hp 1) = s3 at *
  have z1 : (⟨#[77, 0]⟩ : ByteArray).size = 2 := rfl
  have z2 : (⟨#[77, 1]⟩ : ByteArray).size = 2 := rfl
  have z3 : (⟨#[0]⟩ : ByteArray).size = 1 := rfl
  cases v
  all_goals
    simp only [if_true, Bool.false_eq_true, if_false] at *
    refine Gives.of ?_
    have hH := Hp.refl w
    go_enter Try.func11, Try.ntmps11
    go_wp2_with (first | ((first | (refine gL rfl ?_; first | (refine hL1 tab_ok 0 rfl ?_ rfl hH rfl rfl rfl rfl ?_; (focus (first | exact wN rfl | exact rfl))) | (refine hL1 tab_ok 1 rfl ?_ rfl hH rfl rfl rfl rfl ?_; (focus (first | exact wN rfl | exact rfl))) | (refine hL1 tab_ok 2 rfl ?_ rfl hH rfl rfl rfl rfl ?_; (focus (first | exact wN rfl | exact rfl))) | (refine hL1 tab_ok 3 rfl ?_ rfl hH rfl rfl rfl rfl ?_; (focus (first | exact wN rfl | exact rfl))) | (refine hLR tab_ok 0 rfl ?_ rfl hH rfl rfl rfl rfl ?_; (focus (first | exact wN rfl | exact rfl))) | (refine hLR tab_ok 1 rfl ?_ rfl hH rfl rfl rfl rfl ?_; (focus (first | exact wN rfl | exact rfl))) | (refine hLR tab_ok 2 rfl ?_ rfl hH rfl rfl rfl rfl ?_; (focus (first | exact wN rfl | exact rfl))) | (refine hLR tab_ok 3 rfl ?_ rfl hH rfl rfl rfl rfl ?_; (focus (first | exact wN rfl | exact rfl))) | (refine hL1i tab_ok 0 rfl ?_ rfl hH rfl rfl rfl rfl ?_; (focus (first | exact wN rfl | exact rfl)); refine ⟨?_, ?_, ?_⟩; rotate_left; (focus assumption)) | (refine hL1i tab_ok 1 rfl ?_ rfl hH rfl rfl rfl rfl ?_; (focus (first | exact wN rfl | exact rfl)); refine ⟨?_, ?_, ?_⟩; rotate_left; (focus assumption)) | (refine hL1i tab_ok 2 rfl ?_ rfl hH rfl rfl rfl rfl ?_; (focus (first | exact wN rfl | exact rfl)); refine ⟨?_, ?_, ?_⟩; rotate_left; (focus assumption)) | (refine hL1i tab_ok 3 rfl ?_ rfl hH rfl rfl rfl rfl ?_; (focus (first | exact wN rfl | exact rfl)); refine ⟨?_, ?_, ?_⟩; rotate_left; (focus assumption))) | (refine gS rfl ?_; first | (refine hS1 tab_ok 0 rfl ?_ rfl rfl hH rfl rfl rfl rfl rfl ?_; (focus (first | exact wN rfl | exact rfl))) | (refine hS1 tab_ok 1 rfl ?_ rfl rfl hH rfl rfl rfl rfl rfl ?_; (focus (first | exact wN rfl | exact rfl))) | (refine hS1 tab_ok 2 rfl ?_ rfl rfl hH rfl rfl rfl rfl rfl ?_; (focus (first | exact wN rfl | exact rfl))) | (refine hS1 tab_ok 3 rfl ?_ rfl rfl hH rfl rfl rfl rfl rfl ?_; (focus (first | exact wN rfl | exact rfl))) | (refine hSR tab_ok 0 rfl ?_ rfl rfl hH rfl rfl rfl rfl rfl ?_ ?_; (focus (first | exact wN rfl | exact rfl)); (focus (repeat (first | exact trivial | assumption | exact OkA.z (by kernel_rfl) (by kernel_rfl) | refine ⟨rfl, ?_⟩ | refine ⟨?_, ?_⟩)))) | (refine hSR tab_ok 1 rfl ?_ rfl rfl hH rfl rfl rfl rfl rfl ?_ ?_; (focus (first | exact wN rfl | exact rfl)); (focus (repeat (first | exact trivial | assumption | exact OkA.z (by kernel_rfl) (by kernel_rfl) | refine ⟨rfl, ?_⟩ | refine ⟨?_, ?_⟩)))) | (refine hSR tab_ok 2 rfl ?_ rfl rfl hH rfl rfl rfl rfl rfl ?_ ?_; (focus (first | exact wN rfl | exact rfl)); (focus (repeat (first | exact trivial | assumption | exact OkA.z (by kernel_rfl) (by kernel_rfl) | refine ⟨rfl, ?_⟩ | refine ⟨?_, ?_⟩)))) | (refine hSR tab_ok 3 rfl ?_ rfl rfl hH rfl rfl rfl rfl rfl ?_ ?_; (focus (first | exact wN rfl | exact rfl)); (focus (repeat (first | exact trivial | assumption | exact OkA.z (by kernel_rfl) (by kernel_rfl) | refine ⟨rfl, ?_⟩ | refine ⟨?_, ?_⟩))))) | (refine hAl tab_ok rfl ?_ hH rfl ?_; (focus (first | exact wN rfl | exact rfl))) | (refine hBx1 rfl ?_ rfl hH ?_; (focus (first | exact wN rfl | exact rfl))) | (refine hBx rfl ?_ rfl hH ?_ ?_; (focus (first | exact wN rfl | exact rfl)); (focus (repeat (first | exact trivial | assumption | exact OkA.z (by kernel_rfl) (by kernel_rfl) | refine ⟨rfl, ?_⟩ | refine ⟨?_, ?_⟩)))) | (refine hBd tab_ok rfl ?_ rfl rfl rfl hH ?_; (focus (first | exact wN rfl | exact rfl)); refine ⟨?_, ?_, ?_⟩; rotate_left; (focus (repeat (first | exact BR.nil | refine BR.one rfl rfl rfl ?_ | (refine BR.row rfl rfl rfl rfl ?_ ?_; (focus (repeat (first | exact trivial | assumption | exact OkA.z (by kernel_rfl) (by kernel_rfl) | refine ⟨rfl, ?_⟩ | refine ⟨?_, ?_⟩)))))))) | ((with_reducible refine callH hH ?_); refine ⟨?_, ?_, ?_⟩; rotate_left; (focus (first | (with_reducible exact p4 _))))); clear hH; (first | intro W g hH | intro W hH); (try simp only [Act.put, List.setIfInBounds_toArray, List.set_cons_succ, List.set_cons_zero])))
    ((with_reducible refine regQ hH (by kernel_rfl) (by kernel_rfl) ?_); intro hne; (repeat (first | (go_big_quiet_want; (first | (refine gQ rfl ?_; first | refine qL1 tab_ok 0 rfl rfl rfl rfl rfl rfl ?_ | refine qL1 tab_ok 1 rfl rfl rfl rfl rfl rfl ?_ | refine qL1 tab_ok 2 rfl rfl rfl rfl rfl rfl ?_ | refine qL1 tab_ok 3 rfl rfl rfl rfl rfl rfl ?_ | refine qLR tab_ok 0 rfl rfl rfl rfl rfl rfl ?_ | refine qLR tab_ok 1 rfl rfl rfl rfl rfl rfl ?_ | refine qLR tab_ok 2 rfl rfl rfl rfl rfl rfl ?_ | refine qLR tab_ok 3 rfl rfl rfl rfl rfl rfl ?_ | (refine qL1i tab_ok 0 rfl rfl rfl rfl rfl rfl ?_; refine ⟨?_, ?_, ?_⟩; rotate_left; (focus assumption)) | (refine qL1i tab_ok 1 rfl rfl rfl rfl rfl rfl ?_; refine ⟨?_, ?_, ?_⟩; rotate_left; (focus assumption)) | (refine qL1i tab_ok 2 rfl rfl rfl rfl rfl rfl ?_; refine ⟨?_, ?_, ?_⟩; rotate_left; (focus assumption)) | (refine qL1i tab_ok 3 rfl rfl rfl rfl rfl rfl ?_; refine ⟨?_, ?_, ?_⟩; rotate_left; (focus assumption))) | (refine qBd tab_ok rfl rfl rfl rfl ?_; refine ⟨?_, ?_, ?_⟩; rotate_left; (focus (repeat (first | exact BR.nil | refine BR.one rfl rfl rfl ?_ | (refine BR.row rfl rfl rfl rfl ?_ ?_; (focus (repeat (first | exact trivial | assumption | exact OkA.z (by kernel_rfl) (by kernel_rfl) | refine ⟨rfl, ?_⟩ | refine ⟨?_, ?_⟩))))))))); (try simp only [Act.put, List.setIfInBounds_toArray, List.set_cons_succ, List.set_cons_zero]); go_big_quiet_on) | go_big_quiet_step (((with_reducible apply callQ); first | (with_reducible exact p8 _) | (with_reducible exact p5 _) | (with_reducible exact p6 _) | (with_reducible exact p7 _) | (with_reducible exact fa _))))); refine wpQuiet_nil ?_; clear hne hH; intro W hH)
    go_wp2_with (first | ((first | (refine gL rfl ?_; first | (refine hL1 tab_ok 0 rfl ?_ rfl hH rfl rfl rfl rfl ?_; (focus (first | exact wN rfl | exact rfl))) | (refine hL1 tab_ok 1 rfl ?_ rfl hH rfl rfl rfl rfl ?_; (focus (first | exact wN rfl | exact rfl))) | (refine hL1 tab_ok 2 rfl ?_ rfl hH rfl rfl rfl rfl ?_; (focus (first | exact wN rfl | exact rfl))) | (refine hL1 tab_ok 3 rfl ?_ rfl hH rfl rfl rfl rfl ?_; (focus (first | exact wN rfl | exact rfl))) | (refine hLR tab_ok 0 rfl ?_ rfl hH rfl rfl rfl rfl ?_; (focus (first | exact wN rfl | exact rfl))) | (refine hLR tab_ok 1 rfl ?_ rfl hH rfl rfl rfl rfl ?_; (focus (first | exact wN rfl | exact rfl))) | (refine hLR tab_ok 2 rfl ?_ rfl hH rfl rfl rfl rfl ?_; (focus (first | exact wN rfl | exact rfl))) | (refine hLR tab_ok 3 rfl ?_ rfl hH rfl rfl rfl rfl ?_; (focus (first | exact wN rfl | exact rfl))) | (refine hL1i tab_ok 0 rfl ?_ rfl hH rfl rfl rfl rfl ?_; (focus (first | exact wN rfl | exact rfl)); refine ⟨?_, ?_, ?_⟩; rotate_left; (focus assumption)) | (refine hL1i tab_ok 1 rfl ?_ rfl hH rfl rfl rfl rfl ?_; (focus (first | exact wN rfl | exact rfl)); refine ⟨?_, ?_, ?_⟩; rotate_left; (focus assumption)) | (refine hL1i tab_ok 2 rfl ?_ rfl hH rfl rfl rfl rfl ?_; (focus (first | exact wN rfl | exact rfl)); refine ⟨?_, ?_, ?_⟩; rotate_left; (focus assumption)) | (refine hL1i tab_ok 3 rfl ?_ rfl hH rfl rfl rfl rfl ?_; (focus (first | exact wN rfl | exact rfl)); refine ⟨?_, ?_, ?_⟩; rotate_left; (focus assumption))) | (refine gS rfl ?_; first | (refine hS1 tab_ok 0 rfl ?_ rfl rfl hH rfl rfl rfl rfl rfl ?_; (focus (first | exact wN rfl | exact rfl))) | (refine hS1 tab_ok 1 rfl ?_ rfl rfl hH rfl rfl rfl rfl rfl ?_; (focus (first | exact wN rfl | exact rfl))) | (refine hS1 tab_ok 2 rfl ?_ rfl rfl hH rfl rfl rfl rfl rfl ?_; (focus (first | exact wN rfl | exact rfl))) | (refine hS1 tab_ok 3 rfl ?_ rfl rfl hH rfl rfl rfl rfl rfl ?_; (focus (first | exact wN rfl | exact rfl))) | (refine hSR tab_ok 0 rfl ?_ rfl rfl hH rfl rfl rfl rfl rfl ?_ ?_; (focus (first | exact wN rfl | exact rfl)); (focus (repeat (first | exact trivial | assumption | exact OkA.z (by kernel_rfl) (by kernel_rfl) | refine ⟨rfl, ?_⟩ | refine ⟨?_, ?_⟩)))) | (refine hSR tab_ok 1 rfl ?_ rfl rfl hH rfl rfl rfl rfl rfl ?_ ?_; (focus (first | exact wN rfl | exact rfl)); (focus (repeat (first | exact trivial | assumption | exact OkA.z (by kernel_rfl) (by kernel_rfl) | refine ⟨rfl, ?_⟩ | refine ⟨?_, ?_⟩)))) | (refine hSR tab_ok 2 rfl ?_ rfl rfl hH rfl rfl rfl rfl rfl ?_ ?_; (focus (first | exact wN rfl | exact rfl)); (focus (repeat (first | exact trivial | assumption | exact OkA.z (by kernel_rfl) (by kernel_rfl) | refine ⟨rfl, ?_⟩ | refine ⟨?_, ?_⟩)))) | (refine hSR tab_ok 3 rfl ?_ rfl rfl hH rfl rfl rfl rfl rfl ?_ ?_; (focus (first | exact wN rfl | exact rfl)); (focus (repeat (first | exact trivial | assumption | exact OkA.z (by kernel_rfl) (by kernel_rfl) | refine ⟨rfl, ?_⟩ | refine ⟨?_, ?_⟩))))) | (refine hAl tab_ok rfl ?_ hH rfl ?_; (focus (first | exact wN rfl | exact rfl))) | (refine hBx1 rfl ?_ rfl hH ?_; (focus (first | exact wN rfl | exact rfl))) | (refine hBx rfl ?_ rfl hH ?_ ?_; (focus (first | exact wN rfl | exact rfl)); (focus (repeat (first | exact trivial | assumption | exact OkA.z (by kernel_rfl) (by kernel_rfl) | refine ⟨rfl, ?_⟩ | refine ⟨?_, ?_⟩)))) | (refine hBd tab_ok rfl ?_ rfl rfl rfl hH ?_; (focus (first | exact wN rfl | exact rfl)); refine ⟨?_, ?_, ?_⟩; rotate_left; (focus (repeat (first | exact BR.nil | refine BR.one rfl rfl rfl ?_ | (refine BR.row rfl rfl rfl rfl ?_ ?_; (focus (repeat (first | exact trivial | assumption | exact OkA.z (by kernel_rfl) (by kernel_rfl) | refine ⟨rfl, ?_⟩ | refine ⟨?_, ?_⟩)))))))) | ((with_reducible refine callH hH ?_); refine ⟨?_, ?_, ?_⟩; rotate_left; (focus (first | (with_reducible exact p9 _) | (with_reducible exact fs _))))); clear hH; (first | intro W g hH | intro W hH); (try simp only [Act.put, List.setIfInBounds_toArray, List.set_cons_succ, List.set_cons_zero])))
    go_ret
    exact ⟨rfl, hH.below⟩
theorem rWrite36_p (h : p.Ok) (r : p.Rg) (g : gT p = true) : Gives Try.prog 11 #[.agg p.L.toArray] w (.string (wT p)) := by
  obtain ⟨vl, rt, hp, e, h1, h2, h3, h4⟩ := gT_in g
  have hv := r.ver
  have hl := h.l
  rw [e]
  exact rWrite36_any hl (by omega) hv (by omega) (by omega) (by omega)
end
end Go.Proofs.Ytkkmfcnnnfhmnaa

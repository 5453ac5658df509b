/-
  'OctetPuts': the bytes of any number, and that it comes back from them, but for what they do not hold. 'OctetGets': which number any bytes are at any place, or why none. 'OctetBits': any bits of any number, and the number with them set. For every input.
-/
import Derived.Test.YtkkmjlihfnmbbaaUnhex
import Derived.Test.YtkkmjlihfnmbbaaSet
namespace Go.Proofs.Ytkkmjlihfnmbbaa
open Go.ChangeShapes Go.WideShapes Go.ChangeAt Go.RowKit
set_option linter.unusedVariables false
set_option linter.unusedSimpArgs false

theorem own : ownKnob Try.prog.godebug = none := by kernel_rfl
theorem hexf_any {w : World} : Gives Try.prog 21 #[.string ⟨#[15]⟩] w (.string ⟨#[48, 102]⟩) := by
  have h := hex_any (s := ⟨#[15]⟩) (w := w) (by decide)
  have e : str (hexL (ByteArray.mk #[15]).data.toList) = ⟨#[48, 102]⟩ := by decide
  rw [e] at h
  exact h
theorem lives01_any {w : World} : Gives Try.prog 14 #[] w (.bool true) := by
  refine Gives.of ?_
  have e1 : numL ((List.drop 1 (ByteArray.mk #[0, 1, 2]).data.toList).take 2) = 258 := by decide
  have e2 : wn 3 8 = 3 := by decide
  have e3 : str (putL 258 3) = ⟨#[0, 1, 2]⟩ := by decide
  have hg : ∀ w, Gives Try.prog 11 #[.string ⟨#[0, 1, 2]⟩, .int .i64 1, .int .i64 2] w (.tuple #[.int .u64 258, .int .i64 0]) := fun w => by
    have h := get_any (s := ⟨#[0, 1, 2]⟩) (i := 1) (m := 2) (w := w) (by omega) (by decide) (by decide)
    rw [e1] at h
    exact h
  have hp : ∀ w, Gives Try.prog 9 #[.int .u64 258, .int .i64 3] w (.string ⟨#[0, 1, 2]⟩) := fun w => by
    have h := Put_any (n := 258) (wide := 3) (w := w) (by omega)
    rw [e2, e3] at h
    exact h
  clear e1 e2 e3
  go_enter Try.func14, Try.ntmps14
  go_wp2_with ((with_reducible (first | apply Gives.call_bw (Nat.le_refl _) | apply Gives.call)); (focus (first | (with_reducible exact hg _) | (with_reducible exact hp _) | (with_reducible exact hexf_any))); intro x; (try dsimp only [drew_heap] at x))
  go_ret
  exact ⟨rfl, by (first | ((repeat (with_reducible first | assumption | exact Below.refl _ _ | (refine below_bw _ ?_ ?_; rotate_left; focus (((repeat (with_reducible first | assumption | exact Nat.le_refl _ | refine BW.le_of ?_ | refine le_alloc ?_ | refine le_drew ?_ | refine le_drewN ?_ | refine le_set ?_ | refine le_plus ?_ | omega | refine le_setA ?_)); done))) | (refine Below.alloc ?_ ?_ _; rotate_left; focus (((repeat (with_reducible first | assumption | exact Nat.le_refl _ | refine BW.le_of ?_ | refine le_alloc ?_ | refine le_drew ?_ | refine le_drewN ?_ | refine le_set ?_ | refine le_plus ?_ | omega | refine le_setA ?_)); done))) | (refine Below.setCell ?_ ?_ _; rotate_left; focus (((repeat (with_reducible first | assumption | exact Nat.le_refl _ | refine BW.le_of ?_ | refine le_alloc ?_ | refine le_drew ?_ | refine le_drewN ?_ | refine le_set ?_ | refine le_plus ?_ | omega | refine le_setA ?_)); done))) | refine Below.drew ?_ | refine below_drewN ?_ _ | (refine below_setCells ?_ ?_ _ _; rotate_left; focus (((repeat (with_reducible first | assumption | exact Nat.le_refl _ | refine BW.le_of ?_ | refine le_alloc ?_ | refine le_drew ?_ | refine le_drewN ?_ | refine le_set ?_ | refine le_plus ?_ | omega | refine le_setA ?_)); done))))); done) | (simp; done) | (repeat (first | assumption | exact Below.refl _ _ | (refine below_bw _ ?_ ?_; rotate_left; focus ((first | omega | (repeat (first | with_reducible assumption | with_reducible exact Nat.le_refl _ | refine BW.le_of ?_ | refine le_alloc ?_ | refine le_drew ?_ | refine le_drewN ?_ | refine le_set ?_ | refine le_plus ?_ | assumption | exact Nat.le_refl _))))) | (refine Below.alloc ?_ ?_ _; rotate_left; focus ((first | omega | (repeat (first | with_reducible assumption | with_reducible exact Nat.le_refl _ | refine BW.le_of ?_ | refine le_alloc ?_ | refine le_drew ?_ | refine le_drewN ?_ | refine le_set ?_ | refine le_plus ?_ | assumption | exact Nat.le_refl _))))) | (refine Below.setCell ?_ ?_ _; rotate_left; focus ((first | omega | (repeat (first | with_reducible assumption | with_reducible exact Nat.le_refl _ | refine BW.le_of ?_ | refine le_alloc ?_ | refine le_drew ?_ | refine le_drewN ?_ | refine le_set ?_ | refine le_plus ?_ | assumption | exact Nat.le_refl _))))) | refine Below.drew ?_ | refine below_drewN ?_ _ | (refine below_setCells ?_ ?_ _ _; rotate_left; focus ((first | omega | (repeat (first | with_reducible assumption | with_reducible exact Nat.le_refl _ | refine BW.le_of ?_ | refine le_alloc ?_ | refine le_drew ?_ | refine le_drewN ?_ | refine le_set ?_ | refine le_plus ?_ | assumption | exact Nat.le_refl _))))))))⟩

theorem puts_walk {n : Nat} {m : Int} {w : World} (hn : n < 18446744073709551616) : Gives Try.prog 3 #[.int .u64 n, .int .i64 m] w (.bool true) := by
  refine Gives.of ?_
  have h1 := wn_le m 8
  have hs : (str (putL n (wn m 8))).size = wn m 8 := by rw [str_size, putL_length]
  have hg : ∀ w, Gives Try.prog 11 #[.string (str (putL n (wn m 8))), .int .i64 0, .int .i64 (wn m 8 : Int)] w (.tuple #[.int .u64 (lowN n 0 (8 * wn m 8) : Int), .int .i64 0]) := fun w => by
    have h := get_any (s := str (putL n (wn m 8))) (i := 0) (m := wn m 8) (w := w) h1 (by omega) (by omega)
    rw [str_toList, List.drop_zero, List.take_of_length_le (by rw [putL_length]; omega), numL_putL, show (256 : Nat) = 2 ^ 8 from rfl, ← Nat.pow_mul] at h
    have e : lowN n 0 (8 * wn m 8) = n % 2 ^ (8 * wn m 8) := by simp [lowN]
    rw [← e] at h
    exact h
  have hb : ∀ w, Gives Try.prog 13 #[.int .u64 n, .int .i64 0, .int .i64 (8 * (wn m 8 : Int))] w (.int .u64 (lowN n 0 (8 * wn m 8) : Int)) := fun w => by
    have h := rbits_any (n := n) (a := 0) (b := 8 * (wn m 8 : Int)) (w := w) hn
    have e1 : wn 0 64 = 0 := by decide
    have e2 : wn (8 * (wn m 8 : Int)) 64 = 8 * wn m 8 := by unfold wn at *; rw [within_in (by omega) (by omega)]; omega
    rw [e1, e2] at h
    exact h
  have hle := lowN_le n 0 (8 * wn m 8)
  clear hs
  go_enter Try.func3, Try.ntmps3
  go_wp2_with ((with_reducible (first | apply Gives.call_bw (Nat.le_refl _) | apply Gives.call)); (focus (first | (with_reducible exact hg _) | (with_reducible exact hb _) | (with_reducible exact rwithin8) | (with_reducible exact Put_any (by assumption)) | (with_reducible exact rput_any (by assumption)) | (with_reducible exact lives01_any))); intro x; (try dsimp only [drew_heap] at x))
  go_ret
  exact ⟨rfl, by (first | ((repeat (with_reducible first | assumption | exact Below.refl _ _ | (refine below_bw _ ?_ ?_; rotate_left; focus (((repeat (with_reducible first | assumption | exact Nat.le_refl _ | refine BW.le_of ?_ | refine le_alloc ?_ | refine le_drew ?_ | refine le_drewN ?_ | refine le_set ?_ | refine le_plus ?_ | omega | refine le_setA ?_)); done))) | (refine Below.alloc ?_ ?_ _; rotate_left; focus (((repeat (with_reducible first | assumption | exact Nat.le_refl _ | refine BW.le_of ?_ | refine le_alloc ?_ | refine le_drew ?_ | refine le_drewN ?_ | refine le_set ?_ | refine le_plus ?_ | omega | refine le_setA ?_)); done))) | (refine Below.setCell ?_ ?_ _; rotate_left; focus (((repeat (with_reducible first | assumption | exact Nat.le_refl _ | refine BW.le_of ?_ | refine le_alloc ?_ | refine le_drew ?_ | refine le_drewN ?_ | refine le_set ?_ | refine le_plus ?_ | omega | refine le_setA ?_)); done))) | refine Below.drew ?_ | refine below_drewN ?_ _ | (refine below_setCells ?_ ?_ _ _; rotate_left; focus (((repeat (with_reducible first | assumption | exact Nat.le_refl _ | refine BW.le_of ?_ | refine le_alloc ?_ | refine le_drew ?_ | refine le_drewN ?_ | refine le_set ?_ | refine le_plus ?_ | omega | refine le_setA ?_)); done))))); done) | (simp; done) | (repeat (first | assumption | exact Below.refl _ _ | (refine below_bw _ ?_ ?_; rotate_left; focus ((first | omega | (repeat (first | with_reducible assumption | with_reducible exact Nat.le_refl _ | refine BW.le_of ?_ | refine le_alloc ?_ | refine le_drew ?_ | refine le_drewN ?_ | refine le_set ?_ | refine le_plus ?_ | assumption | exact Nat.le_refl _))))) | (refine Below.alloc ?_ ?_ _; rotate_left; focus ((first | omega | (repeat (first | with_reducible assumption | with_reducible exact Nat.le_refl _ | refine BW.le_of ?_ | refine le_alloc ?_ | refine le_drew ?_ | refine le_drewN ?_ | refine le_set ?_ | refine le_plus ?_ | assumption | exact Nat.le_refl _))))) | (refine Below.setCell ?_ ?_ _; rotate_left; focus ((first | omega | (repeat (first | with_reducible assumption | with_reducible exact Nat.le_refl _ | refine BW.le_of ?_ | refine le_alloc ?_ | refine le_drew ?_ | refine le_drewN ?_ | refine le_set ?_ | refine le_plus ?_ | assumption | exact Nat.le_refl _))))) | refine Below.drew ?_ | refine below_drewN ?_ _ | (refine below_setCells ?_ ?_ _ _; rotate_left; focus ((first | omega | (repeat (first | with_reducible assumption | with_reducible exact Nat.le_refl _ | refine BW.le_of ?_ | refine le_alloc ?_ | refine le_drew ?_ | refine le_drewN ?_ | refine le_set ?_ | refine le_plus ?_ | assumption | exact Nat.le_refl _))))))))⟩

set_option maxRecDepth 100000 in
theorem octetPuts_lifted (os : Os) (started : os.Started) (H : Type) (enc : TypeId × Value → H) :
    ReturnsInHanded {} Try.checked os 3 .any (Rows.octetPutsSpec.pre6 enc Try.prog Try.f3 Rows.octetPutsRow.domain false) (Rows.octetPutsSpec.post enc Try.prog Try.f3 false true false false) := by
  refine lifted_of_walk (C := Try.checked) (tb := 4) own started (by kernel_rfl) Try.func3
    (ChangeSpec.witness6 (enc := enc) (C := Try.checked) false ⟨#[], #[.int .u64 0, .int .i64 0], []⟩ 8 (by kernel_rfl) (by kernel_rfl) (by kernel_rfl) (by kernel_rfl))
    (by kernel_rfl) Try.underlying4 (by kernel_rfl) (by kernel_rfl) rfl ?_ ?_
  · intro ds hl
    match ds, hl with
    | [d0, d1], _ => exact ⟨rfl, rfl, rfl⟩
  · intro W base args ds ps hval hA hfz
    have hA' : DataW.TrodAll enc Try.prog W 0 (fun _ => true) true Try.f3.params.toList args.toList ds ps := hA
    rw [Try.params3] at hA'
    obtain ⟨v0, vs0, d0, ds0, p0, q0, hargs0, rfl, rfl, h0, r0⟩ := trodAll_cons hA'
    obtain ⟨v1, vs1, d1, ds1, p1, q1, hargs1, rfl, rfl, h1, r1⟩ := trodAll_cons r0
    obtain ⟨hvs, rfl, rfl⟩ := trodAll_nil r1
    obtain rfl : args = #[v0, v1] := by cases args; simp_all
    have g0 := hval 0 22 v0 rfl rfl
    have g1 := hval 1 3 v1 rfl rfl
    obtain ⟨n, rfl, hn⟩ := open_u64 Try.underlying22 g0
    obtain ⟨m, rfl, _⟩ := open_i64 Try.underlying3 g1
    exact puts_walk hn
theorem octetPuts_proved : Rows.OctetPutsSaid :=
  OpenClaim.holds_of_wide 3 Try.f3 rfl rfl rfl rfl rfl rfl rfl ⟨rfl, rfl, rfl, rfl, rfl⟩ rfl rfl rfl rfl rfl (by kernel_rfl) Try.func3 (by kernel_rfl)
    (of_decide_eq_true (by kernel_rfl)) (by unfold Func.isWrapper; first | (rw [if_pos (by decide +kernel)]; kernel_rfl) | (rw [if_neg (by decide +kernel)]; exact ⟨rfl, rfl⟩))
    (fun os started H enc _ => octetPuts_lifted os started H enc)

theorem cut_size (s : ByteArray) (m : Nat) : (s.extract 0 m).size ≤ m := by rw [← size_toList, toList_extract, List.length_take]; omega
theorem gets_walk {s : ByteArray} {i m : Int} {w : World} (i0 : -9223372036854775808 ≤ i ∧ i ≤ 9223372036854775807) (m0 : -9223372036854775808 ≤ m ∧ m ≤ 9223372036854775807) :
    Gives Try.prog 4 #[.string s, .int .i64 i, .int .i64 m] w (.bool true) := by
  refine Gives.of ?_
  have hcut : ∀ w, Gives Try.prog 15 #[.string s, .int .i64 40] w (.string (s.extract 0 40)) := fun w => cut_any
  have hz := cut_size s 40
  generalize s.extract 0 40 = c at *
  by_cases h1 : m < 0 ∨ 8 < m ∨ i < 0
  · have hg : ∀ w, Gives Try.prog 11 #[.string c, .int .i64 i, .int .i64 m] w (.tuple #[.int .u64 0, .int .i64 1]) := fun w => get_arg h1
    rcases h1 with h1 | h1
    · go_enter Try.func4, Try.ntmps4
      go_wp2_with ((with_reducible (first | apply Gives.call_bw (Nat.le_refl _) | apply Gives.call)); (focus (first | (with_reducible exact hcut _) | (with_reducible exact hg _) | (with_reducible exact lives01_any))); intro x; (try dsimp only [drew_heap] at x))
      all_goals first | (exfalso; omega) | (go_ret; exact ⟨rfl, by (first | ((repeat (with_reducible first | assumption | exact Below.refl _ _ | (refine below_bw _ ?_ ?_; rotate_left; focus (((repeat (with_reducible first | assumption | exact Nat.le_refl _ | refine BW.le_of ?_ | refine le_alloc ?_ | refine le_drew ?_ | refine le_drewN ?_ | refine le_set ?_ | refine le_plus ?_ | omega | refine le_setA ?_)); done))) | (refine Below.alloc ?_ ?_ _; rotate_left; focus (((repeat (with_reducible first | assumption | exact Nat.le_refl _ | refine BW.le_of ?_ | refine le_alloc ?_ | refine le_drew ?_ | refine le_drewN ?_ | refine le_set ?_ | refine le_plus ?_ | omega | refine le_setA ?_)); done))) | (refine Below.setCell ?_ ?_ _; rotate_left; focus (((repeat (with_reducible first | assumption | exact Nat.le_refl _ | refine BW.le_of ?_ | refine le_alloc ?_ | refine le_drew ?_ | refine le_drewN ?_ | refine le_set ?_ | refine le_plus ?_ | omega | refine le_setA ?_)); done))) | refine Below.drew ?_ | refine below_drewN ?_ _ | (refine below_setCells ?_ ?_ _ _; rotate_left; focus (((repeat (with_reducible first | assumption | exact Nat.le_refl _ | refine BW.le_of ?_ | refine le_alloc ?_ | refine le_drew ?_ | refine le_drewN ?_ | refine le_set ?_ | refine le_plus ?_ | omega | refine le_setA ?_)); done))))); done) | (simp; done) | (repeat (first | assumption | exact Below.refl _ _ | (refine below_bw _ ?_ ?_; rotate_left; focus ((first | omega | (repeat (first | with_reducible assumption | with_reducible exact Nat.le_refl _ | refine BW.le_of ?_ | refine le_alloc ?_ | refine le_drew ?_ | refine le_drewN ?_ | refine le_set ?_ | refine le_plus ?_ | assumption | exact Nat.le_refl _))))) | (refine Below.alloc ?_ ?_ _; rotate_left; focus ((first | omega | (repeat (first | with_reducible assumption | with_reducible exact Nat.le_refl _ | refine BW.le_of ?_ | refine le_alloc ?_ | refine le_drew ?_ | refine le_drewN ?_ | refine le_set ?_ | refine le_plus ?_ | assumption | exact Nat.le_refl _))))) | (refine Below.setCell ?_ ?_ _; rotate_left; focus ((first | omega | (repeat (first | with_reducible assumption | with_reducible exact Nat.le_refl _ | refine BW.le_of ?_ | refine le_alloc ?_ | refine le_drew ?_ | refine le_drewN ?_ | refine le_set ?_ | refine le_plus ?_ | assumption | exact Nat.le_refl _))))) | refine Below.drew ?_ | refine below_drewN ?_ _ | (refine below_setCells ?_ ?_ _ _; rotate_left; focus ((first | omega | (repeat (first | with_reducible assumption | with_reducible exact Nat.le_refl _ | refine BW.le_of ?_ | refine le_alloc ?_ | refine le_drew ?_ | refine le_drewN ?_ | refine le_set ?_ | refine le_plus ?_ | assumption | exact Nat.le_refl _))))))))⟩)
    by_cases h2 : m < 0
    · go_enter Try.func4, Try.ntmps4
      go_wp2_with ((with_reducible (first | apply Gives.call_bw (Nat.le_refl _) | apply Gives.call)); (focus (first | (with_reducible exact hcut _) | (with_reducible exact hg _) | (with_reducible exact lives01_any))); intro x; (try dsimp only [drew_heap] at x))
      all_goals first | (exfalso; omega) | (go_ret; exact ⟨rfl, by (first | ((repeat (with_reducible first | assumption | exact Below.refl _ _ | (refine below_bw _ ?_ ?_; rotate_left; focus (((repeat (with_reducible first | assumption | exact Nat.le_refl _ | refine BW.le_of ?_ | refine le_alloc ?_ | refine le_drew ?_ | refine le_drewN ?_ | refine le_set ?_ | refine le_plus ?_ | omega | refine le_setA ?_)); done))) | (refine Below.alloc ?_ ?_ _; rotate_left; focus (((repeat (with_reducible first | assumption | exact Nat.le_refl _ | refine BW.le_of ?_ | refine le_alloc ?_ | refine le_drew ?_ | refine le_drewN ?_ | refine le_set ?_ | refine le_plus ?_ | omega | refine le_setA ?_)); done))) | (refine Below.setCell ?_ ?_ _; rotate_left; focus (((repeat (with_reducible first | assumption | exact Nat.le_refl _ | refine BW.le_of ?_ | refine le_alloc ?_ | refine le_drew ?_ | refine le_drewN ?_ | refine le_set ?_ | refine le_plus ?_ | omega | refine le_setA ?_)); done))) | refine Below.drew ?_ | refine below_drewN ?_ _ | (refine below_setCells ?_ ?_ _ _; rotate_left; focus (((repeat (with_reducible first | assumption | exact Nat.le_refl _ | refine BW.le_of ?_ | refine le_alloc ?_ | refine le_drew ?_ | refine le_drewN ?_ | refine le_set ?_ | refine le_plus ?_ | omega | refine le_setA ?_)); done))))); done) | (simp; done) | (repeat (first | assumption | exact Below.refl _ _ | (refine below_bw _ ?_ ?_; rotate_left; focus ((first | omega | (repeat (first | with_reducible assumption | with_reducible exact Nat.le_refl _ | refine BW.le_of ?_ | refine le_alloc ?_ | refine le_drew ?_ | refine le_drewN ?_ | refine le_set ?_ | refine le_plus ?_ | assumption | exact Nat.le_refl _))))) | (refine Below.alloc ?_ ?_ _; rotate_left; focus ((first | omega | (repeat (first | with_reducible assumption | with_reducible exact Nat.le_refl _ | refine BW.le_of ?_ | refine le_alloc ?_ | refine le_drew ?_ | refine le_drewN ?_ | refine le_set ?_ | refine le_plus ?_ | assumption | exact Nat.le_refl _))))) | (refine Below.setCell ?_ ?_ _; rotate_left; focus ((first | omega | (repeat (first | with_reducible assumption | with_reducible exact Nat.le_refl _ | refine BW.le_of ?_ | refine le_alloc ?_ | refine le_drew ?_ | refine le_drewN ?_ | refine le_set ?_ | refine le_plus ?_ | assumption | exact Nat.le_refl _))))) | refine Below.drew ?_ | refine below_drewN ?_ _ | (refine below_setCells ?_ ?_ _ _; rotate_left; focus ((first | omega | (repeat (first | with_reducible assumption | with_reducible exact Nat.le_refl _ | refine BW.le_of ?_ | refine le_alloc ?_ | refine le_drew ?_ | refine le_drewN ?_ | refine le_set ?_ | refine le_plus ?_ | assumption | exact Nat.le_refl _))))))))⟩)
    rcases h1 with h1 | h1
    · go_enter Try.func4, Try.ntmps4
      go_wp2_with ((with_reducible (first | apply Gives.call_bw (Nat.le_refl _) | apply Gives.call)); (focus (first | (with_reducible exact hcut _) | (with_reducible exact hg _) | (with_reducible exact lives01_any))); intro x; (try dsimp only [drew_heap] at x))
      all_goals first | (exfalso; omega) | (go_ret; exact ⟨rfl, by (first | ((repeat (with_reducible first | assumption | exact Below.refl _ _ | (refine below_bw _ ?_ ?_; rotate_left; focus (((repeat (with_reducible first | assumption | exact Nat.le_refl _ | refine BW.le_of ?_ | refine le_alloc ?_ | refine le_drew ?_ | refine le_drewN ?_ | refine le_set ?_ | refine le_plus ?_ | omega | refine le_setA ?_)); done))) | (refine Below.alloc ?_ ?_ _; rotate_left; focus (((repeat (with_reducible first | assumption | exact Nat.le_refl _ | refine BW.le_of ?_ | refine le_alloc ?_ | refine le_drew ?_ | refine le_drewN ?_ | refine le_set ?_ | refine le_plus ?_ | omega | refine le_setA ?_)); done))) | (refine Below.setCell ?_ ?_ _; rotate_left; focus (((repeat (with_reducible first | assumption | exact Nat.le_refl _ | refine BW.le_of ?_ | refine le_alloc ?_ | refine le_drew ?_ | refine le_drewN ?_ | refine le_set ?_ | refine le_plus ?_ | omega | refine le_setA ?_)); done))) | refine Below.drew ?_ | refine below_drewN ?_ _ | (refine below_setCells ?_ ?_ _ _; rotate_left; focus (((repeat (with_reducible first | assumption | exact Nat.le_refl _ | refine BW.le_of ?_ | refine le_alloc ?_ | refine le_drew ?_ | refine le_drewN ?_ | refine le_set ?_ | refine le_plus ?_ | omega | refine le_setA ?_)); done))))); done) | (simp; done) | (repeat (first | assumption | exact Below.refl _ _ | (refine below_bw _ ?_ ?_; rotate_left; focus ((first | omega | (repeat (first | with_reducible assumption | with_reducible exact Nat.le_refl _ | refine BW.le_of ?_ | refine le_alloc ?_ | refine le_drew ?_ | refine le_drewN ?_ | refine le_set ?_ | refine le_plus ?_ | assumption | exact Nat.le_refl _))))) | (refine Below.alloc ?_ ?_ _; rotate_left; focus ((first | omega | (repeat (first | with_reducible assumption | with_reducible exact Nat.le_refl _ | refine BW.le_of ?_ | refine le_alloc ?_ | refine le_drew ?_ | refine le_drewN ?_ | refine le_set ?_ | refine le_plus ?_ | assumption | exact Nat.le_refl _))))) | (refine Below.setCell ?_ ?_ _; rotate_left; focus ((first | omega | (repeat (first | with_reducible assumption | with_reducible exact Nat.le_refl _ | refine BW.le_of ?_ | refine le_alloc ?_ | refine le_drew ?_ | refine le_drewN ?_ | refine le_set ?_ | refine le_plus ?_ | assumption | exact Nat.le_refl _))))) | refine Below.drew ?_ | refine below_drewN ?_ _ | (refine below_setCells ?_ ?_ _ _; rotate_left; focus ((first | omega | (repeat (first | with_reducible assumption | with_reducible exact Nat.le_refl _ | refine BW.le_of ?_ | refine le_alloc ?_ | refine le_drew ?_ | refine le_drewN ?_ | refine le_set ?_ | refine le_plus ?_ | assumption | exact Nat.le_refl _))))))))⟩)
    by_cases h3 : 8 < m
    · go_enter Try.func4, Try.ntmps4
      go_wp2_with ((with_reducible (first | apply Gives.call_bw (Nat.le_refl _) | apply Gives.call)); (focus (first | (with_reducible exact hcut _) | (with_reducible exact hg _) | (with_reducible exact lives01_any))); intro x; (try dsimp only [drew_heap] at x))
      all_goals first | (exfalso; omega) | (go_ret; exact ⟨rfl, by (first | ((repeat (with_reducible first | assumption | exact Below.refl _ _ | (refine below_bw _ ?_ ?_; rotate_left; focus (((repeat (with_reducible first | assumption | exact Nat.le_refl _ | refine BW.le_of ?_ | refine le_alloc ?_ | refine le_drew ?_ | refine le_drewN ?_ | refine le_set ?_ | refine le_plus ?_ | omega | refine le_setA ?_)); done))) | (refine Below.alloc ?_ ?_ _; rotate_left; focus (((repeat (with_reducible first | assumption | exact Nat.le_refl _ | refine BW.le_of ?_ | refine le_alloc ?_ | refine le_drew ?_ | refine le_drewN ?_ | refine le_set ?_ | refine le_plus ?_ | omega | refine le_setA ?_)); done))) | (refine Below.setCell ?_ ?_ _; rotate_left; focus (((repeat (with_reducible first | assumption | exact Nat.le_refl _ | refine BW.le_of ?_ | refine le_alloc ?_ | refine le_drew ?_ | refine le_drewN ?_ | refine le_set ?_ | refine le_plus ?_ | omega | refine le_setA ?_)); done))) | refine Below.drew ?_ | refine below_drewN ?_ _ | (refine below_setCells ?_ ?_ _ _; rotate_left; focus (((repeat (with_reducible first | assumption | exact Nat.le_refl _ | refine BW.le_of ?_ | refine le_alloc ?_ | refine le_drew ?_ | refine le_drewN ?_ | refine le_set ?_ | refine le_plus ?_ | omega | refine le_setA ?_)); done))))); done) | (simp; done) | (repeat (first | assumption | exact Below.refl _ _ | (refine below_bw _ ?_ ?_; rotate_left; focus ((first | omega | (repeat (first | with_reducible assumption | with_reducible exact Nat.le_refl _ | refine BW.le_of ?_ | refine le_alloc ?_ | refine le_drew ?_ | refine le_drewN ?_ | refine le_set ?_ | refine le_plus ?_ | assumption | exact Nat.le_refl _))))) | (refine Below.alloc ?_ ?_ _; rotate_left; focus ((first | omega | (repeat (first | with_reducible assumption | with_reducible exact Nat.le_refl _ | refine BW.le_of ?_ | refine le_alloc ?_ | refine le_drew ?_ | refine le_drewN ?_ | refine le_set ?_ | refine le_plus ?_ | assumption | exact Nat.le_refl _))))) | (refine Below.setCell ?_ ?_ _; rotate_left; focus ((first | omega | (repeat (first | with_reducible assumption | with_reducible exact Nat.le_refl _ | refine BW.le_of ?_ | refine le_alloc ?_ | refine le_drew ?_ | refine le_drewN ?_ | refine le_set ?_ | refine le_plus ?_ | assumption | exact Nat.le_refl _))))) | refine Below.drew ?_ | refine below_drewN ?_ _ | (refine below_setCells ?_ ?_ _ _; rotate_left; focus ((first | omega | (repeat (first | with_reducible assumption | with_reducible exact Nat.le_refl _ | refine BW.le_of ?_ | refine le_alloc ?_ | refine le_drew ?_ | refine le_drewN ?_ | refine le_set ?_ | refine le_plus ?_ | assumption | exact Nat.le_refl _))))))))⟩)
    · go_enter Try.func4, Try.ntmps4
      go_wp2_with ((with_reducible (first | apply Gives.call_bw (Nat.le_refl _) | apply Gives.call)); (focus (first | (with_reducible exact hcut _) | (with_reducible exact hg _) | (with_reducible exact lives01_any))); intro x; (try dsimp only [drew_heap] at x))
      all_goals first | (exfalso; omega) | (go_ret; exact ⟨rfl, by (first | ((repeat (with_reducible first | assumption | exact Below.refl _ _ | (refine below_bw _ ?_ ?_; rotate_left; focus (((repeat (with_reducible first | assumption | exact Nat.le_refl _ | refine BW.le_of ?_ | refine le_alloc ?_ | refine le_drew ?_ | refine le_drewN ?_ | refine le_set ?_ | refine le_plus ?_ | omega | refine le_setA ?_)); done))) | (refine Below.alloc ?_ ?_ _; rotate_left; focus (((repeat (with_reducible first | assumption | exact Nat.le_refl _ | refine BW.le_of ?_ | refine le_alloc ?_ | refine le_drew ?_ | refine le_drewN ?_ | refine le_set ?_ | refine le_plus ?_ | omega | refine le_setA ?_)); done))) | (refine Below.setCell ?_ ?_ _; rotate_left; focus (((repeat (with_reducible first | assumption | exact Nat.le_refl _ | refine BW.le_of ?_ | refine le_alloc ?_ | refine le_drew ?_ | refine le_drewN ?_ | refine le_set ?_ | refine le_plus ?_ | omega | refine le_setA ?_)); done))) | refine Below.drew ?_ | refine below_drewN ?_ _ | (refine below_setCells ?_ ?_ _ _; rotate_left; focus (((repeat (with_reducible first | assumption | exact Nat.le_refl _ | refine BW.le_of ?_ | refine le_alloc ?_ | refine le_drew ?_ | refine le_drewN ?_ | refine le_set ?_ | refine le_plus ?_ | omega | refine le_setA ?_)); done))))); done) | (simp; done) | (repeat (first | assumption | exact Below.refl _ _ | (refine below_bw _ ?_ ?_; rotate_left; focus ((first | omega | (repeat (first | with_reducible assumption | with_reducible exact Nat.le_refl _ | refine BW.le_of ?_ | refine le_alloc ?_ | refine le_drew ?_ | refine le_drewN ?_ | refine le_set ?_ | refine le_plus ?_ | assumption | exact Nat.le_refl _))))) | (refine Below.alloc ?_ ?_ _; rotate_left; focus ((first | omega | (repeat (first | with_reducible assumption | with_reducible exact Nat.le_refl _ | refine BW.le_of ?_ | refine le_alloc ?_ | refine le_drew ?_ | refine le_drewN ?_ | refine le_set ?_ | refine le_plus ?_ | assumption | exact Nat.le_refl _))))) | (refine Below.setCell ?_ ?_ _; rotate_left; focus ((first | omega | (repeat (first | with_reducible assumption | with_reducible exact Nat.le_refl _ | refine BW.le_of ?_ | refine le_alloc ?_ | refine le_drew ?_ | refine le_drewN ?_ | refine le_set ?_ | refine le_plus ?_ | assumption | exact Nat.le_refl _))))) | refine Below.drew ?_ | refine below_drewN ?_ _ | (refine below_setCells ?_ ?_ _ _; rotate_left; focus ((first | omega | (repeat (first | with_reducible assumption | with_reducible exact Nat.le_refl _ | refine BW.le_of ?_ | refine le_alloc ?_ | refine le_drew ?_ | refine le_drewN ?_ | refine le_set ?_ | refine le_plus ?_ | assumption | exact Nat.le_refl _))))))))⟩)
  · obtain ⟨i, rfl⟩ := Int.eq_ofNat_of_zero_le (show 0 ≤ i by omega)
    obtain ⟨m, rfl⟩ := Int.eq_ofNat_of_zero_le (show 0 ≤ m by omega)
    have hm : m ≤ 8 := by omega
    clear h1
    by_cases h2 : c.size < i + m
    · have hg : ∀ w, Gives Try.prog 11 #[.string c, .int .i64 i, .int .i64 m] w (.tuple #[.int .u64 0, .int .i64 3]) := fun w => get_end hm h2 (by omega)
      by_cases h3 : c.size < i
      · go_enter Try.func4, Try.ntmps4
        go_wp2_with ((with_reducible (first | apply Gives.call_bw (Nat.le_refl _) | apply Gives.call)); (focus (first | (with_reducible exact hcut _) | (with_reducible exact hg _) | (with_reducible exact lives01_any))); intro x; (try dsimp only [drew_heap] at x))
        all_goals first | (exfalso; omega) | (go_ret; exact ⟨rfl, by (first | ((repeat (with_reducible first | assumption | exact Below.refl _ _ | (refine below_bw _ ?_ ?_; rotate_left; focus (((repeat (with_reducible first | assumption | exact Nat.le_refl _ | refine BW.le_of ?_ | refine le_alloc ?_ | refine le_drew ?_ | refine le_drewN ?_ | refine le_set ?_ | refine le_plus ?_ | omega | refine le_setA ?_)); done))) | (refine Below.alloc ?_ ?_ _; rotate_left; focus (((repeat (with_reducible first | assumption | exact Nat.le_refl _ | refine BW.le_of ?_ | refine le_alloc ?_ | refine le_drew ?_ | refine le_drewN ?_ | refine le_set ?_ | refine le_plus ?_ | omega | refine le_setA ?_)); done))) | (refine Below.setCell ?_ ?_ _; rotate_left; focus (((repeat (with_reducible first | assumption | exact Nat.le_refl _ | refine BW.le_of ?_ | refine le_alloc ?_ | refine le_drew ?_ | refine le_drewN ?_ | refine le_set ?_ | refine le_plus ?_ | omega | refine le_setA ?_)); done))) | refine Below.drew ?_ | refine below_drewN ?_ _ | (refine below_setCells ?_ ?_ _ _; rotate_left; focus (((repeat (with_reducible first | assumption | exact Nat.le_refl _ | refine BW.le_of ?_ | refine le_alloc ?_ | refine le_drew ?_ | refine le_drewN ?_ | refine le_set ?_ | refine le_plus ?_ | omega | refine le_setA ?_)); done))))); done) | (simp; done) | (repeat (first | assumption | exact Below.refl _ _ | (refine below_bw _ ?_ ?_; rotate_left; focus ((first | omega | (repeat (first | with_reducible assumption | with_reducible exact Nat.le_refl _ | refine BW.le_of ?_ | refine le_alloc ?_ | refine le_drew ?_ | refine le_drewN ?_ | refine le_set ?_ | refine le_plus ?_ | assumption | exact Nat.le_refl _))))) | (refine Below.alloc ?_ ?_ _; rotate_left; focus ((first | omega | (repeat (first | with_reducible assumption | with_reducible exact Nat.le_refl _ | refine BW.le_of ?_ | refine le_alloc ?_ | refine le_drew ?_ | refine le_drewN ?_ | refine le_set ?_ | refine le_plus ?_ | assumption | exact Nat.le_refl _))))) | (refine Below.setCell ?_ ?_ _; rotate_left; focus ((first | omega | (repeat (first | with_reducible assumption | with_reducible exact Nat.le_refl _ | refine BW.le_of ?_ | refine le_alloc ?_ | refine le_drew ?_ | refine le_drewN ?_ | refine le_set ?_ | refine le_plus ?_ | assumption | exact Nat.le_refl _))))) | refine Below.drew ?_ | refine below_drewN ?_ _ | (refine below_setCells ?_ ?_ _ _; rotate_left; focus ((first | omega | (repeat (first | with_reducible assumption | with_reducible exact Nat.le_refl _ | refine BW.le_of ?_ | refine le_alloc ?_ | refine le_drew ?_ | refine le_drewN ?_ | refine le_set ?_ | refine le_plus ?_ | assumption | exact Nat.le_refl _))))))))⟩)
      · go_enter Try.func4, Try.ntmps4
        go_wp2_with ((with_reducible (first | apply Gives.call_bw (Nat.le_refl _) | apply Gives.call)); (focus (first | (with_reducible exact hcut _) | (with_reducible exact hg _) | (with_reducible exact lives01_any))); intro x; (try dsimp only [drew_heap] at x))
        all_goals first | (exfalso; omega) | (go_ret; exact ⟨rfl, by (first | ((repeat (with_reducible first | assumption | exact Below.refl _ _ | (refine below_bw _ ?_ ?_; rotate_left; focus (((repeat (with_reducible first | assumption | exact Nat.le_refl _ | refine BW.le_of ?_ | refine le_alloc ?_ | refine le_drew ?_ | refine le_drewN ?_ | refine le_set ?_ | refine le_plus ?_ | omega | refine le_setA ?_)); done))) | (refine Below.alloc ?_ ?_ _; rotate_left; focus (((repeat (with_reducible first | assumption | exact Nat.le_refl _ | refine BW.le_of ?_ | refine le_alloc ?_ | refine le_drew ?_ | refine le_drewN ?_ | refine le_set ?_ | refine le_plus ?_ | omega | refine le_setA ?_)); done))) | (refine Below.setCell ?_ ?_ _; rotate_left; focus (((repeat (with_reducible first | assumption | exact Nat.le_refl _ | refine BW.le_of ?_ | refine le_alloc ?_ | refine le_drew ?_ | refine le_drewN ?_ | refine le_set ?_ | refine le_plus ?_ | omega | refine le_setA ?_)); done))) | refine Below.drew ?_ | refine below_drewN ?_ _ | (refine below_setCells ?_ ?_ _ _; rotate_left; focus (((repeat (with_reducible first | assumption | exact Nat.le_refl _ | refine BW.le_of ?_ | refine le_alloc ?_ | refine le_drew ?_ | refine le_drewN ?_ | refine le_set ?_ | refine le_plus ?_ | omega | refine le_setA ?_)); done))))); done) | (simp; done) | (repeat (first | assumption | exact Below.refl _ _ | (refine below_bw _ ?_ ?_; rotate_left; focus ((first | omega | (repeat (first | with_reducible assumption | with_reducible exact Nat.le_refl _ | refine BW.le_of ?_ | refine le_alloc ?_ | refine le_drew ?_ | refine le_drewN ?_ | refine le_set ?_ | refine le_plus ?_ | assumption | exact Nat.le_refl _))))) | (refine Below.alloc ?_ ?_ _; rotate_left; focus ((first | omega | (repeat (first | with_reducible assumption | with_reducible exact Nat.le_refl _ | refine BW.le_of ?_ | refine le_alloc ?_ | refine le_drew ?_ | refine le_drewN ?_ | refine le_set ?_ | refine le_plus ?_ | assumption | exact Nat.le_refl _))))) | (refine Below.setCell ?_ ?_ _; rotate_left; focus ((first | omega | (repeat (first | with_reducible assumption | with_reducible exact Nat.le_refl _ | refine BW.le_of ?_ | refine le_alloc ?_ | refine le_drew ?_ | refine le_drewN ?_ | refine le_set ?_ | refine le_plus ?_ | assumption | exact Nat.le_refl _))))) | refine Below.drew ?_ | refine below_drewN ?_ _ | (refine below_setCells ?_ ?_ _ _; rotate_left; focus ((first | omega | (repeat (first | with_reducible assumption | with_reducible exact Nat.le_refl _ | refine BW.le_of ?_ | refine le_alloc ?_ | refine le_drew ?_ | refine le_drewN ?_ | refine le_set ?_ | refine le_plus ?_ | assumption | exact Nat.le_refl _))))))))⟩)
    · have hg : ∀ w, Gives Try.prog 11 #[.string c, .int .i64 i, .int .i64 m] w (.tuple #[.int .u64 (numL ((c.data.toList.drop i).take m) : Int), .int .i64 0]) := fun w => get_any hm (by omega) (by omega)
      have hn : ∀ w, Gives Try.prog 16 #[.string (c.extract i (i + m))] w (.int .u64 (numL ((c.data.toList.drop i).take m) : Int)) := fun w => by
        have h := rnum_any (s := c.extract i (i + m)) (w := w) (by rw [← size_toList, toList_extract, List.length_take]; omega)
        rw [toList_extract, Nat.add_sub_cancel_left] at h
        exact h
      go_enter Try.func4, Try.ntmps4
      go_wp2_with ((with_reducible (first | apply Gives.call_bw (Nat.le_refl _) | apply Gives.call)); (focus (first | (with_reducible exact hcut _) | (with_reducible exact hg _) | (with_reducible exact hn _) | (with_reducible exact lives01_any))); intro x; (try dsimp only [drew_heap] at x))
      all_goals first | (exfalso; omega) | (go_ret; exact ⟨rfl, by (first | ((repeat (with_reducible first | assumption | exact Below.refl _ _ | (refine below_bw _ ?_ ?_; rotate_left; focus (((repeat (with_reducible first | assumption | exact Nat.le_refl _ | refine BW.le_of ?_ | refine le_alloc ?_ | refine le_drew ?_ | refine le_drewN ?_ | refine le_set ?_ | refine le_plus ?_ | omega | refine le_setA ?_)); done))) | (refine Below.alloc ?_ ?_ _; rotate_left; focus (((repeat (with_reducible first | assumption | exact Nat.le_refl _ | refine BW.le_of ?_ | refine le_alloc ?_ | refine le_drew ?_ | refine le_drewN ?_ | refine le_set ?_ | refine le_plus ?_ | omega | refine le_setA ?_)); done))) | (refine Below.setCell ?_ ?_ _; rotate_left; focus (((repeat (with_reducible first | assumption | exact Nat.le_refl _ | refine BW.le_of ?_ | refine le_alloc ?_ | refine le_drew ?_ | refine le_drewN ?_ | refine le_set ?_ | refine le_plus ?_ | omega | refine le_setA ?_)); done))) | refine Below.drew ?_ | refine below_drewN ?_ _ | (refine below_setCells ?_ ?_ _ _; rotate_left; focus (((repeat (with_reducible first | assumption | exact Nat.le_refl _ | refine BW.le_of ?_ | refine le_alloc ?_ | refine le_drew ?_ | refine le_drewN ?_ | refine le_set ?_ | refine le_plus ?_ | omega | refine le_setA ?_)); done))))); done) | (simp; done) | (repeat (first | assumption | exact Below.refl _ _ | (refine below_bw _ ?_ ?_; rotate_left; focus ((first | omega | (repeat (first | with_reducible assumption | with_reducible exact Nat.le_refl _ | refine BW.le_of ?_ | refine le_alloc ?_ | refine le_drew ?_ | refine le_drewN ?_ | refine le_set ?_ | refine le_plus ?_ | assumption | exact Nat.le_refl _))))) | (refine Below.alloc ?_ ?_ _; rotate_left; focus ((first | omega | (repeat (first | with_reducible assumption | with_reducible exact Nat.le_refl _ | refine BW.le_of ?_ | refine le_alloc ?_ | refine le_drew ?_ | refine le_drewN ?_ | refine le_set ?_ | refine le_plus ?_ | assumption | exact Nat.le_refl _))))) | (refine Below.setCell ?_ ?_ _; rotate_left; focus ((first | omega | (repeat (first | with_reducible assumption | with_reducible exact Nat.le_refl _ | refine BW.le_of ?_ | refine le_alloc ?_ | refine le_drew ?_ | refine le_drewN ?_ | refine le_set ?_ | refine le_plus ?_ | assumption | exact Nat.le_refl _))))) | refine Below.drew ?_ | refine below_drewN ?_ _ | (refine below_setCells ?_ ?_ _ _; rotate_left; focus ((first | omega | (repeat (first | with_reducible assumption | with_reducible exact Nat.le_refl _ | refine BW.le_of ?_ | refine le_alloc ?_ | refine le_drew ?_ | refine le_drewN ?_ | refine le_set ?_ | refine le_plus ?_ | assumption | exact Nat.le_refl _))))))))⟩)
set_option maxRecDepth 100000 in
theorem octetGets_lifted (os : Os) (started : os.Started) (H : Type) (enc : TypeId × Value → H) :
    ReturnsInHanded {} Try.checked os 4 .any (Rows.octetGetsSpec.pre6 enc Try.prog Try.f4 Rows.octetGetsRow.domain false) (Rows.octetGetsSpec.post enc Try.prog Try.f4 false true false false) := by
  refine lifted_of_walk (C := Try.checked) (tb := 4) own started (by kernel_rfl) Try.func4
    (ChangeSpec.witness6 (enc := enc) (C := Try.checked) false ⟨#[], #[.string .empty, .int .i64 0, .int .i64 0], []⟩ 8 (by kernel_rfl) (by kernel_rfl) (by kernel_rfl) (by kernel_rfl))
    (by kernel_rfl) Try.underlying4 (by kernel_rfl) (by kernel_rfl) rfl ?_ ?_
  · intro ds hl
    match ds, hl with
    | [d0, d1, d2], _ => exact ⟨rfl, rfl, rfl⟩
  · intro W base args ds ps hval hA hfz
    have hA' : DataW.TrodAll enc Try.prog W 0 (fun _ => true) true Try.f4.params.toList args.toList ds ps := hA
    rw [Try.params4] at hA'
    obtain ⟨v0, vs0, d0, ds0, p0, q0, hargs0, rfl, rfl, h0, r0⟩ := trodAll_cons hA'
    obtain ⟨v1, vs1, d1, ds1, p1, q1, hargs1, rfl, rfl, h1, r1⟩ := trodAll_cons r0
    obtain ⟨v2, vs2, d2, ds2, p2, q2, hargs2, rfl, rfl, h2, r2⟩ := trodAll_cons r1
    obtain ⟨hvs, rfl, rfl⟩ := trodAll_nil r2
    obtain rfl : args = #[v0, v1, v2] := by cases args; simp_all
    have g0 := hval 0 9 v0 rfl rfl
    have g1 := hval 1 3 v1 rfl rfl
    have g2 := hval 2 3 v2 rfl rfl
    obtain ⟨s, rfl, _⟩ := open_str Try.underlying9 g0
    obtain ⟨i, rfl, k1, k2⟩ := open_i64 Try.underlying3 g1
    obtain ⟨m, rfl, k3, k4⟩ := open_i64 Try.underlying3 g2
    exact gets_walk ⟨k1, k2⟩ ⟨k3, k4⟩
theorem octetGets_proved : Rows.OctetGetsSaid :=
  OpenClaim.holds_of_wide 4 Try.f4 rfl rfl rfl rfl rfl rfl rfl ⟨rfl, rfl, rfl, rfl, rfl⟩ rfl rfl rfl rfl rfl (by kernel_rfl) Try.func4 (by kernel_rfl)
    (of_decide_eq_true (by kernel_rfl)) (by unfold Func.isWrapper; first | (rw [if_pos (by decide +kernel)]; kernel_rfl) | (rw [if_neg (by decide +kernel)]; exact ⟨rfl, rfl⟩))
    (fun os started H enc _ => octetGets_lifted os started H enc)

theorem hexes_walk {s t : ByteArray} {w : World} : Gives Try.prog 6 #[.string s, .string t] w (.bool true) := by
  refine Gives.of ?_
  have hcut : ∀ w, Gives Try.prog 15 #[.string s, .int .i64 40] w (.string (s.extract 0 40)) := fun w => cut_any
  have hcut2 : ∀ w, Gives Try.prog 15 #[.string t, .int .i64 40] w (.string (t.extract 0 40)) := fun w => cut_any
  have hz := cut_size s 40
  have hz2 := cut_size t 40
  generalize s.extract 0 40 = c at *
  generalize t.extract 0 40 = d at *
  have hh : ∀ w, Gives Try.prog 21 #[.string c] w (.string (str (hexL c.data.toList))) := fun w => hex_any (by omega)
  have hrh : ∀ w, Gives Try.prog 23 #[.string c] w (.string (str (hexL c.data.toList))) := fun w => rhex_any (by omega)
  have hun : ∀ w, Gives Try.prog 20 #[.string (str (hexL c.data.toList))] w (.tuple #[.string c, .int .i64 0]) := fun w => by
    have h := unhex_any (s := str (hexL c.data.toList)) (w := w) (by rw [str_size, hexL_length, size_toList]; omega)
    rw [str_toList, unhex_hex, unhexV, str_of] at h
    exact h
  cases hd : unhexL d.data.toList
  · have hu : ∀ w, Gives Try.prog 20 #[.string d] w (.tuple #[.string ⟨#[]⟩, .int .i64 2]) := fun w => by
      have h := unhex_any (s := d) (w := w) (by omega)
      rw [hd] at h
      exact h
    have hr : ∀ w, Gives Try.prog 22 #[.string d] w (.tuple #[.string ⟨#[]⟩, .bool false]) := fun w => by
      have h := runhex_any (s := d) (w := w) (by omega)
      rw [hd] at h
      exact h
    clear hd
    go_enter Try.func6, Try.ntmps6
    go_wp2_with ((with_reducible (first | apply Gives.call_bw (Nat.le_refl _) | apply Gives.call)); (focus (first | (with_reducible exact hcut _) | (with_reducible exact hcut2 _) | (with_reducible exact hh _) | (with_reducible exact hrh _) | (with_reducible exact hun _) | (with_reducible exact hu _) | (with_reducible exact hr _) | (with_reducible exact lives01_any))); intro x; (try dsimp only [drew_heap] at x))
    go_ret
    exact ⟨rfl, by (first | ((repeat (with_reducible first | assumption | exact Below.refl _ _ | (refine below_bw _ ?_ ?_; rotate_left; focus (((repeat (with_reducible first | assumption | exact Nat.le_refl _ | refine BW.le_of ?_ | refine le_alloc ?_ | refine le_drew ?_ | refine le_drewN ?_ | refine le_set ?_ | refine le_plus ?_ | omega | refine le_setA ?_)); done))) | (refine Below.alloc ?_ ?_ _; rotate_left; focus (((repeat (with_reducible first | assumption | exact Nat.le_refl _ | refine BW.le_of ?_ | refine le_alloc ?_ | refine le_drew ?_ | refine le_drewN ?_ | refine le_set ?_ | refine le_plus ?_ | omega | refine le_setA ?_)); done))) | (refine Below.setCell ?_ ?_ _; rotate_left; focus (((repeat (with_reducible first | assumption | exact Nat.le_refl _ | refine BW.le_of ?_ | refine le_alloc ?_ | refine le_drew ?_ | refine le_drewN ?_ | refine le_set ?_ | refine le_plus ?_ | omega | refine le_setA ?_)); done))) | refine Below.drew ?_ | refine below_drewN ?_ _ | (refine below_setCells ?_ ?_ _ _; rotate_left; focus (((repeat (with_reducible first | assumption | exact Nat.le_refl _ | refine BW.le_of ?_ | refine le_alloc ?_ | refine le_drew ?_ | refine le_drewN ?_ | refine le_set ?_ | refine le_plus ?_ | omega | refine le_setA ?_)); done))))); done) | (simp; done) | (repeat (first | assumption | exact Below.refl _ _ | (refine below_bw _ ?_ ?_; rotate_left; focus ((first | omega | (repeat (first | with_reducible assumption | with_reducible exact Nat.le_refl _ | refine BW.le_of ?_ | refine le_alloc ?_ | refine le_drew ?_ | refine le_drewN ?_ | refine le_set ?_ | refine le_plus ?_ | assumption | exact Nat.le_refl _))))) | (refine Below.alloc ?_ ?_ _; rotate_left; focus ((first | omega | (repeat (first | with_reducible assumption | with_reducible exact Nat.le_refl _ | refine BW.le_of ?_ | refine le_alloc ?_ | refine le_drew ?_ | refine le_drewN ?_ | refine le_set ?_ | refine le_plus ?_ | assumption | exact Nat.le_refl _))))) | (refine Below.setCell ?_ ?_ _; rotate_left; focus ((first | omega | (repeat (first | with_reducible assumption | with_reducible exact Nat.le_refl _ | refine BW.le_of ?_ | refine le_alloc ?_ | refine le_drew ?_ | refine le_drewN ?_ | refine le_set ?_ | refine le_plus ?_ | assumption | exact Nat.le_refl _))))) | refine Below.drew ?_ | refine below_drewN ?_ _ | (refine below_setCells ?_ ?_ _ _; rotate_left; focus ((first | omega | (repeat (first | with_reducible assumption | with_reducible exact Nat.le_refl _ | refine BW.le_of ?_ | refine le_alloc ?_ | refine le_drew ?_ | refine le_drewN ?_ | refine le_set ?_ | refine le_plus ?_ | assumption | exact Nat.le_refl _))))))))⟩
  · rename_i l
    have hu : ∀ w, Gives Try.prog 20 #[.string d] w (.tuple #[.string (str l), .int .i64 0]) := fun w => by
      have h := unhex_any (s := d) (w := w) (by omega)
      rw [hd] at h
      exact h
    have hr : ∀ w, Gives Try.prog 22 #[.string d] w (.tuple #[.string (str l), .bool true]) := fun w => by
      have h := runhex_any (s := d) (w := w) (by omega)
      rw [hd] at h
      exact h
    clear hd
    go_enter Try.func6, Try.ntmps6
    go_wp2_with ((with_reducible (first | apply Gives.call_bw (Nat.le_refl _) | apply Gives.call)); (focus (first | (with_reducible exact hcut _) | (with_reducible exact hcut2 _) | (with_reducible exact hh _) | (with_reducible exact hrh _) | (with_reducible exact hun _) | (with_reducible exact hu _) | (with_reducible exact hr _) | (with_reducible exact lives01_any))); intro x; (try dsimp only [drew_heap] at x))
    go_ret
    exact ⟨rfl, by (first | ((repeat (with_reducible first | assumption | exact Below.refl _ _ | (refine below_bw _ ?_ ?_; rotate_left; focus (((repeat (with_reducible first | assumption | exact Nat.le_refl _ | refine BW.le_of ?_ | refine le_alloc ?_ | refine le_drew ?_ | refine le_drewN ?_ | refine le_set ?_ | refine le_plus ?_ | omega | refine le_setA ?_)); done))) | (refine Below.alloc ?_ ?_ _; rotate_left; focus (((repeat (with_reducible first | assumption | exact Nat.le_refl _ | refine BW.le_of ?_ | refine le_alloc ?_ | refine le_drew ?_ | refine le_drewN ?_ | refine le_set ?_ | refine le_plus ?_ | omega | refine le_setA ?_)); done))) | (refine Below.setCell ?_ ?_ _; rotate_left; focus (((repeat (with_reducible first | assumption | exact Nat.le_refl _ | refine BW.le_of ?_ | refine le_alloc ?_ | refine le_drew ?_ | refine le_drewN ?_ | refine le_set ?_ | refine le_plus ?_ | omega | refine le_setA ?_)); done))) | refine Below.drew ?_ | refine below_drewN ?_ _ | (refine below_setCells ?_ ?_ _ _; rotate_left; focus (((repeat (with_reducible first | assumption | exact Nat.le_refl _ | refine BW.le_of ?_ | refine le_alloc ?_ | refine le_drew ?_ | refine le_drewN ?_ | refine le_set ?_ | refine le_plus ?_ | omega | refine le_setA ?_)); done))))); done) | (simp; done) | (repeat (first | assumption | exact Below.refl _ _ | (refine below_bw _ ?_ ?_; rotate_left; focus ((first | omega | (repeat (first | with_reducible assumption | with_reducible exact Nat.le_refl _ | refine BW.le_of ?_ | refine le_alloc ?_ | refine le_drew ?_ | refine le_drewN ?_ | refine le_set ?_ | refine le_plus ?_ | assumption | exact Nat.le_refl _))))) | (refine Below.alloc ?_ ?_ _; rotate_left; focus ((first | omega | (repeat (first | with_reducible assumption | with_reducible exact Nat.le_refl _ | refine BW.le_of ?_ | refine le_alloc ?_ | refine le_drew ?_ | refine le_drewN ?_ | refine le_set ?_ | refine le_plus ?_ | assumption | exact Nat.le_refl _))))) | (refine Below.setCell ?_ ?_ _; rotate_left; focus ((first | omega | (repeat (first | with_reducible assumption | with_reducible exact Nat.le_refl _ | refine BW.le_of ?_ | refine le_alloc ?_ | refine le_drew ?_ | refine le_drewN ?_ | refine le_set ?_ | refine le_plus ?_ | assumption | exact Nat.le_refl _))))) | refine Below.drew ?_ | refine below_drewN ?_ _ | (refine below_setCells ?_ ?_ _ _; rotate_left; focus ((first | omega | (repeat (first | with_reducible assumption | with_reducible exact Nat.le_refl _ | refine BW.le_of ?_ | refine le_alloc ?_ | refine le_drew ?_ | refine le_drewN ?_ | refine le_set ?_ | refine le_plus ?_ | assumption | exact Nat.le_refl _))))))))⟩
set_option maxRecDepth 100000 in
theorem octetHex_lifted (os : Os) (started : os.Started) (H : Type) (enc : TypeId × Value → H) :
    ReturnsInHanded {} Try.checked os 6 .any (Rows.octetHexSpec.pre6 enc Try.prog Try.f6 Rows.octetHexRow.domain false) (Rows.octetHexSpec.post enc Try.prog Try.f6 false true false false) := by
  refine lifted_of_walk (C := Try.checked) (tb := 4) own started (by kernel_rfl) Try.func6
    (ChangeSpec.witness6 (enc := enc) (C := Try.checked) false ⟨#[], #[.string .empty, .string .empty], []⟩ 8 (by kernel_rfl) (by kernel_rfl) (by kernel_rfl) (by kernel_rfl))
    (by kernel_rfl) Try.underlying4 (by kernel_rfl) (by kernel_rfl) rfl ?_ ?_
  · intro ds hl
    match ds, hl with
    | [d0, d1], _ => exact ⟨rfl, rfl, rfl⟩
  · intro W base args ds ps hval hA hfz
    have hA' : DataW.TrodAll enc Try.prog W 0 (fun _ => true) true Try.f6.params.toList args.toList ds ps := hA
    rw [Try.params6] at hA'
    obtain ⟨v0, vs0, d0, ds0, p0, q0, hargs0, rfl, rfl, h0, r0⟩ := trodAll_cons hA'
    obtain ⟨v1, vs1, d1, ds1, p1, q1, hargs1, rfl, rfl, h1, r1⟩ := trodAll_cons r0
    obtain ⟨hvs, rfl, rfl⟩ := trodAll_nil r1
    obtain rfl : args = #[v0, v1] := by cases args; simp_all
    have g0 := hval 0 9 v0 rfl rfl
    have g1 := hval 1 9 v1 rfl rfl
    obtain ⟨s, rfl, _⟩ := open_str Try.underlying9 g0
    obtain ⟨t, rfl, _⟩ := open_str Try.underlying9 g1
    exact hexes_walk
theorem octetHex_proved : Rows.OctetHexSaid :=
  OpenClaim.holds_of_wide 6 Try.f6 rfl rfl rfl rfl rfl rfl rfl ⟨rfl, rfl, rfl, rfl, rfl⟩ rfl rfl rfl rfl rfl (by kernel_rfl) Try.func6 (by kernel_rfl)
    (of_decide_eq_true (by kernel_rfl)) (by unfold Func.isWrapper; first | (rw [if_pos (by decide +kernel)]; kernel_rfl) | (rw [if_neg (by decide +kernel)]; exact ⟨rfl, rfl⟩))
    (fun os started H enc _ => octetHex_lifted os started H enc)

theorem bits_walk {n v : Nat} {a b : Int} {w : World} (hn : n < 18446744073709551616) (hv : v < 18446744073709551616) :
    Gives Try.prog 5 #[.agg #[.int .u64 n, .int .i64 a, .int .i64 b, .int .u64 v]] w (.bool true) := by
  refine Gives.of ?_
  have hs := setN_lt n (wn a 64) (wn b 64) v
  go_enter Try.func5, Try.ntmps5
  go_wp2_with fail
  ((with_reducible first | refine wp_region_bx (Nat.le_refl _) (by kernel_rfl) (by kernel_rfl) ?_ | refine wp_region_bw (by kernel_rfl) (by kernel_rfl) ?_); (repeat (go_big_quiet_step (((with_reducible apply Gives.bw (Nat.le_refl _)); first | (with_reducible exact set_any (by assumption) (by assumption)) | (with_reducible exact rset_any (by assumption) (by assumption)))))); refine wpQuiet_nil ?_; rintro _ ⟨x, rfl⟩)
  go_wp2_with fail
  ((with_reducible first | refine wp_region_bx (Nat.le_refl _) (by kernel_rfl) (by kernel_rfl) ?_ | refine wp_region_bw (by kernel_rfl) (by kernel_rfl) ?_); (repeat (go_big_quiet_step (((with_reducible apply Gives.bw (Nat.le_refl _)); first | (with_reducible exact bits_any (by assumption)) | (with_reducible exact rbits_any (by assumption)) | (with_reducible exact lives01_any))))); refine wpQuiet_nil ?_; rintro _ ⟨x, rfl⟩)
  go_wp2
  go_ret
  exact ⟨rfl, by (first | ((repeat (with_reducible first | assumption | exact Below.refl _ _ | (refine below_bw _ ?_ ?_; rotate_left; focus (((repeat (with_reducible first | assumption | exact Nat.le_refl _ | refine BW.le_of ?_ | refine le_alloc ?_ | refine le_drew ?_ | refine le_drewN ?_ | refine le_set ?_ | refine le_plus ?_ | omega | refine le_setA ?_)); done))) | (refine Below.alloc ?_ ?_ _; rotate_left; focus (((repeat (with_reducible first | assumption | exact Nat.le_refl _ | refine BW.le_of ?_ | refine le_alloc ?_ | refine le_drew ?_ | refine le_drewN ?_ | refine le_set ?_ | refine le_plus ?_ | omega | refine le_setA ?_)); done))) | (refine Below.setCell ?_ ?_ _; rotate_left; focus (((repeat (with_reducible first | assumption | exact Nat.le_refl _ | refine BW.le_of ?_ | refine le_alloc ?_ | refine le_drew ?_ | refine le_drewN ?_ | refine le_set ?_ | refine le_plus ?_ | omega | refine le_setA ?_)); done))) | refine Below.drew ?_ | refine below_drewN ?_ _ | (refine below_setCells ?_ ?_ _ _; rotate_left; focus (((repeat (with_reducible first | assumption | exact Nat.le_refl _ | refine BW.le_of ?_ | refine le_alloc ?_ | refine le_drew ?_ | refine le_drewN ?_ | refine le_set ?_ | refine le_plus ?_ | omega | refine le_setA ?_)); done))))); done) | (simp; done) | (repeat (first | assumption | exact Below.refl _ _ | (refine below_bw _ ?_ ?_; rotate_left; focus ((first | omega | (repeat (first | with_reducible assumption | with_reducible exact Nat.le_refl _ | refine BW.le_of ?_ | refine le_alloc ?_ | refine le_drew ?_ | refine le_drewN ?_ | refine le_set ?_ | refine le_plus ?_ | assumption | exact Nat.le_refl _))))) | (refine Below.alloc ?_ ?_ _; rotate_left; focus ((first | omega | (repeat (first | with_reducible assumption | with_reducible exact Nat.le_refl _ | refine BW.le_of ?_ | refine le_alloc ?_ | refine le_drew ?_ | refine le_drewN ?_ | refine le_set ?_ | refine le_plus ?_ | assumption | exact Nat.le_refl _))))) | (refine Below.setCell ?_ ?_ _; rotate_left; focus ((first | omega | (repeat (first | with_reducible assumption | with_reducible exact Nat.le_refl _ | refine BW.le_of ?_ | refine le_alloc ?_ | refine le_drew ?_ | refine le_drewN ?_ | refine le_set ?_ | refine le_plus ?_ | assumption | exact Nat.le_refl _))))) | refine Below.drew ?_ | refine below_drewN ?_ _ | (refine below_setCells ?_ ?_ _ _; rotate_left; focus ((first | omega | (repeat (first | with_reducible assumption | with_reducible exact Nat.le_refl _ | refine BW.le_of ?_ | refine le_alloc ?_ | refine le_drew ?_ | refine le_drewN ?_ | refine le_set ?_ | refine le_plus ?_ | assumption | exact Nat.le_refl _))))))))⟩
set_option maxRecDepth 100000 in
theorem octetBits_lifted (os : Os) (started : os.Started) (H : Type) (enc : TypeId × Value → H) :
    ReturnsInHanded {} Try.checked os 5 .any (Rows.octetBitsSpec.pre6 enc Try.prog Try.f5 Rows.octetBitsRow.domain false) (Rows.octetBitsSpec.post enc Try.prog Try.f5 false true false false) := by
  refine lifted_of_walk (C := Try.checked) (tb := 4) own started (by kernel_rfl) Try.func5
    (ChangeSpec.witness6 (enc := enc) (C := Try.checked) false ⟨#[], #[.agg #[.int .u64 0, .int .i64 0, .int .i64 0, .int .u64 0]], []⟩ 8 (by kernel_rfl) (by kernel_rfl) (by kernel_rfl) (by kernel_rfl))
    (by kernel_rfl) Try.underlying4 (by kernel_rfl) (by kernel_rfl) rfl ?_ ?_
  · intro ds hl
    match ds, hl with
    | [d0], _ => exact ⟨rfl, rfl, rfl⟩
  · intro W base args ds ps hval hA hfz
    have hA' : DataW.TrodAll enc Try.prog W 0 (fun _ => true) true Try.f5.params.toList args.toList ds ps := hA
    rw [Try.params5] at hA'
    obtain ⟨v0, vs0, d0, ds0, p0, q0, hargs0, rfl, rfl, h0, r0⟩ := trodAll_cons hA'
    obtain ⟨hvs, rfl, rfl⟩ := trodAll_nil r0
    obtain rfl : args = #[v0] := by cases args; simp_all
    have g0 := hval 0 35 v0 rfl rfl
    obtain ⟨cs, rfl, hc⟩ := open_agg_struct (ts := [22, 3, 3, 22]) Try.underlying35 (by kernel_rfl) (by kernel_rfl) g0
    obtain ⟨x0, cs, rfl, k0, hc⟩ := cellsAll_cons hc
    obtain ⟨x1, cs, rfl, k1, hc⟩ := cellsAll_cons hc
    obtain ⟨x2, cs, rfl, k2, hc⟩ := cellsAll_cons hc
    obtain ⟨x3, cs, rfl, k3, hc⟩ := cellsAll_cons hc
    obtain rfl := cellsAll_nil hc
    obtain ⟨n, rfl, hn⟩ := cell_u64 Try.underlying22 k0
    obtain ⟨a, rfl, _⟩ := cell_i64 Try.underlying3 k1
    obtain ⟨b, rfl, _⟩ := cell_i64 Try.underlying3 k2
    obtain ⟨v, rfl, hv⟩ := cell_u64 Try.underlying22 k3
    exact bits_walk hn hv
theorem octetBits_proved : Rows.OctetBitsSaid :=
  OpenClaim.holds_of_wide 5 Try.f5 rfl rfl rfl rfl rfl rfl rfl ⟨rfl, rfl, rfl, rfl, rfl⟩ rfl rfl rfl rfl rfl (by kernel_rfl) Try.func5 (by kernel_rfl)
    (of_decide_eq_true (by kernel_rfl)) (by unfold Func.isWrapper; first | (rw [if_pos (by decide +kernel)]; kernel_rfl) | (rw [if_neg (by decide +kernel)]; exact ⟨rfl, rfl⟩))
    (fun os started H enc _ => octetBits_lifted os started H enc)

end Go.Proofs.Ytkkmjlihfnmbbaa

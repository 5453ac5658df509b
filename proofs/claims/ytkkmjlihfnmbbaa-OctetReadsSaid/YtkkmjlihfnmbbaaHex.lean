/-
  Contracts of octet.Hex, Unhex and of the reference's.
-/
import Derived.Test.YtkkmjlihfnmbbaaOct
namespace Go.Proofs.Ytkkmjlihfnmbbaa
open Go.ChangeShapes Go.WideShapes Go.ChangeAt Go.RowKit
set_option linter.unusedVariables false
set_option linter.unusedSimpArgs false

def digB : ByteArray := ⟨#[48, 49, 50, 51, 52, 53, 54, 55, 56, 57, 97, 98, 99, 100, 101, 102]⟩
def sign (n : Nat) : UInt8 := digB.data.toList.getD n 0
def hexB (b : UInt8) : List UInt8 := [sign (b.toNat / 16), sign (b.toNat % 16)]
def hexL (l : List UInt8) : List UInt8 := l.flatMap hexB
theorem hexL_snoc (l : List UInt8) (b : UInt8) : hexL (l ++ [b]) = hexL l ++ hexB b := by simp [hexL]
theorem hexL_length (l : List UInt8) : (hexL l).length = 2 * l.length := by
  induction l with
  | nil => rfl
  | cons b l ih => simp [hexL, hexB] at *; omega

theorem run_dig {n : Nat} (h : n < 16) (x : Int) (hx : x = (n : Int)) (W : World) :
    (Instr.index 9 (.string ⟨#[48, 49, 50, 51, 52, 53, 54, 55, 56, 57, 97, 98, 99, 100, 101, 102]⟩) (.int .u8 x)).run Try.prog W = .ok (.int .u8 ((sign n).toNat : Int)) W := by
  subst hx
  have hc : n = 0 ∨ n = 1 ∨ n = 2 ∨ n = 3 ∨ n = 4 ∨ n = 5 ∨ n = 6 ∨ n = 7 ∨ n = 8 ∨ n = 9 ∨ n = 10 ∨ n = 11 ∨ n = 12 ∨ n = 13 ∨ n = 14 ∨ n = 15 := by omega
  rcases hc with rfl | rfl | rfl | rfl | rfl | rfl | rfl | rfl | rfl | rfl | rfl | rfl | rfl | rfl | rfl | rfl <;> rfl
theorem hex_any {s : ByteArray} {w : World} (hs : s.size ≤ 1000000) : Gives Try.prog 21 #[.string s] w (.string (str (hexL s.data.toList))) := by
  refine Gives.of ?_
  have hmk : ∀ W : World, (Instr.makeSlice 58 (.int .i64 0) (.int .i64 ((s.size : Int) * 2))).run Try.prog W = .ok (.slice (some ⟨W.heap.size, 0, none⟩) 0 (s.size * 2)) (W.alloc (.cells (List.replicate (s.size * 2) (Value.int .u8 0)).toArray 5)) := fun W => by
    have h := run_make1 elemU8 (z := .int .u8 0) (by kernel_rfl) rfl 0 (s.size * 2) (by omega) (by omega) (by omega) W
    rw [show (((s.size * 2 : Nat) : Int)) = (s.size : Int) * 2 by omega] at h
    exact h
  have hnew := Row.new w 5 (List.replicate (s.size * 2) (Value.int .u8 0)).toArray
  have HN := Lib.hid hnew; clear hnew
  go_enter Try.func21, Try.ntmps21
  go_wp2
  go_loopw [3, 4, 11] (fun v _ i wr => ∃ k : Nat, k ≤ s.size ∧ i = .int .i64 k ∧ wr.ownsRow w.heap.size 5 1 v (2 * k) ((hexL (s.data.toList.take k)).map byteV) ∧ Below w.heap.size w wr) (fun _ _ i _ => s.size - (intOf i).toNat)
  case atStart => exact ⟨0, by omega, rfl, ⟨by simp [hexL], .inr ⟨w.heap.size, s.size * 2, _, rfl, Nat.le_refl _, HN.out, by omega, by simp only [maxLen]; omega, by simp, by simp [hexL]⟩⟩, by (first | ((repeat (with_reducible first | assumption | exact Below.refl _ _ | (refine below_bw _ ?_ ?_; rotate_left; focus (((repeat (with_reducible first | assumption | exact Nat.le_refl _ | refine BW.le_of ?_ | refine le_alloc ?_ | refine le_drew ?_ | refine le_drewN ?_ | refine le_set ?_ | refine le_plus ?_ | omega | refine le_setA ?_)); done))) | (refine Below.alloc ?_ ?_ _; rotate_left; focus (((repeat (with_reducible first | assumption | exact Nat.le_refl _ | refine BW.le_of ?_ | refine le_alloc ?_ | refine le_drew ?_ | refine le_drewN ?_ | refine le_set ?_ | refine le_plus ?_ | omega | refine le_setA ?_)); done))) | (refine Below.setCell ?_ ?_ _; rotate_left; focus (((repeat (with_reducible first | assumption | exact Nat.le_refl _ | refine BW.le_of ?_ | refine le_alloc ?_ | refine le_drew ?_ | refine le_drewN ?_ | refine le_set ?_ | refine le_plus ?_ | omega | refine le_setA ?_)); done))) | refine Below.drew ?_ | refine below_drewN ?_ _ | (refine below_setCells ?_ ?_ _ _; rotate_left; focus (((repeat (with_reducible first | assumption | exact Nat.le_refl _ | refine BW.le_of ?_ | refine le_alloc ?_ | refine le_drew ?_ | refine le_drewN ?_ | refine le_set ?_ | refine le_plus ?_ | omega | refine le_setA ?_)); done))))); done) | (simp; done) | (repeat (first | assumption | exact Below.refl _ _ | (refine below_bw _ ?_ ?_; rotate_left; focus ((first | omega | (repeat (first | with_reducible assumption | with_reducible exact Nat.le_refl _ | refine BW.le_of ?_ | refine le_alloc ?_ | refine le_drew ?_ | refine le_drewN ?_ | refine le_set ?_ | refine le_plus ?_ | assumption | exact Nat.le_refl _))))) | (refine Below.alloc ?_ ?_ _; rotate_left; focus ((first | omega | (repeat (first | with_reducible assumption | with_reducible exact Nat.le_refl _ | refine BW.le_of ?_ | refine le_alloc ?_ | refine le_drew ?_ | refine le_drewN ?_ | refine le_set ?_ | refine le_plus ?_ | assumption | exact Nat.le_refl _))))) | (refine Below.setCell ?_ ?_ _; rotate_left; focus ((first | omega | (repeat (first | with_reducible assumption | with_reducible exact Nat.le_refl _ | refine BW.le_of ?_ | refine le_alloc ?_ | refine le_drew ?_ | refine le_drewN ?_ | refine le_set ?_ | refine le_plus ?_ | assumption | exact Nat.le_refl _))))) | refine Below.drew ?_ | refine below_drewN ?_ _ | (refine below_setCells ?_ ?_ _ _; rotate_left; focus ((first | omega | (repeat (first | with_reducible assumption | with_reducible exact Nat.le_refl _ | refine BW.le_of ?_ | refine le_alloc ?_ | refine le_drew ?_ | refine le_drewN ?_ | refine le_set ?_ | refine le_plus ?_ | assumption | exact Nat.le_refl _))))))))⟩
  case round =>
    clear HN
    obtain ⟨k, hk, rfl, hown, hbel⟩ := hrel
    by_cases hlt : k < s.size
    · have hs2 := Lib.hid (take_snocB s k hlt)
      have HO := Lib.hid hown; clear hown
      have hb := s[k].toNat_lt
      have hd1 := run_dig (n := s[k].toNat / 16) (by omega) ((s[k].toNat : Int) / 16) (by omega)
      have hd2 := run_dig (n := s[k].toNat % 16) (by omega) (bits .and .u8 (s[k].toNat : Int) 15) (by rw [show ((15 : Int)) = ((15 : Nat) : Int) from rfl, u8_and_nat _ _ (by omega) (by omega), nat_mask4])
      go_wp2
      go_region_law (refine step_appN elemU8 rfl _ _ rfl rfl rfl (by first | exact Row.new _ _ _ | exact (Row.new _ _ _).drew) rfl (by first | exact HO.out.alloc _ | exact (HO.out.alloc _).drew) (by simp [Value.oneCell']) (by simp only [List.length_cons, List.length_nil]; omega) (by simp only [maxLen, List.length_cons, List.length_nil]; omega) (by have := hbel.size; simp; omega) ?_; intro v' w' hown' hbel')
      all_goals go_wp2
      all_goals refine ⟨⟨k + 1, by omega, by go_num, ?_, hbel.trans ⟨hbel'.os, hbel'.tape, hbel'.output, by have := hbel'.size; simp at this; omega, fun i hi => (hbel'.block i hi).trans (Below.heap_alloc _ _ i (by have := hbel.size; omega))⟩⟩, by simp [intOf]; omega⟩
      all_goals
        rw [hs2.out, hexL_snoc, List.map_append, show 2 * (k + 1) = 2 * k + 2 by omega]
        exact hown'
    · obtain rfl : k = s.size := by omega
      rw [List.take_of_length_le (by rw [size_toList]; omega)] at hown
      have hconv := run_str_own (P := Try.prog) (w := wr) (dst := 9) Try.underlying58 Try.underlying5 Try.underlying9 hown
      clear hown
      go_wp2
      go_ret
      exact ⟨rfl, hbel⟩

/-- what a sign counts -/
def digN (b : Nat) : Nat := if 48 ≤ b ∧ b ≤ 57 then b - 48 else if 97 ≤ b ∧ b ≤ 102 then b - 87 else if 65 ≤ b ∧ b ≤ 70 then b - 55 else 0
def digOk (b : Nat) : Bool := decide (48 ≤ b ∧ b ≤ 57) || (decide (97 ≤ b ∧ b ≤ 102) || decide (65 ≤ b ∧ b ≤ 70))
theorem digN_lt (b : Nat) : digN b < 16 := by
  unfold digN
  repeat' split
  all_goals omega
theorem ret_ib {k : IntKind} {a a' : Int} {b b' : Bool} (h1 : a = a') (h2 : b = b') : Ending.returned (.tuple #[.int k a, .bool b]) = Ending.returned (.tuple #[.int k a', .bool b']) := by rw [h1, h2]
def unhexL : List UInt8 → Option (List UInt8)
  | [] => some []
  | [_] => none
  | a :: b :: r => if digOk a.toNat && digOk b.toNat then (unhexL r).map (UInt8.ofNat (16 * digN a.toNat + digN b.toNat) :: ·) else none
theorem digOk_sign : ∀ n, n < 16 → digOk (sign n).toNat = true ∧ digN (sign n).toNat = n := by decide
theorem unhex_hex (l : List UInt8) : unhexL (hexL l) = some l := by
  induction l with
  | nil => rfl
  | cons b l ih =>
    have hb := b.toNat_lt
    obtain ⟨h1, h2⟩ := digOk_sign (b.toNat / 16) (by omega)
    obtain ⟨h3, h4⟩ := digOk_sign (b.toNat % 16) (by omega)
    have e : hexL (b :: l) = sign (b.toNat / 16) :: sign (b.toNat % 16) :: hexL l := rfl
    rw [e, unhexL, h1, h2, h3, h4, ih, if_pos (by rfl), show 16 * (b.toNat / 16) + b.toNat % 16 = b.toNat by omega]
    simp

end Go.Proofs.Ytkkmjlihfnmbbaa
